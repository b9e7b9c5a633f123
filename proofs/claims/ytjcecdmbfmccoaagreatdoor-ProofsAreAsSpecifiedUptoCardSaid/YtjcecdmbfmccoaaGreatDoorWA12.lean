/-
  Contracts of proofs: a best history with its proof.
-/
import Derived.Test.YtjcecdmbfmccoaaGreatDoorCK
import Derived.Test.YtjcecdmbfmccoaaGreatDoorWA11
set_option linter.unusedVariables false
set_option linter.unusedSimpArgs false
set_option linter.unusedSectionVars false
namespace Go.Sl
open Go.RowKit
variable {C:Ctx}{st:List (Nat×Value)}{M:List Row}{k:List Item}{q q':Md}{all rest:List Oper}{d:Nat}{ty:TypeId}{pos:String}{after:Array Edge}{gd:Option (Nat×Bool)}
theorem G.Rw {X:Type}{g:FuncId}{f:Operand}{cap:Array Value}{args:List Operand}{vs:List Value}{at_:Array TypeId}{sz:Nat} (v:X->Value) (ad:X->Option Addr) (L:X->List (List Value)) (hf:evS st f=some (.func (.func g) #[] cap)) (ha:evL st args=some vs) (hs:bA all st gd d C.N q.ext=some q') [hF:Fun C.P g]
  (hc:∀ w,Sat C.w0 M w->Calls C.P g (vs.toArray++cap) w fun e w'=>∃ x,e=.returned (v x)/\aE w' (ad x) sz (L x)/\(∀ p,ad x=some p->w.heap.size<=p.block)/\Below w.heap.size w w')
  (h:∀ x,(∀ p,ad x=some p->C.w0.heap.size<=p.block)->G q' C all ((d,v x)::st) (aL C.w0.heap.size (ad x) sz (L x)::M) rest k) :
  G q C all st M ({ dst:=some d,op:=.call { callee:=.value f,args:=args.toArray,argTypes:=at_ },type:=ty,pos,after,guard:=gd }::rest) k:=by
 obtain ⟨g1,g2,g3⟩:=aJ hs;refine G.call (X:={ x:X // ∀ p,ad x=some p->C.w0.heap.size<=p.block }) (v:=fun x=>v x.1) (Mn:=fun x=>[aL C.w0.heap.size (ad x.1) sz (L x.1)]) g1 g2 g3 hf ha (fun w hw=>(hc w hw).mono fun e w' he=>?_) fun x=>h x.1 x.2
 obtain ⟨x,rfl,h1,h2,h3⟩:=he;exact ⟨⟨x,fun p hp=>Nat.le_trans hw.size (h2 p hp)⟩,rfl,(hw.ext h3).addFact (Nat.le_refl _) h1 fun b hb=>hw.supN h1 h2 hb⟩
section
variable {P:Program}{F:FuncId}{N:Nat}{R:Ending->World->Prop}{w0:World}{fn:Func}{u v v1 v2 v3 v4:Value}{r r1 r2 r3 r4:ResultVar}
theorem fI.QX {C:Ctx}{fn:Func}{r1 r2 r3 r4:ResultVar}{v1 v2 v3 v4:Value} (hr:fn.results=#[r1,r2,r3,r4]) (h1:cD C st M r1 v1) (h2:cD C st M r2 v2) (h3:cD C st M r3 v3) (h4:cD C st M r4 v4):fI C st M fn (.tuple #[v1,v2,v3,v4]):=.mk fun a w hf hw=>by
 simp [nU,hr,h1.run hf hw,h2.run hf hw,h3.run hf hw,h4.run hf hw]
theorem OR (hf:P.funcs[F]?=some fn) (hr:fn.results=#[r1,r2,r3,r4]) (hR:∀ w,Sat w0 M w->R (.returned (.tuple #[v1,v2,v3,v4])) w) (hv1:cD (fU P F N R w0) st M r1 v1:=by (first|(apply cD.tmp;rfl)|(apply cD.cell;rfl;(first|(apply LdV.one;(first|exact aC.P0 (by assumption) rfl|exact aC.rowS (by assumption) rfl|exact aC.Px (by assumption) rfl|(apply aC.blk;exact mm;rfl)))|(apply LdV.Pw;exact mm;rfl)|(apply LdV.part;exact mm;rfl;rfl)|(apply LdV.Pv;assumption;rfl)|(apply LdV.Ps;assumption;rfl;rfl))))) (hv2:cD (fU P F N R w0) st M r2 v2:=by (first|(apply cD.tmp;rfl)|(apply cD.cell;rfl;(first|(apply LdV.one;(first|exact aC.P0 (by assumption) rfl|exact aC.rowS (by assumption) rfl|exact aC.Px (by assumption) rfl|(apply aC.blk;exact mm;rfl)))|(apply LdV.Pw;exact mm;rfl)|(apply LdV.part;exact mm;rfl;rfl)|(apply LdV.Pv;assumption;rfl)|(apply LdV.Ps;assumption;rfl;rfl))))) (hv3:cD (fU P F N R w0) st M r3 v3:=by (first|(apply cD.tmp;rfl)|(apply cD.cell;rfl;(first|(apply LdV.one;(first|exact aC.P0 (by assumption) rfl|exact aC.rowS (by assumption) rfl|exact aC.Px (by assumption) rfl|(apply aC.blk;exact mm;rfl)))|(apply LdV.Pw;exact mm;rfl)|(apply LdV.part;exact mm;rfl;rfl)|(apply LdV.Pv;assumption;rfl)|(apply LdV.Ps;assumption;rfl;rfl))))) (hv4:cD (fU P F N R w0) st M r4 v4:=by (first|(apply cD.tmp;rfl)|(apply cD.cell;rfl;(first|(apply LdV.one;(first|exact aC.P0 (by assumption) rfl|exact aC.rowS (by assumption) rfl|exact aC.Px (by assumption) rfl|(apply aC.blk;exact mm;rfl)))|(apply LdV.Pw;exact mm;rfl)|(apply LdV.part;exact mm;rfl;rfl)|(apply LdV.Pv;assumption;rfl)|(apply LdV.Ps;assumption;rfl;rfl))))) :
  J (fU P F N R w0) st M (.code .ret::k):=GH hf (fI.QX hr hv1 hv2 hv3 hv4) hR
end
end Go.Sl
namespace Go.Proofs.YtjcecdmbfmccoaaGreatDoor
open Go.RowKit Go.Sl Go.Num
theorem DL {t:Bool}{l:List Spn}:∀ {rs:List Rn}{f e:Int}{S:List Int}{k:Nat} (_:Cn f rs e) (_:∀ r∈rs,OkR r) (_:iR t l rs S) (hk:k < rs.length),∃ A0 A A1,S=A0++A++A1/\nR t l rs[k] A/\rs[k].from_=f+A0.length
 | [],_,_,_,_,_,_,_,hk=>absurd hk (Nat.not_lt_zero _)
 | r::rs,f,e,S,0,⟨h1,_⟩,_,⟨A,B,e1,h2,_⟩,_=>⟨[],A,B,by rw [List.nil_append];exact e1,h2,by rw [List.getElem_cons_zero,List.length_nil,h1];simp⟩
 | r::rs,f,e,S,k+1,⟨h1,hc⟩,ho,⟨A,B,e1,h2,h3⟩,hk=>by
  obtain ⟨A0,A',A1,e2,h4,h5⟩:=DL hc (fun x hx=>ho x (mC _ hx)) h3 (k:=k) (by simpa using hk)
  have hl:=h2.1.len (ho r (List.mem_cons_self ..));refine ⟨A++A0,A',A1,by rw [e1,e2];simp,h4,?_⟩
  rw [List.getElem_cons_succ,h5,List.length_append];omega
def PrO (t:Bool) (l:List Spn) (f:Int) (S:List Int) (r:Rn) (p:Prf):Prop :=
 (r.tab.length=0->p.st=[]/\p.cl=[])/\(r.tab.length≠0->bP l r p=true/\dJ t l r p=true/\(∃ A0 A A1,S=A0++A++A1/\r.from_=f+A0.length/\AgP r A/\BK l r p=aI l r.from_ A)/\∀ e m,e=277760->m=10000001->∃ D,0 < D/\D<=256 ^ e/\sO t l D (D*256 ^ m) r p)
theorem PrO.well {t:Bool}{l:List Spn}{f:Int}{S:List Int}{r:Rn}{p:Prf} (h:PrO t l f S r p):bP l r p=true:=by
 by_cases h0:r.tab.length=0
 ·obtain ⟨h1,h2⟩:=h.1 h0
  unfold bP;rw [if_pos h0,h1,h2];rfl
 ·exact (h.2 h0).1
theorem PrO.cert {t:Bool}{l:List Spn}{f:Int}{S:List Int}{r:Rn}{p:Prf} (h:PrO t l f S r p):dJ t l r p=true:=by
 by_cases h0:r.tab.length=0
 ·unfold dJ
  rw [dT h0,Bool.true_or]
 ·exact (h.2 h0).2.1
theorem HE {t:Bool}{l:List Spn}{rs:List Rn}{f:Int}{S A0 A A1:List Int}{r:Rn}{vv pi:Nat->Rat}{sa:Option Addr}{sc:Nat}{ca:Option Addr}{cc:Nat} (hf:∀ s∈l,fewS s) (hR:∀ s∈l,aQ s) (hio:aR 0 l) (hr:OkR r) (h0:r.tab.length≠0) (hn:(aD r l).length<=31) (htb:r.tab.length<=64) (hS:S=A0++A++A1) (hfr:r.from_=f+A0.length) (hb:nR t l r A) (hP:qU t r l A pi vv) (hE:Gq t r l A vv):PrO t l f S r (iC t r l vv sa sc ca cc):=by
 obtain ⟨c1,c2⟩:=KA hr h0 hio hb.1 hE (sa:=sa) (sc:=sc) (ca:=ca) (cc:=cc);have hts:∀ s,s < r.tab.length->0<=tbS r s/\tbS r s<=1000:=fun s hs=>(hr.tab h0).2.2.2 _ (eZ hs)
 refine ⟨fun h=>absurd h h0,fun _=>⟨I7 h0,c1,⟨A0,A,A1,hS,hfr,hb.1,c2⟩,fun e m he hm=>⟨dM t r l,DJ,?_,?_⟩⟩⟩
 ·exact K7 hf hR hts hn htb om
 ·exact KB hP hf hR h0 (iB hio hr.rng.2.1) hts he hm (K7 hf hR hts hn htb om)
section
variable {t:Bool}{l:List Spn}{rs:List Rn}{S:List Int}{ps:List Prf}{f:Int}
theorem DM {α β:Type}{a:List α}{b:List β}{y:α×β} (h:y∈a.zip b):∃ i,∃ (h1:i < a.length) (h2:i < b.length),y=(a[i],b[i]):=by
 obtain ⟨i,hi,e⟩:=List.mem_iff_getElem.1 h;rw [List.length_zip] at hi;rw [List.getElem_zip] at e;exact ⟨i,by omega,by omega,e.symm⟩
theorem Mw (hM:Mod rs l) (h0:cU rs l=0) (hl:ps.length=rs.length) (hP:∀ i (h1:i < rs.length) (h2:i < ps.length),PrO t l f S rs[i] ps[i]):∃ D B K,Bc D B K/\∀ y∈rs.zip ps,sO t l D B y.1 y.2:=by
 obtain ⟨_,_,hR,_,hok⟩:=dY h0;obtain ⟨e,he⟩:∃ e,e=277760:=⟨_,rfl⟩;obtain ⟨m,hm⟩:∃ m,m=10000001:=⟨_,rfl⟩;obtain ⟨D,d0,d1,d2⟩:=DF (t:=t) (l:=l) (k:=e) (m:=m) (ys:=rs.zip ps) fun y hy=>by
  obtain ⟨i,h1,h2,rfl⟩:=DM hy;have hp:=hP i h1 h2;by_cases h0t:rs[i].tab.length=0
  ·obtain ⟨e1,e2⟩:=hp.1 h0t
   exact H9 (k:=0) (Nat.zero_le _) om om (hok _ (gM h1)) hM.few hR (hM.cls h0 _ (gM h1)) hp.well ⟨by rw [e1,e2];exact Nat.zero_le _,fun q hq=>by rw [e1,e2] at hq;cases hq⟩
  ·exact (hp.2 h0t).2.2.2 e m he hm
 have hn:(rs.zip ps).length<=64:=by
  rw [List.length_zip];have:=hM.len;omega
 refine ⟨D,D*256 ^ m,e*(rs.zip ps).length+m+3,H8 d0 d1 ?_,d2⟩;subst he hm;omega
theorem DN (h0:cU rs l=0) (hb:iR t l rs S) (hl:ps.length=rs.length) (hP:∀ i (h1:i < rs.length) (h2:i < ps.length),PrO t l (f0R rs) S rs[i] ps[i]):bF t rs l ps=(rQ (aI l (f0R rs) S),0):=by
 obtain ⟨hio,_,hR,_,hok⟩:=dY h0;have hw:∀ x∈rs.zip ps,bP l x.1 x.2=true:=fun y hy=>by
  obtain ⟨i,h1,h2,rfl⟩:=DM hy;exact (hP i h1 h2).well
 have hc:∀ x∈rs.zip ps,dJ t l x.1 x.2=true:=fun y hy=>by
  obtain ⟨i,h1,h2,rfl⟩:=DM hy;exact (hP i h1 h2).cert
 rw [AC h0 hl hw hc];obtain ⟨e,hcn⟩:=vH (fB h0).1;rw [EG hio hcn hok hl hb fun A r p hm h0 ha ⟨B,C,e1,e2⟩=>?_]
 obtain ⟨i,h1,h2,e3⟩:=DM hm;cases e3;have hr:=hok _ (gM h1);obtain ⟨A0,A',A1,e4,e5,ha',ht⟩:=((hP i h1 h2).2 h0).2.2.1;have l1:=ha.len' hr;have l2:=ha'.len' hr;rw [e4,List.append_assoc,List.append_assoc] at e1;obtain ⟨_,e6⟩:=List.append_inj e1 om;obtain ⟨e7,_⟩:=List.append_inj e6 om;rw [<- e7];exact ht
end
def fD (N:Nat) (p:Prf):Row:=.fact N (fun b=>sP N p.sa (p.st.map qV) b∨sP N p.ca (p.cl.map qV) b) (fun w=>qS w p) fun w w' h hw=>⟨sX w w' (fun b hb=>h b (hb.imp id .inl)) hw.1,sX w w' (fun b hb=>h b (hb.imp id .inr)) hw.2⟩
def gO (N:Nat) (a:Option Addr) (L:List Prf):Row:=.fact N (fun b=>sP N a (L.map prV) b∨∃ p∈L,sP N p.sa (p.st.map qV) b∨sP N p.ca (p.cl.map qV) b) (fun w=>bK w a L) fun w w' h hw=>⟨sX w w' (fun b hb=>h b (hb.imp id .inl)) hw.1,fun p hp=>⟨sX w w' (fun b hb=>h b (hb.imp id fun hb=>.inr ⟨p,hp,.inl hb⟩)) (hw.2 p hp).1,sX w w' (fun b hb=>h b (hb.imp id fun hb=>.inr ⟨p,hp,.inr hb⟩)) (hw.2 p hp).2⟩⟩
theorem Sat.QZ {w0 w:World}{M:List Row}{N:Nat}{p:Prf} (h:Sat w0 M w) (hm:fD N p∈M):qS w p:=h.hold _ hm
theorem Sat.PT {w0 w:World}{M:List Row}{N:Nat}{a:Option Addr}{L:List Prf} (h:Sat w0 M w) (hm:gO N a L∈M):bK w a L:=h.hold _ hm
def FrP (N:Nat) (p:Prf):Prop:=(∀ q,p.sa=some q->N<=q.block)/\∀ q,p.ca=some q->N<=q.block
theorem FrP.mono {N N':Nat}{p:Prf} (h:FrP N p) (hn:N'<=N):FrP N' p:=⟨fun q hq=>Nat.le_trans hn (h.1 q hq),fun q hq=>Nat.le_trans hn (h.2 q hq)⟩
def prf0:Prf:=⟨[],[],none,0,none,0⟩
theorem J.prf0 {C:Ctx}{st:List (Nat×Value)}{M:List Row}{k:List Item} (h:J C st (fD C.w0.heap.size prf0::M) k):J C st M k:=.mk fun a w hf hd hw=>h.go a w hf hd (hw.addFact (Nat.le_refl _) ⟨aE.nil,aE.nil⟩ fun b hb=>by
 rcases hb with ⟨h,_⟩|⟨h,_⟩<;>exact absurd h (Nat.lt_irrefl _))
section
variable {C:Ctx}{st:List (Nat×Value)}{M:List Row}{k:List Item}{q q':Md}{all rest:List Oper}{d:Nat}{ty:TypeId}{pos:String}{after:Array Edge}{gd:Option (Nat×Bool)}
theorem G.Rt {X:Type} (pf:X->Prf) {g:FuncId}{args:List Operand}{vs:List Value}{at_:Array TypeId} (v:X->Value) (ha:evL st args=some vs) (hs:bA all st gd d C.N q.ext=some q') [hF:Fun C.P g]
  (hc:∀ w,Sat C.w0 M w->Calls C.P g vs.toArray w fun e w'=>∃ x,e=.returned (v x)/\qS w' (pf x)/\(∀ p,(pf x).sa=some p->w.heap.size<=p.block)/\(∀ p,(pf x).ca=some p->w.heap.size<=p.block)/\Below w.heap.size w w')
  (h:∀ x,FrP C.w0.heap.size (pf x)->G q' C all ((d,v x)::st) (fD C.w0.heap.size (pf x)::M) rest k) :
  G q C all st M ({ dst:=some d,op:=.call { callee:=.value (.func g),args:=args.toArray,argTypes:=at_ },type:=ty,pos,after,guard:=gd }::rest) k:=by
 obtain ⟨g1,g2,g3⟩:=aJ hs;refine G.call0 (X:={ x:X // FrP C.w0.heap.size (pf x) }) (v:=fun x=>v x.1) (Mn:=fun x=>[fD C.w0.heap.size (pf x.1)]) g1 g2 g3 ha (fun w hw=>(hc w hw).mono fun e w' he=>?_) fun x=>h x.1 x.2
 obtain ⟨x,rfl,h1,h2,h3,h4⟩:=he;refine ⟨⟨x,fun p hp=>Nat.le_trans hw.size (h2 p hp),fun p hp=>Nat.le_trans hw.size (h3 p hp)⟩,rfl,(hw.ext h4).addFact (Nat.le_refl _) h1 fun b hb=>?_⟩
 rcases hb with hb|hb
 ·exact hw.supN h1.1 h2 hb
 ·exact hw.supN h1.2 h3 hb
theorem G.QC {X:Type}{g:FuncId}{args:List Operand}{vs:List Value}{at_:Array TypeId} (v:X->Value) (ad:X->Option Addr) (L:X->List (List Value)) (pa:X->Option Addr) (ps:X->List Prf) (ha:evL st args=some vs) (hs:bA all st gd d C.N q.ext=some q') [hF:Fun C.P g]
  (hc:∀ w,Sat C.w0 M w->Calls C.P g vs.toArray w fun e w'=>∃ x,e=.returned (v x)/\(aE w' (ad x) 1 (L x)/\∀ p,ad x=some p->w.heap.size<=p.block)/\(bK w' (pa x) (ps x)/\(∀ p,pa x=some p->w.heap.size<=p.block)/\∀ p∈ps x,FrP w.heap.size p)/\Below w.heap.size w w')
  (h:∀ x,(∀ p,ad x=some p->C.w0.heap.size<=p.block)->(∀ p,pa x=some p->C.w0.heap.size<=p.block)->(∀ p∈ps x,FrP C.w0.heap.size p)->G q' C all ((d,v x)::st) (aL C.w0.heap.size (ad x) 1 (L x)::gO C.w0.heap.size (pa x) (ps x)::M) rest k) :
  G q C all st M ({ dst:=some d,op:=.call { callee:=.value (.func g),args:=args.toArray,argTypes:=at_ },type:=ty,pos,after,guard:=gd }::rest) k:=by
 obtain ⟨g1,g2,g3⟩:=aJ hs;refine G.call0 (X:={ x:X // (∀ p,ad x=some p->C.w0.heap.size<=p.block)/\(∀ p,pa x=some p->C.w0.heap.size<=p.block)/\∀ p∈ps x,FrP C.w0.heap.size p }) (v:=fun x=>v x.1) (Mn:=fun x=>[aL C.w0.heap.size (ad x.1) 1 (L x.1),gO C.w0.heap.size (pa x.1) (ps x.1)]) g1 g2 g3 ha (fun w hw=>(hc w hw).mono fun e w' he=>?_) fun x=>h x.1 x.2.1 x.2.2.1 x.2.2.2
 obtain ⟨x,rfl,⟨h1,h2⟩,⟨h3,h4,h5⟩,h6⟩:=he;have k1:Sat C.w0 (gO C.w0.heap.size (pa x) (ps x)::M) w':=(hw.ext h6).addFact (Nat.le_refl _) h3 fun b hb=>by
  rcases hb with hb|⟨p,hp,hb|hb⟩
  ·exact hw.supN h3.1 h4 hb
  ·exact hw.supN (h3.2 p hp).1 (h5 p hp).1 hb
  ·exact hw.supN (h3.2 p hp).2 (h5 p hp).2 hb
 refine ⟨⟨x,fun p hp=>Nat.le_trans hw.size (h2 p hp),fun p hp=>Nat.le_trans hw.size (h4 p hp),fun p hp=>(h5 p hp).mono hw.size⟩,rfl,k1.addFact (Nat.le_refl _) h1 fun b hb=>?_⟩
 obtain ⟨a1,a2,a3⟩:=hw.supN h1 h2 hb;refine ⟨a1,a2,fun r hr=>?_⟩
 rcases List.mem_cons.1 hr with rfl|hr
 ·exact fun h=>h
 ·exact a3 r hr
end
abbrev Of (t:Bool) (r:Rn) (l:List Spn) (A:List Int):Type:={ x:(Nat->Rat)×(Option Addr×Nat)×(Option Addr×Nat) // (∃ pi,qU t r l A pi x.1)/\Gq t r l A x.1 }
def IB {t:Bool}{r:Rn}{l:List Spn}{A:List Int} (x:Of t r l A):Prf:=iC t r l x.1.1 x.1.2.1.1 x.1.2.1.2 x.1.2.2.1 x.1.2.2.2
abbrev fV (t:Bool) (rs:List Rn) (l:List Spn):Type:={ x:Ba t rs l×(List Prf×Option Addr×Nat) // x.2.1.length=rs.length/\∀ i (h1:i < rs.length) (h2:i < x.2.1.length),PrO t l (f0R rs) x.1.1.1 rs[i] x.2.1[i] }
def Bn {t:Bool}{rs:List Rn}{l:List Spn} (x:fV t rs l):Value:=.tuple #[qA (jJ x.1.1),qQ x.1.1,.slice x.1.2.2.1 rs.length x.1.2.2.2,.int .i64 0]
def sR (w w':World) {t:Bool}{rs:List Rn}{l:List Spn} (x:fV t rs l):Prop:=(aE w' x.1.1.1.2 1 (x.1.1.1.1.map isV)/\∀ p,x.1.1.1.2=some p->w.heap.size<=p.block)/\(bK w' x.1.2.2.1 x.1.2.1/\(∀ p,x.1.2.2.1=some p->w.heap.size<=p.block)/\∀ p∈x.1.2.1,FrP w.heap.size p)/\Below w.heap.size w w'
set_option maxHeartbeats 8000000 in
theorem BN (a:Option Addr) (rs:List Rn) (c:Nat) (b:Option Addr) (l:List Spn) (d:Nat) (w:World) (hA:aW w a rs) (hB:aN w b l) (hM:Mod rs l) (h0:cU rs l=0) :
  Calls Tryz.prog 66 #[.slice a rs.length c,.slice b l.length d,.bool false] w fun e w'=>∃ x:fV false rs l,e=.returned (Bn x)/\sR w w' x:=by
 obtain ⟨hio,hl4,hR,hrl,hok⟩:=dY h0;obtain ⟨eN,hcn⟩:=vH (fB h0).1;have htk:=qT (fB h0).1;have htc:=vK hcn hok;have he:=fun w' (hb:Below w.heap.size w w')=>K3 a rs c b l d w' (hA.below hb) (hB.below hb) hM h0
 have hcl:=fun k (hk:k < rs.length) w' (hb:Below w.heap.size w w')=>lW a rs c b l d k w' (hA.below hb) hM.tab (hB.below hb) hM.few h0 hk
 refine aB [(0,.slice a rs.length c),(1,.slice b l.length d),(2,.bool false)] Tryz.func66 Tryz.ntmps66 ?_;repeat' first|(refine gp ?_;and_intros<;>first|exact trivial|repeat first|intro(Bk:Nat)|intro h)|(refine G.Rw (g:=64) (sz:=1) (fun x=>.tuple #[qA (jJ x),qQ x,.int .i64 0]) (fun x=>x.1.2) (fun x=>x.1.1.map isV) rfl rfl rfl (fun w' hw=>he w' hw.below) ?_;intro x hx1;generalize hq:jJ x=q;obtain ⟨n1,u1,d1⟩:=q;dsimp only [qA];unfold qQ)|fail
 obtain ⟨⟨S,ha⟩,hbs⟩:=x;dsimp only at hbs hx1 ⊢;have hSl:S.length<=1000000:=by
  have:=hbs.ag.len hcn hok;omega
 rename_i B6 B7 B11;obtain ⟨B12,rfl⟩:∃ x,x=Bk:=⟨_,rfl⟩;apply J.nilOwn (E:=63) (size:=2);refine J.loop (c:=_) ((0,.slice none 0 0,[]):Nat×Value×List Prf) (fun x=>rs.length-x.1) (fun x=>[(0,.slice a rs.length c),(1,.slice b l.length d),(2,.bool false),(6,.pointer (some ⟨B6,0,none⟩)),(7,.pointer (some ⟨B7,0,none⟩)),(11,.pointer (some ⟨B11,0,none⟩)),(12,.pointer (some ⟨B12,0,none⟩)),(14,x.2.1),(33,.slice a rs.length c),(34,.int .i64 rs.length),(35,.int .i64 x.1)]) (fun x=>.own 0 x.2.1 63 2 x.1 (flat prV x.2.2)::.blk B12 30 [.int .i64 (f0R rs),.slice ha S.length S.length] 2::.blk B11 25 [.bool n1,.string (bs u1),.string (bs d1)] 3::aL w.heap.size ha 1 (S.map isV)::.blk B7 30 [.int .i64 0,.slice none 0 0] 2::.blk B6 25 [.bool false,.string (bs []),.string (bs [])] 3::(rws (fD w.heap.size) x.2.2++[])) (fun x=>x.1<=rs.length/\x.2.2.length=x.1/\(∀ p∈x.2.2,FrP w.heap.size p)/\∀ i (h1:i < rs.length) (h2:i < x.2.2.length),PrO false l (f0R rs) S rs[i] x.2.2[i]) ?_ sbT sbL ?_
 ·exact ⟨Nat.zero_le _,rfl,fun p hp=>absurd hp List.not_mem_nil,fun i _ h=>absurd h (Nat.not_lt_zero _)⟩
 intro ⟨k,v,ps⟩ ⟨hkn,hpl,hpf,hpo⟩ ihk;dsimp only at hkn hpl hpf hpo ⊢;by_cases hkk:k < rs.length
 ·obtain ⟨ba,oa,rfl,hra⟩:=aE.all hA.1 om
  have hrk:=hra k hkk;have hmr:=gM hkk;have hTk:=hA.2 _ hmr;have hr:=hok _ hmr;have hcl:=hcl k hkk;have hnc:=hM.cls h0 _ hmr;have htb:=hM.tab _ hmr;have hf:=hM.few;obtain ⟨A0,A,A1,hS,hbr,hfr⟩:=DL hcn hok hbs hkk;have hkl:=hM.len;have ihN:=fun v' (p:Prf) (h1:FrP w.heap.size p) (h2:PrO false l (f0R rs) S rs[k] p)=>ihk (k+1,v',ps++[p]) ⟨hkk,by simp [hpl],fun q hq=>by
   rcases List.mem_append.1 hq with hq|hq
   ·exact hpf q hq
   ·rw [List.mem_singleton.1 hq];exact h1,fun i h3 h4=>by
   dsimp only at h4 ⊢;by_cases e:i < ps.length
   ·rw [List.getElem_append_left e];exact hpo i h3 e
   ·rw [List.length_append,List.length_singleton] at h4
    obtain rfl:i=ps.length:=by omega
    rw [List.getElem_concat_length rfl];simp only [hpl];exact h2⟩ (by dsimp only;omega)
  dsimp only at ihN;clear hra hmr hA hM hpf hpo ihk he hok;generalize rs[k]=r at *;dsimp only [rnV] at hrk;have hcn0:=iB hio hr.rng.2.1;by_cases h0t:r.tab.length=0
  ·have ihN:=fun v'=>ihN v' prf0 ⟨fun q hq=>(by cases hq),fun q hq=>(by cases hq)⟩ ⟨fun _=>⟨rfl,rfl⟩,fun h=>absurd h0t h⟩
   have hcat:flat prV ps++[.slice none 0 0,.slice none 0 0]=flat prV (ps++[prf0]):=(eJ (f:=prV) ps prf0).symm;repeat' first|(refine gp ?_;and_intros<;>first|exact trivial|repeat first|intro(Bk:Nat)|intro h)|(apply G.Pu;rfl;rfl;rfl;rfl;rfl;rfl;rfl;rfl;intro Bs)|(apply G.ap;rfl;rfl;rfl;(repeat (first|exact RAt.head|apply RAt.tail));exact cB.blk (by exact mm) rfl rfl;exact hcat;omega;omega;intro v2)|fail
   apply J.prf0;refine J.sel (T:=fD w.heap.size prf0::(.own 0 v2 63 2 (k+1) (flat prV (ps++[prf0]))::.blk B12 30 [.int .i64 (f0R rs),.slice ha S.length S.length] 2::.blk B11 25 [.bool n1,.string (bs u1),.string (bs d1)] 3::aL w.heap.size ha 1 (S.map isV)::.blk B7 30 [.int .i64 0,.slice none 0 0] 2::.blk B6 25 [.bool false,.string (bs []),.string (bs [])] 3::(rws (fD w.heap.size) ps++[]))) ?_;refine J.P7 (F:=fD w.heap.size) (T:=ps) (.own 0 v2 63 2 (k+1) (flat prV (ps++[prf0]))::.blk B12 30 [.int .i64 (f0R rs),.slice ha S.length S.length] 2::.blk B11 25 [.bool n1,.string (bs u1),.string (bs d1)] 3::aL w.heap.size ha 1 (S.map isV)::.blk B7 30 [.int .i64 0,.slice none 0 0] 2::.blk B6 25 [.bool false,.string (bs []),.string (bs [])] 3::[]) prf0 ?_;exact J.fin (ihN v2)
  ·have hdir:=fun w'=>rW false w'
   have hpt:=fun kb ko kc (M:List Row) w' (hw':Sat w M w') (h1:aL w.heap.size ha 1 (S.map isV)∈M) (h2:aL w.heap.size (some ⟨kb,ko,none⟩) 2 ((aD r l).map hoV)∈M)=>C9 false r b l d (some ⟨kb,ko,none⟩) kc (f0R rs) ha S S.length A0 A A1 w' (hB.below hw'.below) hf hR hio hl4 (hw'.sl h2) (hTk.below hw'.below) (hw'.sl h1) hS hfr hSl hr h0t hbr hnc htb
   have hpp:=fun (sa ca:Option Addr) (sc cc:Nat) vv pi (hP:qU false r l A pi vv) (hE:Gq false r l A vv)=>HE (rs:=rs) (f:=f0R rs) (sa:=sa) (sc:=sc) (ca:=ca) (cc:=cc) hf hR hio hr h0t hnc htb hS hfr hbr hP hE
   unfold rnA at hpt;have hcat:∀ vv sa sc ca cc,flat prV ps++[.slice sa r.tab.length sc,.slice ca (aD r l).length cc]=flat prV (ps++[iC false r l vv sa sc ca cc]):=fun vv sa sc ca cc=>by
    rw [eJ];congr 1;unfold prV iC;simp only [List.length_map,List.length_range]
   repeat' first|(refine gp ?_;and_intros<;>first|exact trivial|repeat first|intro(Bk:Nat)|intro h)|(refine G.cL (g:=37) (sz:=2) (f:=hoV) (fun v=>.tuple #[v,.int .i64 0]) (aD r l) rfl rfl (fun w' hw=>(hcl w' hw.below).mono fun e w2 hh=>?_) ?_;exact hh;intro ka kc hp1 hp2;clear hp2;obtain ⟨kb,ko,rfl⟩:=hp1 hcn0)|(apply J.Py (.q 0 <| .q 1 <| .q 2 <| .q 3 <| .q 4 <| .q 5 <| .q 6 <| .r 7 <| .r 8 <| .r 9 <| .q 10 <| .nil);exact Tryz.Pr;decide +kernel)|(apply G.cV (g:=39);rfl;rfl;exact fun w' _=>hdir w')|(refine G.Rt (g:=112) (X:=Of false r l A) IB (fun x=>prA (IB x)) rfl rfl (fun w' hw'=>hpt kb ko kc _ w' hw' mm mm) ?_;rintro ⟨⟨vv,⟨sa,sc⟩,⟨ca,cc⟩⟩,⟨pi,hPS⟩,hPE⟩ hfp;dsimp only [IB] at hPS hPE hfp ⊢;rw [Gs])|(apply G.Pu;rfl;rfl;rfl;rfl;rfl;rfl;rfl;rfl;intro Bs)|(apply G.ap;rfl;rfl;rfl;(repeat (first|exact RAt.head|apply RAt.tail));exact cB.blk (by exact mm) rfl rfl;exact hcat vv sa sc ca cc;omega;omega;intro v2)|fail
   refine J.sel (T:=fD w.heap.size (iC false r l vv sa sc ca cc)::(.own 0 v2 63 2 (k+1) (flat prV (ps++[iC false r l vv sa sc ca cc]))::.blk B12 30 [.int .i64 (f0R rs),.slice ha S.length S.length] 2::.blk B11 25 [.bool n1,.string (bs u1),.string (bs d1)] 3::aL w.heap.size ha 1 (S.map isV)::.blk B7 30 [.int .i64 0,.slice none 0 0] 2::.blk B6 25 [.bool false,.string (bs []),.string (bs [])] 3::(rws (fD w.heap.size) ps++[]))) ?_;refine J.P7 (F:=fD w.heap.size) (T:=ps) (.own 0 v2 63 2 (k+1) (flat prV (ps++[iC false r l vv sa sc ca cc]))::.blk B12 30 [.int .i64 (f0R rs),.slice ha S.length S.length] 2::.blk B11 25 [.bool n1,.string (bs u1),.string (bs d1)] 3::aL w.heap.size ha 1 (S.map isV)::.blk B7 30 [.int .i64 0,.slice none 0 0] 2::.blk B6 25 [.bool false,.string (bs []),.string (bs [])] 3::[]) (iC false r l vv sa sc ca cc) ?_;exact J.fin (ihN v2 _ hfp (hpp sa ca sc cc vv pi hPS hPE))
 ·obtain rfl:k=rs.length:=by omega
  clear ihk;all_goals (refine goR ?_;and_intros<;>(try exact trivial)<;>repeat (first|refine fun (Bk:Nat)=>?_|intro h))
  repeat' ((first|(refine J.PB _ (.q 0 <| .q 1 <| .q 2 <| .e 3 <| .r 4 <| .q 5 <| .q 6 <| .nil) Tryz.Pr (by decide +kernel) (List.Sublist.cons _ (List.Sublist.cons_cons _ (List.Sublist.cons_cons _ (List.nil_sublist _)))) ?_)|(apply G.Qu (vs:=[.bool n1,.string (bs u1),.string (bs d1)]) (out:=[.bool n1,.string (bs u1),.string (bs d1)]);rfl;rfl;rfl;rfl;(repeat (first|exact RAt.head|apply RAt.tail));rfl;rfl;(dsimp only [List.length_cons,List.length_nil];omega);rfl;(repeat' (first|exact List.nil_sublist _|exact List.Sublist.refl _|apply List.Sublist.cons_cons|apply List.Sublist.cons)))|fail|(apply J.Pz;exact Tryz.Pr;decide +kernel)|(apply J.P3;exact Tryz.Pr;decide +kernel))<;>(refine goR ?_;and_intros<;>(try exact trivial)<;>repeat (first|refine fun (Bk:Nat)=>?_|intro h)))
  refine OR Tryz.func66 Tryz.results66 ?_;intro w' hw;obtain ⟨pa,pc,hv⟩:=hw.ownForm (v:=v) mm;subst hv;refine ⟨⟨(⟨(S,ha),hbs⟩,(ps,pa,pc)),hpl,hpo⟩,?_,⟨hw.sl mm,hx1⟩,⟨⟨?_,fun p hp=>?_⟩,?_,hpf⟩,hw.below⟩
  ·unfold Bn
   rw [hq];rfl
  ·exact aE.P8 (f:=prV) (fun _=>rfl) (hw.hold (.own 0 (.slice pa rs.length pc) 63 2 rs.length (flat prV ps)) mm) hpl
  ·obtain ⟨i,hi,rfl⟩:=List.mem_iff_getElem.1 hp
   have hm:=iG (F:=fD w.heap.size) (T:=ps) (M0:=[]) hi;exact Sat.QZ hw (by (repeat (first|exact hm|apply List.Mem.tail)))
  ·intro p hp
   exact ((hw.old (.own 0 (.slice pa rs.length pc) 63 2 rs.length (flat prV ps)) mm).2 p.block (by dsimp only at hp;subst hp;rfl)).1
set_option maxHeartbeats 8000000 in
theorem DO (a:Option Addr) (rs:List Rn) (c:Nat) (b:Option Addr) (l:List Spn) (d:Nat) (w:World) (hA:aW w a rs) (hB:aN w b l) (hM:Mod rs l) (h0:cU rs l=0) :
  Calls Tryz.prog 66 #[.slice a rs.length c,.slice b l.length d,.bool true] w fun e w'=>∃ x:fV true rs l,e=.returned (Bn x)/\sR w w' x:=by
 obtain ⟨hio,hl4,hR,hrl,hok⟩:=dY h0;obtain ⟨eN,hcn⟩:=vH (fB h0).1;have htk:=qT (fB h0).1;have htc:=vK hcn hok;have he:=fun w' (hb:Below w.heap.size w w')=>Mq a rs c b l d w' (hA.below hb) (hB.below hb) hM h0
 have hcl:=fun k (hk:k < rs.length) w' (hb:Below w.heap.size w w')=>lW a rs c b l d k w' (hA.below hb) hM.tab (hB.below hb) hM.few h0 hk
 refine aB [(0,.slice a rs.length c),(1,.slice b l.length d),(2,.bool true)] Tryz.func66 Tryz.ntmps66 ?_;repeat' first|(refine gp ?_;and_intros<;>first|exact trivial|repeat first|intro(Bk:Nat)|intro h)|(refine G.Rw (g:=65) (sz:=1) (fun x=>.tuple #[qA (jJ x),qQ x,.int .i64 0]) (fun x=>x.1.2) (fun x=>x.1.1.map isV) rfl rfl rfl (fun w' hw=>he w' hw.below) ?_;intro x hx1;generalize hq:jJ x=q;obtain ⟨n1,u1,d1⟩:=q;dsimp only [qA];unfold qQ)|fail
 obtain ⟨⟨S,ha⟩,hbs⟩:=x;dsimp only at hbs hx1 ⊢;have hSl:S.length<=1000000:=by
  have:=hbs.ag.len hcn hok;omega
 rename_i B6 B7 B11;obtain ⟨B12,rfl⟩:∃ x,x=Bk:=⟨_,rfl⟩;apply J.nilOwn (E:=63) (size:=2);refine J.loop (c:=_) ((0,.slice none 0 0,[]):Nat×Value×List Prf) (fun x=>rs.length-x.1) (fun x=>[(0,.slice a rs.length c),(1,.slice b l.length d),(2,.bool true),(6,.pointer (some ⟨B6,0,none⟩)),(7,.pointer (some ⟨B7,0,none⟩)),(11,.pointer (some ⟨B11,0,none⟩)),(12,.pointer (some ⟨B12,0,none⟩)),(14,x.2.1),(33,.slice a rs.length c),(34,.int .i64 rs.length),(35,.int .i64 x.1)]) (fun x=>.own 0 x.2.1 63 2 x.1 (flat prV x.2.2)::.blk B12 30 [.int .i64 (f0R rs),.slice ha S.length S.length] 2::.blk B11 25 [.bool n1,.string (bs u1),.string (bs d1)] 3::aL w.heap.size ha 1 (S.map isV)::.blk B7 30 [.int .i64 0,.slice none 0 0] 2::.blk B6 25 [.bool false,.string (bs []),.string (bs [])] 3::(rws (fD w.heap.size) x.2.2++[])) (fun x=>x.1<=rs.length/\x.2.2.length=x.1/\(∀ p∈x.2.2,FrP w.heap.size p)/\∀ i (h1:i < rs.length) (h2:i < x.2.2.length),PrO true l (f0R rs) S rs[i] x.2.2[i]) ?_ sbT sbL ?_
 ·exact ⟨Nat.zero_le _,rfl,fun p hp=>absurd hp List.not_mem_nil,fun i _ h=>absurd h (Nat.not_lt_zero _)⟩
 intro ⟨k,v,ps⟩ ⟨hkn,hpl,hpf,hpo⟩ ihk;dsimp only at hkn hpl hpf hpo ⊢;by_cases hkk:k < rs.length
 ·obtain ⟨ba,oa,rfl,hra⟩:=aE.all hA.1 om
  have hrk:=hra k hkk;have hmr:=gM hkk;have hTk:=hA.2 _ hmr;have hr:=hok _ hmr;have hcl:=hcl k hkk;have hnc:=hM.cls h0 _ hmr;have htb:=hM.tab _ hmr;have hf:=hM.few;obtain ⟨A0,A,A1,hS,hbr,hfr⟩:=DL hcn hok hbs hkk;have hkl:=hM.len;have ihN:=fun v' (p:Prf) (h1:FrP w.heap.size p) (h2:PrO true l (f0R rs) S rs[k] p)=>ihk (k+1,v',ps++[p]) ⟨hkk,by simp [hpl],fun q hq=>by
   rcases List.mem_append.1 hq with hq|hq
   ·exact hpf q hq
   ·rw [List.mem_singleton.1 hq];exact h1,fun i h3 h4=>by
   dsimp only at h4 ⊢;by_cases e:i < ps.length
   ·rw [List.getElem_append_left e];exact hpo i h3 e
   ·rw [List.length_append,List.length_singleton] at h4
    obtain rfl:i=ps.length:=by omega
    rw [List.getElem_concat_length rfl];simp only [hpl];exact h2⟩ (by dsimp only;omega)
  dsimp only at ihN;clear hra hmr hA hM hpf hpo ihk he hok;generalize rs[k]=r at *;dsimp only [rnV] at hrk;have hcn0:=iB hio hr.rng.2.1;by_cases h0t:r.tab.length=0
  ·have ihN:=fun v'=>ihN v' prf0 ⟨fun q hq=>(by cases hq),fun q hq=>(by cases hq)⟩ ⟨fun _=>⟨rfl,rfl⟩,fun h=>absurd h0t h⟩
   have hcat:flat prV ps++[.slice none 0 0,.slice none 0 0]=flat prV (ps++[prf0]):=(eJ (f:=prV) ps prf0).symm;repeat' first|(refine gp ?_;and_intros<;>first|exact trivial|repeat first|intro(Bk:Nat)|intro h)|(apply G.Pu;rfl;rfl;rfl;rfl;rfl;rfl;rfl;rfl;intro Bs)|(apply G.ap;rfl;rfl;rfl;(repeat (first|exact RAt.head|apply RAt.tail));exact cB.blk (by exact mm) rfl rfl;exact hcat;omega;omega;intro v2)|fail
   apply J.prf0;refine J.sel (T:=fD w.heap.size prf0::(.own 0 v2 63 2 (k+1) (flat prV (ps++[prf0]))::.blk B12 30 [.int .i64 (f0R rs),.slice ha S.length S.length] 2::.blk B11 25 [.bool n1,.string (bs u1),.string (bs d1)] 3::aL w.heap.size ha 1 (S.map isV)::.blk B7 30 [.int .i64 0,.slice none 0 0] 2::.blk B6 25 [.bool false,.string (bs []),.string (bs [])] 3::(rws (fD w.heap.size) ps++[]))) ?_;refine J.P7 (F:=fD w.heap.size) (T:=ps) (.own 0 v2 63 2 (k+1) (flat prV (ps++[prf0]))::.blk B12 30 [.int .i64 (f0R rs),.slice ha S.length S.length] 2::.blk B11 25 [.bool n1,.string (bs u1),.string (bs d1)] 3::aL w.heap.size ha 1 (S.map isV)::.blk B7 30 [.int .i64 0,.slice none 0 0] 2::.blk B6 25 [.bool false,.string (bs []),.string (bs [])] 3::[]) prf0 ?_;exact J.fin (ihN v2)
  ·have hdir:=fun w'=>rW true w'
   have hpt:=fun kb ko kc (M:List Row) w' (hw':Sat w M w') (h1:aL w.heap.size ha 1 (S.map isV)∈M) (h2:aL w.heap.size (some ⟨kb,ko,none⟩) 2 ((aD r l).map hoV)∈M)=>C9 true r b l d (some ⟨kb,ko,none⟩) kc (f0R rs) ha S S.length A0 A A1 w' (hB.below hw'.below) hf hR hio hl4 (hw'.sl h2) (hTk.below hw'.below) (hw'.sl h1) hS hfr hSl hr h0t hbr hnc htb
   have hpp:=fun (sa ca:Option Addr) (sc cc:Nat) vv pi (hP:qU true r l A pi vv) (hE:Gq true r l A vv)=>HE (rs:=rs) (f:=f0R rs) (sa:=sa) (sc:=sc) (ca:=ca) (cc:=cc) hf hR hio hr h0t hnc htb hS hfr hbr hP hE
   unfold rnA at hpt;have hcat:∀ vv sa sc ca cc,flat prV ps++[.slice sa r.tab.length sc,.slice ca (aD r l).length cc]=flat prV (ps++[iC true r l vv sa sc ca cc]):=fun vv sa sc ca cc=>by
    rw [eJ];congr 1;unfold prV iC;simp only [List.length_map,List.length_range]
   repeat' first|(refine gp ?_;and_intros<;>first|exact trivial|repeat first|intro(Bk:Nat)|intro h)|(refine G.cL (g:=37) (sz:=2) (f:=hoV) (fun v=>.tuple #[v,.int .i64 0]) (aD r l) rfl rfl (fun w' hw=>(hcl w' hw.below).mono fun e w2 hh=>?_) ?_;exact hh;intro ka kc hp1 hp2;clear hp2;obtain ⟨kb,ko,rfl⟩:=hp1 hcn0)|(apply J.Py (.q 0 <| .q 1 <| .q 2 <| .q 3 <| .q 4 <| .q 5 <| .q 6 <| .r 7 <| .r 8 <| .r 9 <| .q 10 <| .nil);exact Tryz.Pr;decide +kernel)|(apply G.cV (g:=39);rfl;rfl;exact fun w' _=>hdir w')|(refine G.Rt (g:=112) (X:=Of true r l A) IB (fun x=>prA (IB x)) rfl rfl (fun w' hw'=>hpt kb ko kc _ w' hw' mm mm) ?_;rintro ⟨⟨vv,⟨sa,sc⟩,⟨ca,cc⟩⟩,⟨pi,hPS⟩,hPE⟩ hfp;dsimp only [IB] at hPS hPE hfp ⊢;rw [Gs])|(apply G.Pu;rfl;rfl;rfl;rfl;rfl;rfl;rfl;rfl;intro Bs)|(apply G.ap;rfl;rfl;rfl;(repeat (first|exact RAt.head|apply RAt.tail));exact cB.blk (by exact mm) rfl rfl;exact hcat vv sa sc ca cc;omega;omega;intro v2)|fail
   refine J.sel (T:=fD w.heap.size (iC true r l vv sa sc ca cc)::(.own 0 v2 63 2 (k+1) (flat prV (ps++[iC true r l vv sa sc ca cc]))::.blk B12 30 [.int .i64 (f0R rs),.slice ha S.length S.length] 2::.blk B11 25 [.bool n1,.string (bs u1),.string (bs d1)] 3::aL w.heap.size ha 1 (S.map isV)::.blk B7 30 [.int .i64 0,.slice none 0 0] 2::.blk B6 25 [.bool false,.string (bs []),.string (bs [])] 3::(rws (fD w.heap.size) ps++[]))) ?_;refine J.P7 (F:=fD w.heap.size) (T:=ps) (.own 0 v2 63 2 (k+1) (flat prV (ps++[iC true r l vv sa sc ca cc]))::.blk B12 30 [.int .i64 (f0R rs),.slice ha S.length S.length] 2::.blk B11 25 [.bool n1,.string (bs u1),.string (bs d1)] 3::aL w.heap.size ha 1 (S.map isV)::.blk B7 30 [.int .i64 0,.slice none 0 0] 2::.blk B6 25 [.bool false,.string (bs []),.string (bs [])] 3::[]) (iC true r l vv sa sc ca cc) ?_;exact J.fin (ihN v2 _ hfp (hpp sa ca sc cc vv pi hPS hPE))
 ·obtain rfl:k=rs.length:=by omega
  clear ihk;all_goals (refine goR ?_;and_intros<;>(try exact trivial)<;>repeat (first|refine fun (Bk:Nat)=>?_|intro h))
  repeat' ((first|(refine J.PB _ (.q 0 <| .q 1 <| .q 2 <| .e 3 <| .r 4 <| .q 5 <| .q 6 <| .nil) Tryz.Pr (by decide +kernel) (List.Sublist.cons _ (List.Sublist.cons_cons _ (List.Sublist.cons_cons _ (List.nil_sublist _)))) ?_)|(apply G.Qu (vs:=[.bool n1,.string (bs u1),.string (bs d1)]) (out:=[.bool n1,.string (bs u1),.string (bs d1)]);rfl;rfl;rfl;rfl;(repeat (first|exact RAt.head|apply RAt.tail));rfl;rfl;(dsimp only [List.length_cons,List.length_nil];omega);rfl;(repeat' (first|exact List.nil_sublist _|exact List.Sublist.refl _|apply List.Sublist.cons_cons|apply List.Sublist.cons)))|fail|(apply J.Pz;exact Tryz.Pr;decide +kernel)|(apply J.P3;exact Tryz.Pr;decide +kernel))<;>(refine goR ?_;and_intros<;>(try exact trivial)<;>repeat (first|refine fun (Bk:Nat)=>?_|intro h)))
  refine OR Tryz.func66 Tryz.results66 ?_;intro w' hw;obtain ⟨pa,pc,hv⟩:=hw.ownForm (v:=v) mm;subst hv;refine ⟨⟨(⟨(S,ha),hbs⟩,(ps,pa,pc)),hpl,hpo⟩,?_,⟨hw.sl mm,hx1⟩,⟨⟨?_,fun p hp=>?_⟩,?_,hpf⟩,hw.below⟩
  ·unfold Bn
   rw [hq];rfl
  ·exact aE.P8 (f:=prV) (fun _=>rfl) (hw.hold (.own 0 (.slice pa rs.length pc) 63 2 rs.length (flat prV ps)) mm) hpl
  ·obtain ⟨i,hi,rfl⟩:=List.mem_iff_getElem.1 hp
   have hm:=iG (F:=fD w.heap.size) (T:=ps) (M0:=[]) hi;exact Sat.QZ hw (by (repeat (first|exact hm|apply List.Mem.tail)))
  ·intro p hp
   exact ((hw.old (.own 0 (.slice pa rs.length pc) 63 2 rs.length (flat prV ps)) mm).2 p.block (by dsimp only at hp;subst hp;rfl)).1
theorem Bu (t:Bool) (a:Option Addr) (rs:List Rn) (c:Nat) (b:Option Addr) (l:List Spn) (d:Nat) (w:World) (hA:aW w a rs) (hB:aN w b l) (hM:Mod rs l) (h0:cU rs l=0) :
  Calls Tryz.prog 66 #[.slice a rs.length c,.slice b l.length d,.bool t] w fun e w'=>∃ x:fV t rs l,e=.returned (Bn x)/\sR w w' x:=by
 cases t
 ·exact BN a rs c b l d w hA hB hM h0
 ·exact DO a rs c b l d w hA hB hM h0
theorem KG (t:Bool) (a:Option Addr) (rs:List Rn) (c:Nat) (b:Option Addr) (l:List Spn) (d:Nat) (w:World) (hA:aW w a rs) (hB:aN w b l) (hM:Mod rs l) (h0:cU rs l=0) :
  Calls Tryz.prog 24 #[.slice a rs.length c,.slice b l.length d,.bool t] w fun e w'=>∃ x:fV t rs l,e=.returned (.tuple #[qA (jJ x.1.1),.slice x.1.2.2.1 rs.length x.1.2.2.2,.int .i64 0])/\sR w w' x:=by
 have he:=fun w' (hb:Below w.heap.size w w')=>Bu t a rs c b l d w' (hA.below hb) (hB.below hb) hM h0
 clear hA hB hM h0;refine aB [(0,.slice a rs.length c),(1,.slice b l.length d),(2,.bool t)] Tryz.func24 Tryz.ntmps24 ?_;repeat' first|(refine gp ?_;and_intros<;>first|exact trivial|repeat first|intro(Bk:Nat)|intro h)|(refine G.QC (g:=66) (X:=fV t rs l) (fun x=>Bn x) (fun x=>x.1.1.1.2) (fun x=>x.1.1.1.1.map isV) (fun x=>x.1.2.2.1) (fun x=>x.1.2.1) rfl rfl (fun w' hw=>he w' hw.below) ?_;intro x hx1 hx2 hx3;unfold Bn;generalize hq:jJ x.1.1=q;obtain ⟨n1,u1,d1⟩:=q;dsimp only [qA];unfold qQ)|fail
 (refine Lv Tryz.func24 Tryz.results24 ?_;intro w' hw)
 refine ⟨x,?_,⟨hw.sl mm,hx1⟩,⟨Sat.PT hw mm,hx2,hx3⟩,hw.below⟩;rw [hq];rfl
def qZ {rs:List Rn}{l:List Spn} (x:fV false rs l) (y:fV true rs l):Shp:=⟨jJ x.1.1,jJ y.1.1,f0R rs,x.1.1.1.1,f0R rs,y.1.1.1.1,x.1.2.1,y.1.2.1⟩
def yC {rs:List Rn}{l:List Spn} (x:fV false rs l) (y:fV true rs l):ShM:=⟨x.1.1.1.2,x.1.1.1.1.length,y.1.1.1.2,y.1.1.1.1.length,x.1.2.2.1,x.1.2.2.2,y.1.2.2.1,y.1.2.2.2⟩
theorem KH (a:Option Addr) (rs:List Rn) (c:Nat) (b:Option Addr) (l:List Spn) (d:Nat) (w:World) (hA:aW w a rs) (hB:aN w b l) (hM:Mod rs l) (h0:cU rs l=0) :
  Calls Tryz.prog 25 #[.slice a rs.length c,.slice b l.length d] w fun e w'=>∃ z:fV false rs l×fV true rs l,e=.returned (.tuple #[shA (qZ z.1 z.2) (yC z.1 z.2),.int .i64 0])/\sR w w' z.1/\sR w w' z.2:=by
 have he:=fun w' (hb:Below w.heap.size w w')=>Bu false a rs c b l d w' (hA.below hb) (hB.below hb) hM h0
 have hf:=fun w' (hb:Below w.heap.size w w')=>Bu true a rs c b l d w' (hA.below hb) (hB.below hb) hM h0
 clear hA hB hM h0;refine aB [(0,.slice a rs.length c),(1,.slice b l.length d)] Tryz.func25 Tryz.ntmps25 ?_;repeat' first|(refine gp ?_;and_intros<;>first|exact trivial|repeat first|intro(Bk:Nat)|intro h)|(refine G.QC (g:=66) (d:=11) (X:=fV false rs l) (fun x=>Bn x) (fun x=>x.1.1.1.2) (fun x=>x.1.1.1.1.map isV) (fun x=>x.1.2.2.1) (fun x=>x.1.2.1) rfl rfl (fun w' hw=>he w' hw.below) ?_;intro x hx1 hx2 hx3;unfold Bn;generalize hq:jJ x.1.1=q;obtain ⟨n1,u1,d1⟩:=q;dsimp only [qA];unfold qQ)|(refine G.QC (g:=66) (d:=27) (X:=fV true rs l) (fun x=>Bn x) (fun x=>x.1.1.1.2) (fun x=>x.1.1.1.1.map isV) (fun x=>x.1.2.2.1) (fun x=>x.1.2.1) rfl rfl (fun w' hw=>hf w' hw.below) ?_;intro y hy1 hy2 hy3;unfold Bn;generalize hr:jJ y.1.1=q;obtain ⟨n2,u2,d2⟩:=q;dsimp only [qA];unfold qQ)|fail
 (refine sK Tryz.func25 Tryz.results25 ?_;intro w' hw)
 refine ⟨(x,y),?_,⟨⟨hw.sl mm,hx1⟩,⟨Sat.PT hw mm,hx2,hx3⟩,hw.below⟩,⟨⟨hw.sl mm,hy1⟩,⟨Sat.PT hw mm,hy2,hy3⟩,hw.below⟩⟩;unfold shA qZ yC;dsimp only;rw [hq,hr,x.2.1,y.2.1];rfl
theorem Sat.Qm {w0 w w':World}{M M2:List Row}{t:Bool}{rs:List Rn}{l:List Spn}{x:fV t rs l} (hw:Sat w0 M w) (hw2:Sat w0 M2 w') (hM:∀ r∈M2,r∈M∨∀ b,¬ r.lock b) (h:sR w w' x):Sat w0 (aL w0.heap.size x.1.1.1.2 1 (x.1.1.1.1.map isV)::gO w0.heap.size x.1.2.2.1 x.1.2.1::M2) w':=by
 obtain ⟨⟨h1,h2⟩,⟨h3,h4,h5⟩,h6⟩:=h;have up:∀ {sz:Nat}{a:Option Addr}{L:List (List Value)}{b:Nat},aE w' a sz L->(∀ p,a=some p->w.heap.size<=p.block)->sP w0.heap.size a L b->w0.heap.size<=b/\b < w'.heap.size/\∀ r∈M2,¬ r.lock b:=fun s1 s2 s3=>by
  obtain ⟨a1,a2,a3⟩:=Sat.supN (C:=⟨Tryz.prog,default,fun _ _=>True,0,w0,[]⟩) hw s1 s2 s3
  refine ⟨a1,a2,fun r hr=>?_⟩
  rcases hM r hr with h|h
  ·exact a3 r h
  ·exact h _
 have k1:Sat w0 (gO w0.heap.size x.1.2.2.1 x.1.2.1::M2) w':=hw2.addFact (Nat.le_refl _) h3 fun b hb=>by
  rcases hb with hb|⟨p,hp,hb|hb⟩
  ·exact up h3.1 h4 hb
  ·exact up (h3.2 p hp).1 (h5 p hp).1 hb
  ·exact up (h3.2 p hp).2 (h5 p hp).2 hb
 refine k1.addFact (Nat.le_refl _) h1 fun b hb=>?_
 obtain ⟨a1,a2,a3⟩:=up h1 h2 hb;refine ⟨a1,a2,fun r hr=>?_⟩
 rcases List.mem_cons.1 hr with rfl|hr
 ·exact fun h=>h
 ·exact a3 r hr
section
variable {C:Ctx}{st:List (Nat×Value)}{M:List Row}{k:List Item}{q q':Md}{all rest:List Oper}{d:Nat}{ty:TypeId}{pos:String}{after:Array Edge}{gd:Option (Nat×Bool)}
theorem G.Rr {t:Bool}{rs:List Rn}{l:List Spn}{g:FuncId}{args:List Operand}{vs:List Value}{at_:Array TypeId} (v:fV t rs l->Value) (ha:evL st args=some vs) (hs:bA all st gd d C.N q.ext=some q') [hF:Fun C.P g]
  (hc:∀ w,Sat C.w0 M w->Calls C.P g vs.toArray w fun e w'=>∃ x,e=.returned (v x)/\sR w w' x)
  (h:∀ x:fV t rs l,G q' C all ((d,v x)::st) (aL C.w0.heap.size x.1.1.1.2 1 (x.1.1.1.1.map isV)::gO C.w0.heap.size x.1.2.2.1 x.1.2.1::M) rest k) :
  G q C all st M ({ dst:=some d,op:=.call { callee:=.value (.func g),args:=args.toArray,argTypes:=at_ },type:=ty,pos,after,guard:=gd }::rest) k :=
 G.QC v _ _ _ _ ha hs hc fun x _ _ _=>h x
theorem G.RB {rs:List Rn}{l:List Spn}{g:FuncId}{args:List Operand}{vs:List Value}{at_:Array TypeId} (v:fV false rs l×fV true rs l->Value) (ha:evL st args=some vs) (hs:bA all st gd d C.N q.ext=some q') [hF:Fun C.P g]
  (hc:∀ w,Sat C.w0 M w->Calls C.P g vs.toArray w fun e w'=>∃ z,e=.returned (v z)/\sR w w' z.1/\sR w w' z.2)
  (h:∀ x:fV false rs l,∀ y:fV true rs l,G q' C all ((d,v (x,y))::st) (aL C.w0.heap.size x.1.1.1.2 1 (x.1.1.1.1.map isV)::gO C.w0.heap.size x.1.2.2.1 x.1.2.1::aL C.w0.heap.size y.1.1.1.2 1 (y.1.1.1.1.map isV)::gO C.w0.heap.size y.1.2.2.1 y.1.2.1::M) rest k) :
  G q C all st M ({ dst:=some d,op:=.call { callee:=.value (.func g),args:=args.toArray,argTypes:=at_ },type:=ty,pos,after,guard:=gd }::rest) k:=by
 obtain ⟨g1,g2,g3⟩:=aJ hs;refine G.call0 (v:=v) (Mn:=fun z=>[aL C.w0.heap.size z.1.1.1.1.2 1 (z.1.1.1.1.1.map isV),gO C.w0.heap.size z.1.1.2.2.1 z.1.1.2.1,aL C.w0.heap.size z.2.1.1.1.2 1 (z.2.1.1.1.1.map isV),gO C.w0.heap.size z.2.1.2.2.1 z.2.1.2.1]) g1 g2 g3 ha (fun w hw=>(hc w hw).mono fun e w' he=>?_) fun z=>h z.1 z.2
 obtain ⟨z,rfl,h1,h2⟩:=he;have k1:=Sat.Qm hw (hw.ext h2.2.2) (fun r hr=>.inl hr) h2
 refine ⟨z,rfl,Sat.Qm hw k1 (fun r hr=>?_) h1⟩
 rcases List.mem_cons.1 hr with rfl|hr
 ·exact .inr fun b h=>h
 rcases List.mem_cons.1 hr with rfl|hr
 ·exact .inr fun b h=>h
 ·exact .inl hr
end
end Go.Proofs.YtjcecdmbfmccoaaGreatDoor
/-
 Contracts of proofs: the values of small proofs,intervals in memory,few runs and spans.
-/
namespace Go.Proofs.YtjcecdmbfmccoaaGreatDoor
open Go.RowKit Go.Sl Go.Num
structure Smp (t:Bool) (rs:List Rn) (l:List Spn) (ps:List Prf):Prop where
 few:∀ p∈ps,EV 20000000 p/\p.st.length<=1000000/\p.cl.length<=1000000
 den:∃ D B K,cU rs l=0->ps.length=rs.length->(∀ x∈rs.zip ps,bP l x.1 x.2=true)->Bc D B K/\∀ y∈rs.zip ps,sO t l D B y.1 y.2
def shrt (k:Nat) (ps:List Prf):Prop:=∀ p∈ps,(p.st++p.cl).length<=30/\∀ q∈p.st++p.cl,aH k q
theorem gW.shrt {ps:List Prf} (h:gW ps):shrt 40 ps:=fun p hp=>h.2 p hp
theorem fE {t:Bool}{rs:List Rn}{l:List Spn}{ps:List Prf}{k:Nat} (hk:k<=140) (hM:Mod rs l) (hs:shrt k ps):Smp t rs l ps:=by
 refine ⟨fun p hp=>?_,?_⟩
 ·obtain ⟨h1,h2⟩:=hs p hp
  rw [List.length_append] at h1;exact ⟨⟨fun a ha=>aF (h2 a (List.mem_append_left _ ha)) om,fun a ha=>aF (h2 a (List.mem_append_right _ ha)) om⟩,by omega,by omega⟩
 ·by_cases h:cU rs l=0/\∀ x∈rs.zip ps,bP l x.1 x.2=true
  ·obtain ⟨D,B,K,h1⟩:=I6 (t:=t) hk hM h.1 h.2 hs
   exact ⟨D,B,K,fun _ _ _=>h1⟩
  ·exact ⟨0,0,0,fun a _ b=>absurd ⟨a,b⟩ h⟩
theorem DP {t:Bool}{rs:List Rn}{l:List Spn}{ps:List Prf}{f:Int}{S:List Int} (hM:Mod rs l) (h0:cU rs l=0) (hl:ps.length=rs.length) (hP:∀ i (h1:i < rs.length) (h2:i < ps.length),PrO t l f S rs[i] ps[i]):Smp t rs l ps:=by
 refine ⟨fun p hp=>?_,?_⟩
 ·obtain ⟨i,hi,rfl⟩:=List.mem_iff_getElem.1 hp
  have hm:=gM (show i < rs.length by omega)
  have hp:=hP i om hi;by_cases h0t:rs[i].tab.length=0
  ·obtain ⟨e1,e2⟩:=hp.1 h0t
   unfold EV;rw [e1,e2];exact ⟨⟨fun a ha=>absurd ha List.not_mem_nil,fun a ha=>absurd ha List.not_mem_nil⟩,Nat.zero_le _,Nat.zero_le _⟩
  ·obtain ⟨w1,_,_,hd⟩:=hp.2 h0t
   obtain ⟨D,_,_,hd⟩:=hd _ _ rfl rfl;obtain ⟨l1,l2,_⟩:=(nT h0t).1 w1;have:=hM.tab _ hm;have:=hM.cls h0 _ hm;exact ⟨hd.f,by omega,by omega⟩
 ·obtain ⟨D,B,K,h⟩:=Mw hM h0 hl hP
  exact ⟨D,B,K,fun _ _ _=>h⟩
theorem sG {t:Bool}{rs:List Rn}{l:List Spn}{ps:List Prf} (hs:Smp t rs l ps):aH 60000000 (bF t rs l ps).1:=by
 obtain ⟨D,B,K,h⟩:=hs.den;exact K6 h
section
variable {rs:List Rn}{l:List Spn}
theorem DQ {ps:List Prf} (t:Bool) (a:Option Addr) (c:Nat) (b:Option Addr) (d:Nat) (pa:Option Addr) (pc:Nat) (w:World) (hA:aW w a rs) (hB:aN w b l) (hM:Mod rs l) (hP:bK w pa ps) (hs:Smp t rs l ps) :
  CR 11 #[.slice a rs.length c,.slice b l.length d,.slice pa ps.length pc,.bool t] w (.tuple #[qA (bF t rs l ps).1,.int .i64 (bF t rs l ps).2]):=by
 obtain ⟨D,B,K,h⟩:=hs.den;exact Gn t a rs c b l d pa ps pc w hA hB hM hP hs.few D B K h
structure wY (w:World) (s:Shp) (m:ShM):Prop where
 l:aE w m.la 1 (s.ls.map isV)
 lc:s.ls.length<=m.lc
 ll:s.ls.length<=1000
 h:aE w m.ha 1 (s.hs.map isV)
 hc:s.hs.length<=m.hc
 hl:s.hs.length<=1000
 p:bK w m.pa s.lp
 q:bK w m.qa s.hp
theorem wY.below {w w':World}{s:Shp}{m:ShM} (h:wY w s m) (hb:Below w.heap.size w w'):wY w' s m:=⟨h.l.below hb,h.lc,h.ll,h.h.below hb,h.hc,h.hl,h.p.below hb,h.q.below hb⟩
structure IC (rs:List Rn) (l:List Spn) (s:Shp):Prop where
 p:Smp false rs l s.lp
 q:Smp true rs l s.hp
 lo:aH 60000000 s.lo
 hi:aH 60000000 s.hi
variable {s:Shp}{m:ShM}
theorem KI (a:Option Addr) (c:Nat) (b:Option Addr) (d:Nat) (w:World) (hA:aW w a rs) (hB:aN w b l) (hM:Mod rs l) (hS:wY w s m) (hO:IC rs l s) :
  CR 13 #[.slice a rs.length c,.slice b l.length d,shA s m] w (.bool (lV rs l s)) :=
 DE a rs c b l d s m w (fun w' hb=>DQ false a c b d m.pa m.pc w' (hA.below hb) (hB.below hb) hM (hS.p.below hb) hO.p) (fun w' hb=>DQ true a c b d m.qa m.qc w' (hA.below hb) (hB.below hb) hM (hS.q.below hb) hO.q) (sG hO.p) (sG hO.q) hO.lo hO.hi
theorem My (a:Option Addr) (c:Nat) (b:Option Addr) (d:Nat) (w:World) (hA:aW w a rs) (hB:aN w b l) (hM:Mod rs l) (hS:wY w s m) :
  CR 15 #[.slice a rs.length c,.slice b l.length d,shA s m] w (.bool (sN rs l s)):=by
 have h1:=hS.ll;have h2:=hS.hl;exact Gp a rs c b l d s m w (fun w' hb=>oR a rs c b l d w' (hA.below hb) hM.tab (hB.below hb) hM.few) (fun w' hb=>xX a m.la rs s.lf s.ls c m.lc w' (hA.below hb) (hS.l.below hb) hM.tab hS.lc om) (fun w' hb=>xX a m.ha rs s.hf s.hs c m.hc w' (hA.below hb) (hS.h.below hb) hM.tab hS.hc om) (fun w' hb=>Cf s.lf m.la b s.ls l m.lc d w' (hS.l.below hb) (hB.below hb) hM.few h1 hS.lc) (fun w' hb=>Cf s.hf m.ha b s.hs l m.hc d w' (hS.h.below hb) (hB.below hb) hM.few h2 hS.hc)
theorem OS (a:Option Addr) (c:Nat) (b:Option Addr) (d:Nat) (w:World) (hA:aW w a rs) (hB:aN w b l) (hM:Mod rs l) (hS:wY w s m) (hO:IC rs l s) :
  CR 17 #[.slice a rs.length c,.slice b l.length d,shA s m] w (.bool (AL rs l s)) :=
 BM a rs c b l d s m w (fun w' hb=>KI a c b d w' (hA.below hb) (hB.below hb) hM (hS.below hb) hO) fun w' hb=>My a c b d w' (hA.below hb) (hB.below hb) hM (hS.below hb)
end
theorem sH {t:Nat}{rs:List Rn}{l:List Spn} (h1:jE 12 t rs) (h2:kH 8 l):Mod rs l:=by
 refine ⟨fun r hr=>Nat.le_trans (h1.2.1 r hr) dc,h2.ok,fun h0 r _=>?_,Nat.le_trans h1.1 dc⟩
 obtain ⟨_,h4,_⟩:=dY h0;have:=h2.1;have:=Hv r l;omega
theorem ID {t:Nat}{rs:List Rn}{l:List Spn}{S:List Int} (h1:jE 12 t rs) (h0:cU rs l=0) (ha:AgS rs S):S.length<=t:=by
 have hr:=(fB h0).1;rcases h1.2.2 with h|h|h
 ·exact absurd hr h
 ·have:rs=[]:=List.length_eq_zero_iff.1 h
  subst this;rw [show S=[] from ha];exact Nat.zero_le _
 ·by_cases hne:rs=[]
  ·subst hne
   rw [show S=[] from ha];exact Nat.zero_le _
  ·have h3:=(EI hr hne ha).2
   rw [yR hne] at h
   omega
def i22 (n:Int):Q3:=rQ ((n:Int):Rat)
def eE (a1:Option Addr) (c1:Nat):List Rn:=[⟨0,4,[(1,2),(5,1),(9,1)],a1,c1,0,0⟩,⟨4,6,[],none,0,2,3⟩]
def IE:List Pnt:=[(0,aY),(10,i22 10)]
def fG (x:Option Addr) (y:Nat):List Spn:=[⟨0,2,i22 1,0,IE,x,y⟩,⟨3,5,i22 2,0,IE,x,y⟩]
def lX (u1 u2 u3 v1 v2 v3:Int) (sa:Option Addr) (sc:Nat) (ca:Option Addr) (cc:Nat):List Prf:=[⟨[i22 u1,i22 u2,i22 u3],[i22 v1,i22 v2,i22 v3],sa,sc,ca,cc⟩,prf0]
theorem lY (a1:Option Addr) (c1:Nat) (x:Option Addr) (y:Nat):cU (eE a1 c1) (fG x y)=0:=by kernel_rfl
theorem Gu (a1:Option Addr) (c1:Nat) (x:Option Addr) (y:Nat) (sa:Option Addr) (sc:Nat) (ca:Option Addr) (cc:Nat):bF false (eE a1 c1) (fG x y) (lX 1 5 5 0 1 (-5) sa sc ca cc)=(i22 12,0):=by kernel_rfl
theorem Og (a1:Option Addr) (c1:Nat) (x:Option Addr) (y:Nat) (sa:Option Addr) (sc:Nat) (ca:Option Addr) (cc:Nat):bF false (eE a1 c1) (fG x y) (lX 1 6 5 0 1 (-5) sa sc ca cc)=(aY,22):=by kernel_rfl
theorem Oh (a1:Option Addr) (c1:Nat) (x:Option Addr) (y:Nat) (sa:Option Addr) (sc:Nat) (ca:Option Addr) (cc:Nat):bF false (eE a1 c1) (fG x y) (lX 0 0 0 1 2 0 sa sc ca cc)=(i22 8,0):=by kernel_rfl
theorem Oi (a1:Option Addr) (c1:Nat) (x:Option Addr) (y:Nat) (sa:Option Addr) (sc:Nat) (ca:Option Addr) (cc:Nat):bF true (eE a1 c1) (fG x y) (lX 0 4 8 1 10 0 sa sc ca cc)=(i22 30,0):=by kernel_rfl
theorem Oj (x:Option Addr) (y:Nat):aI (fG x y) 0 [1,5,9,1,2,2]=((12:Int):Rat):=by kernel_rfl
theorem Ok (x:Option Addr) (y:Nat):aI (fG x y) 0 [1,5,1,9,3,3]=((30:Int):Rat):=by kernel_rfl
theorem Ol (a1:Option Addr) (c1:Nat):dP (eE a1 c1) 0 [1,5,9,1,2,2]=true:=by kernel_rfl
theorem Om (a1:Option Addr) (c1:Nat):dP (eE a1 c1) 0 [1,5,1,9,3,3]=true:=by kernel_rfl
end Go.Proofs.YtjcecdmbfmccoaaGreatDoor
/-
 Contracts: bounds that are compared;the law's numbers and example.
-/
namespace Go.Proofs.YtjcecdmbfmccoaaGreatDoor
open Go.RowKit Go.Sl Go.Num
theorem Mz (s1 t1 s2 t2:Bool) (x1 y1 u1 v1 x2 y2 u2 v2:ByteArray) (w:World):(Op.equal 27 (.agg #[.bool s1,.string x1,.string u1,.bool s2,.string x2,.string u2]) (.agg #[.bool t1,.string y1,.string v1,.bool t2,.string y2,.string v2])).run Tryz.prog w=.ok ((s1 == t1 && (x1.toList == y1.toList && u1.toList == v1.toList)) && (s2 == t2 && (x2.toList == y2.toList && u2.toList == v2.toList))) w:=by
 simp [go_sem,Op.equal,Op.maxDepth];by_cases h1:s1=t1<;>by_cases h2:x1.toList=y1.toList<;>by_cases h3:u1.toList=v1.toList<;>by_cases h4:s2=t2<;>by_cases h5:x2.toList=y2.toList<;>by_cases h6:u2.toList=v2.toList<;>simp [h1,h2,h3,h4,h5,h6]
theorem IF:(Tryz.prog).eqGuardType (Tryz.prog).depth 27=false:=by kernel_rfl
section
variable {C:Ctx}{st:List (Nat×Value)}{M:List Row}{k:List Item}{q q':Md}{all rest:List Oper}{d:Nat}{ty:TypeId}{pos:String}{after:Array Edge}{gd:Option (Nat×Bool)}
theorem G.R8 {x y:Operand}{yt:TypeId} (a b c e:Q3) (hx:evS st x=some (Gh a b)) (hy:evS st y=some (Gh c e)) (hs:bA all st gd d C.N q.calm=some q') (h1:a=c/\b=e->G q' C all ((d,.bool true)::st) M rest k) (h2:¬ (a=c/\b=e)->G q' C all ((d,.bool false)::st) M rest k) (hP:C.P=Tryz.prog:=by rfl) :
  G q C all st M ({ dst:=some d,op:=.binOp .eql 27 x y yt,type:=ty,pos,after,guard:=gd }::rest) k:=by
 obtain ⟨P,b0,PHI,N0,w0,D⟩:=C;dsimp only at hP;subst hP;obtain ⟨g1,g2,g3⟩:=aJ hs;refine G.PC (p:=a=c/\b=e) (OpV.of fun ac w hf _ dst pos after guard=>?_) g1 rfl g2 g3 h1 h2
 have e1:(binOp .eql 27 (Gh a b) (Gh c e)).run Tryz.prog w=.ok (.bool (decide (a=c/\b=e))) w:=by
  show ((Op.equal 27 _ _).bind fun b=>Sem.pure (Value.bool b)).run Tryz.prog w=_
  unfold Gh;rw [Sem.run_bind',Mz,pM,pM,<- Bool.decide_and];rfl
 have e2:(eqGuard .eql 27 x y (Gh a b) (Gh c e)).run Tryz.prog w=.ok () w:=run_eqGuard_agg w .eql 27 x y _ _ IF;simp only [execOp,hf.eval hx,hf.eval hy,Sem.run_bind,e2,e1,Result.andThen_ok];rfl
end
attribute [local irreducible] i22
theorem vI (n:Int) (h1:-999999999999999<=n) (h2:n<=999999999999999) (w:World):CR 35 #[.int .i64 n] w (qA (i22 n)):=by
 have h:=Mb h1 h2 w;unfold i22;exact h
set_option maxHeartbeats 4000000 in
theorem jR (a:Option Addr) (L:List Int) (c:Nat) (w:World) (hA:aE w a 1 (L.map isV)) (hl:L.length<=1000) (hb:∀ n∈L,-999999999999999<=n/\n<=999999999999999) :
  Calls Tryz.prog 34 #[.slice a L.length c] w (NwL 3 qV (fun v=>v) w (L.map i22)):=by
 refine aB [(0,.slice a L.length c)] Tryz.func34 Tryz.ntmps34 ?_;all_goals (refine go ?_;and_intros<;>first|exact trivial|repeat first|intro(Bk:Nat)|intro h)
 apply J.nilOwn (E:=25) (size:=3);refine J.loop (c:=_) ((0,.slice none 0 0):Nat×Value) (fun x=>L.length-x.1) (fun x=>[(3,x.2),(6,.slice a L.length c),(7,.int .i64 L.length),(8,.int .i64 x.1)]) (fun x=>.own 0 x.2 25 3 x.1 (flat qV ((L.take x.1).map i22))::[]) (fun x=>x.1<=L.length) ?_ sbT sbL ?_
 ·exact Nat.zero_le _
 intro ⟨k,v⟩ hk ih;dsimp only at hk ⊢;by_cases hkk:k < L.length
 ·obtain ⟨ba,oa,rfl,hra⟩:=aE.all hA om
  have hr:=hra k hkk;have hn:=hb _ (gM hkk);have hi:=vI L[k] hn.1 hn.2;have hcat:flat qV ((L.take k).map i22)++[.bool (i22 L[k]).neg,.string (bs (i22 L[k]).num),.string (bs (i22 L[k]).den)]=flat qV ((L.take (k+1)).map i22):=by
   rw [sB hkk,List.map_append,jU];rfl
  have ih:=fun v'=>ih (k+1,v') hkk (by dsimp only;omega)
  dsimp only at ih;clear hra hb;generalize (L.take (k+1)).map i22=X at *;generalize L[k]=n at *;dsimp only [isV] at hr;repeat' first|(refine gp ?_;and_intros<;>first|exact trivial|repeat first|intro(Bk:Nat)|intro h)|(apply G.cV (g:=35);rfl;rfl;exact fun w' _=>hi w')|(apply G.Pu;rfl;rfl;rfl;rfl;rfl;rfl;rfl;rfl;intro Bs)|(apply G.ap;rfl;rfl;rfl;(repeat (first|exact RAt.head|apply RAt.tail));exact cB.blk (by exact mm) rfl rfl;exact hcat;omega;omega;intro v2)
  exact J.P1 (ih v2)
 ·obtain rfl:k=L.length:=by omega
  rw [List.take_length];clear ih;all_goals (refine go ?_;and_intros<;>first|exact trivial|repeat first|intro(Bk:Nat)|intro h)
  (refine kE Tryz.func34 Tryz.results34 ?_;intro w' hw)
  exact NR (l:=L.map i22) (n:=L.length) (i:=0) (f:=qV) (fun _=>rfl) hw rfl (List.length_map ..) (fun v=>v)
theorem lZ {w0 w:World}{M:List Row}{A:Type}{f:A->List Value}{sz b tot:Nat}{e:TypeId}{l:List A}{cs:List Value} (hw:Sat w0 M w) (hf:∀ x,(f x).length=sz) (hm:Row.blk b e cs tot∈M) (hcs:cs=flat f l):aE w (some ⟨b,0,none⟩) sz (l.map f)/\w0.heap.size<=b:=by
 subst hcs;exact Nz hw hf hm
set_option maxHeartbeats 4000000 in
theorem Gv (w:World):Calls Tryz.prog 33 #[] w fun e w'=>∃ x:(Nat×Nat)×(Nat×Nat),e=.returned (.tuple #[.slice (some ⟨x.1.2,0,none⟩) 2 2,.slice (some ⟨x.2.1,0,none⟩) 2 2])/\aW w' (some ⟨x.1.2,0,none⟩) (eE (some ⟨x.1.1,0,none⟩) 3)/\aN w' (some ⟨x.2.1,0,none⟩) (fG (some ⟨x.2.2,0,none⟩) 2)/\(w.heap.size<=x.1.1/\w.heap.size<=x.1.2/\w.heap.size<=x.2.1/\w.heap.size<=x.2.2)/\Below w.heap.size w w':=by
 refine aB [] Tryz.func33 Tryz.ntmps33 ?_;repeat' first|(refine gp ?_;and_intros<;>first|exact trivial|repeat first|intro(Bk:Nat)|intro h)|(apply G.cV (g:=35) (vs:=[.int .i64 10]);rfl;rfl;exact fun w' _=>vI 10 dc dc w')|(apply G.cV (g:=35) (vs:=[.int .i64 1]);rfl;rfl;exact fun w' _=>vI 1 dc dc w')|(apply G.cV (g:=35) (vs:=[.int .i64 2]);rfl;rfl;exact fun w' _=>vI 2 dc dc w')|(apply G.Pu;rfl;rfl;rfl;rfl;rfl;rfl;rfl;rfl;intro Bs)|(apply J.Py (.q 0 <| .q 1 <| .q 2 <| .q 3 <| .q 4 <| .q 5 <| .q 6 <| .q 7 <| .q 8 <| .r 9 <| .q 10 <| .nil);exact Tryz.Pr;decide +kernel)|(apply J.Py (.q 0 <| .q 1 <| .q 2 <| .q 3 <| .q 4 <| .q 5 <| .q 6 <| .q 8 <| .r 7 <| .q 9 <| .nil);exact Tryz.Pr;decide +kernel)
 rename_i Bl B1 B2;refine sK Tryz.func33 Tryz.results33 ?_;intro w' hw;have k1:=lZ (b:=Bl) (f:=ptV) (sz:=4) (l:=IE) hw (fun _=>rfl) (by exact mm) rfl
 have k2:=lZ (b:=B1) (f:=hoV) (sz:=2) (l:=[((1:Int),(2:Int)),(5,1),(9,1)]) hw (fun _=>rfl) (by exact mm) rfl
 have k3:=lZ (b:=B2) (f:=rnV) (sz:=5) (l:=eE (some ⟨B1,0,none⟩) 3) hw (fun _=>rfl) (by exact mm) rfl
 have k4:=lZ (b:=Bs) (f:=spV) (sz:=7) (l:=fG (some ⟨Bl,0,none⟩) 2) hw (fun _=>rfl) (by exact mm) rfl
 refine ⟨((B1,B2),(Bs,Bl)),rfl,⟨k3.1,fun r hr=>?_⟩,⟨k4.1,fun s hs=>?_⟩,⟨k2.2,k3.2,k4.2,k1.2⟩,hw.below⟩
 ·simp only [eE,List.mem_cons,List.not_mem_nil,or_false] at hr
  rcases hr with rfl|rfl
  ·exact k2.1
  ·exact aE.nil
 ·simp only [fG,List.mem_cons,List.not_mem_nil,or_false] at hs
  rcases hs with rfl|rfl
  ·exact k1.1
  ·exact k1.1
end Go.Proofs.YtjcecdmbfmccoaaGreatDoor
