/-
  Contract: the law's examples hold.
-/
import Derived.Test.YtjcecdmbfmccoaaGreatDoorWA12
set_option linter.unusedVariables false
set_option linter.unusedSimpArgs false
set_option linter.unusedSectionVars false
namespace Go.Proofs.YtjcecdmbfmccoaaGreatDoor
open Go.RowKit Go.Sl Go.Num
theorem EZ {t:Bool}{rs:List Rn}{l:List Spn}{S:List Int} (h0:cU rs l=0) (hb:iR t l rs S):dP rs (f0R rs) S=true:=by
 by_cases hne:rs=[]
 ·subst hne
  rw [show S=[] from hb.ag,Az]
  decide +kernel
 ·exact (Ay (fB h0).1 hne).2 ⟨rfl,hb.ag⟩
theorem CA {l:List Spn} (hf:∀ s∈l,fewS s) (hR:∀ s∈l,aQ s):∀ (hs:List Int) (f:Int),(∀ x∈hs,0<=x/\x<=1000)->aH (1+141*hs.length) (rQ (aI l f hs))
 | [],_,_=>dX
 | x::hs,f,h=>by
  have h1:=CA hf hR hs (f+1) fun y hy=>h y (mC _ hy)
  have h2:=h x (List.mem_cons_self ..);rw [aI];exact aF (eT (Af hf hR h2.1 h2.2) h1 dc om) (by rw [List.length_cons];omega)
theorem yY {t:Bool}{rs:List Rn}{l:List Spn}{n:Nat} (h0:cU rs l=0) (hM:Mod rs l) (h1:jE 12 n rs) (hn:n<=1000) (x:Ba t rs l):aH 60000000 (jJ x)/\x.1.1.length<=1000:=by
 have hl:=ID h1 h0 x.2.ag;obtain ⟨_,_,hR,_,hok⟩:=dY h0;refine ⟨?_,by omega⟩
 exact aF (CA hM.few hR x.1.1 _ fun y hy=>x.2.ag.bd' hok y hy) om
theorem CB {rs:List Rn}{l:List Spn} (h0:cU rs l=0) (x:fV false rs l) (y:fV true rs l):AL rs l (qZ x y)=true :=
 NQ h0 x.1.1.2 y.1.1.2 (EZ h0 x.1.1.2) (EZ h0 y.1.1.2) (DN h0 x.1.1.2 x.2.1 x.2.2) (DN h0 y.1.1.2 y.2.1 y.2.2) rfl rfl
theorem IG {rs:List Rn}{l:List Spn} (h0:cU rs l=0) (x:fV false rs l) (y:fV true rs l):sN rs l (qZ x y)=true:=by
 have h:=CB h0 x y;unfold AL at h
 rw [Bool.and_eq_true] at h
 exact h.2
theorem KJ {rs:List Rn}{l:List Spn}{n:Nat} (h0:cU rs l=0) (hM:Mod rs l) (h1:jE 12 n rs) (hn:n<=1000) (x:fV false rs l) (y:fV true rs l):IC rs l (qZ x y) :=
 ⟨DP hM h0 x.2.1 x.2.2,DP hM h0 y.2.1 y.2.2,(yY h0 hM h1 hn x.1.1).1,(yY h0 hM h1 hn y.1.1).1⟩
theorem Fa {w0 w:World}{M:List Row}{N:Nat}{rs:List Rn}{l:List Spn}{n:Nat} (h0:cU rs l=0) (hM:Mod rs l) (h1:jE 12 n rs) (hn:n<=1000) (x:fV false rs l) (y:fV true rs l) (hw:Sat w0 M w) (r1:aL N x.1.1.1.2 1 (x.1.1.1.1.map isV)∈M) (r2:gO N x.1.2.2.1 x.1.2.1∈M) (r3:aL N y.1.1.1.2 1 (y.1.1.1.1.map isV)∈M) (r4:gO N y.1.2.2.1 y.1.2.1∈M):wY w (qZ x y) (yC x y) :=
 ⟨hw.sl r1,Nat.le_refl _,(yY h0 hM h1 hn x.1.1).2,hw.sl r3,Nat.le_refl _,(yY h0 hM h1 hn y.1.1).2,Sat.PT hw r2,Sat.PT hw r4⟩
section
variable {a1:Option Addr}{c1:Nat}{x:Option Addr}{y:Nat}
theorem yZ:jE 12 100 (eE a1 c1):=of_decide_eq_true (by kernel_rfl)
theorem KK:kH 8 (fG x y):=of_decide_eq_true (by kernel_rfl)
theorem fP:Mod (eE a1 c1) (fG x y):=sH yZ KK
theorem KL {S:List Int} (h:dP (eE a1 c1) 0 S=true):AgS (eE a1 c1) S:=(Kl (fB (lY a1 c1 none 0)).1 h).1
theorem On (z:Ba false (eE a1 c1) (fG x y)):jJ z=i22 12:=by
 have h1:=H1 (lY a1 c1 x y) z.2 (KL (Ol a1 c1));have hv:=Gu a1 c1 x y none 0 none 0;have h2:=MR (ps:=lX 1 5 5 0 1 (-5) none 0 none 0) (by rw [hv]) z.2.ag
 have h3:=(qM (t:=false) (rs:=eE a1 c1) (l:=fG x y) (ps:=lX 1 5 5 0 1 (-5) none 0 none 0) (by rw [hv])).2.2.2.2
 rw [hv] at h3;have h4:eQ false (fG x y) (eE a1 c1) (lX 1 5 5 0 1 (-5) none 0 none 0)=((12:Int):Rat):=by
  have:=congrArg (fun q=>qR q.1) h3
  dsimp only at this;unfold i22 at this;rw [bR,bR] at this;exact this.symm
 rw [h4] at h2;rw [show f0R (eE a1 c1)=0 from rfl,Oj] at h1
 simp only [sgR,Bool.false_eq_true,if_false] at h1 h2;unfold jJ i22;rw [show f0R (eE a1 c1)=0 from rfl] at h2 ⊢
 exact congrArg rQ (Rat.le_antisymm h1 h2)
theorem Gw (z:Ba true (eE a1 c1) (fG x y)):jJ z=i22 30:=by
 have h1:=H1 (lY a1 c1 x y) z.2 (KL (Om a1 c1));have hv:=Oi a1 c1 x y none 0 none 0;have h2:=MR (ps:=lX 0 4 8 1 10 0 none 0 none 0) (by rw [hv]) z.2.ag
 have h3:=(qM (t:=true) (rs:=eE a1 c1) (l:=fG x y) (ps:=lX 0 4 8 1 10 0 none 0 none 0) (by rw [hv])).2.2.2.2
 rw [hv] at h3;have h4:eQ true (fG x y) (eE a1 c1) (lX 0 4 8 1 10 0 none 0 none 0)=((30:Int):Rat):=by
  have:=congrArg (fun q=>qR q.1) h3
  dsimp only at this;unfold i22 at this;rw [bR,bR] at this;exact this.symm
 rw [h4] at h2;rw [show f0R (eE a1 c1)=0 from rfl,Ok] at h1
 simp only [sgR,if_true] at h1 h2;unfold jJ i22;rw [show f0R (eE a1 c1)=0 from rfl] at h2 ⊢
 exact congrArg rQ (by grind)
theorem Bw {u1 u2 u3 v1 v2 v3:Int}{sa:Option Addr}{sc:Nat}{ca:Option Addr}{cc:Nat} (h:([i22 u1,i22 u2,i22 u3,i22 v1,i22 v2,i22 v3].all fun q=>decide (aH 40 q))=true):shrt 40 (lX u1 u2 u3 v1 v2 v3 sa sc ca cc):=fun p hp=>by
 simp only [lX,List.mem_cons,List.not_mem_nil,or_false] at hp;rcases hp with rfl|rfl
 ·exact ⟨(show (6:Nat)<=30 by decide),fun q hq=>of_decide_eq_true (List.all_eq_true.1 h q hq)⟩
 ·exact ⟨Nat.zero_le _,fun q hq=>absurd hq List.not_mem_nil⟩
theorem Bz {w0 w:World}{M:List Row}{N b1 b2:Nat} (hw:Sat w0 M w) (h1:aL N (some ⟨b2,0,none⟩) 5 ((eE (some ⟨b1,0,none⟩) 3).map rnV)∈M) (h2:aL N (some ⟨b1,0,none⟩) 2 ([((1:Int),(2:Int)),(5,1),(9,1)].map hoV)∈M):aW w (some ⟨b2,0,none⟩) (eE (some ⟨b1,0,none⟩) 3):=by
 refine ⟨hw.sl h1,fun r hr=>?_⟩
 simp only [eE,List.mem_cons,List.not_mem_nil,or_false] at hr;rcases hr with rfl|rfl
 ·exact hw.sl h2
 ·exact aE.nil
theorem B0 {w0 w:World}{M:List Row}{N b3 bl:Nat} (hw:Sat w0 M w) (h1:aL N (some ⟨b3,0,none⟩) 7 ((fG (some ⟨bl,0,none⟩) 2).map spV)∈M) (h2:aL N (some ⟨bl,0,none⟩) 4 (IE.map ptV)∈M):aN w (some ⟨b3,0,none⟩) (fG (some ⟨bl,0,none⟩) 2):=by
 refine ⟨hw.sl h1,fun s hs=>?_⟩
 simp only [fG,List.mem_cons,List.not_mem_nil,or_false] at hs;rcases hs with rfl|rfl
 ·exact hw.sl h2
 ·exact hw.sl h2
theorem Gx {w0 w:World}{M:List Row}{N Bp E tot:Nat}{cs:List Value}{u1 u2 u3 v1 v2 v3:Int}{sa:Option Addr}{sc:Nat}{ca:Option Addr}{cc:Nat} (hw:Sat w0 M w) (h1:Row.blk Bp E cs tot∈M) (hcs:cs=flat prV (lX u1 u2 u3 v1 v2 v3 sa sc ca cc)) (h2:aL N sa 3 (([u1,u2,u3].map i22).map qV)∈M) (h3:aL N ca 3 (([v1,v2,v3].map i22).map qV)∈M):bK w (some ⟨Bp,0,none⟩) (lX u1 u2 u3 v1 v2 v3 sa sc ca cc):=by
 refine ⟨(lZ (f:=prV) hw (fun _=>rfl) h1 hcs).1,fun p hp=>?_⟩
 simp only [lX,List.mem_cons,List.not_mem_nil,or_false] at hp;rcases hp with rfl|rfl
 ·exact ⟨hw.sl h2,hw.sl h3⟩
 ·exact ⟨aE.nil,aE.nil⟩
theorem KM {t:Bool}{a1:Option Addr}{c1:Nat}{x:Option Addr}{y:Nat}{p:Prf}:bF t (eE a1 c1) (fG x y) [p]=(aY,1):=by
 unfold bF;rw [if_neg (by rw [lY];decide),if_pos (by unfold eE;simp)]
end
variable {C:Ctx}{st:List (Nat×Value)}{M:List Row}{k:List Item}{q q':Md}{all rest:List Oper}{d:Nat}{ty:TypeId}{pos:String}{after:Array Edge}{gd:Option (Nat×Bool)}
theorem G.R7 {args:List Operand}{at_:Array TypeId}
  (h:∀ b1 b2 b3 bl:Nat,G q' C all ((d,.tuple #[.slice (some ⟨b2,0,none⟩) 2 2,.slice (some ⟨b3,0,none⟩) 2 2])::st) (aL C.w0.heap.size (some ⟨b2,0,none⟩) 5 ((eE (some ⟨b1,0,none⟩) 3).map rnV)::aL C.w0.heap.size (some ⟨b1,0,none⟩) 2 ([((1:Int),(2:Int)),(5,1),(9,1)].map hoV)::aL C.w0.heap.size (some ⟨b3,0,none⟩) 7 ((fG (some ⟨bl,0,none⟩) 2).map spV)::aL C.w0.heap.size (some ⟨bl,0,none⟩) 4 (IE.map ptV)::M) rest k)
  (hP:C.P=Tryz.prog:=by rfl) (ha:evL st args=some []:=by rfl) (hs:bA all st gd d C.N q.ext=some q':=by rfl) :
  G q C all st M ({ dst:=some d,op:=.call { callee:=.value (.func 33),args:=args.toArray,argTypes:=at_ },type:=ty,pos,after,guard:=gd }::rest) k:=by
 obtain ⟨P,b,PHI,N0,w0,D⟩:=C;dsimp only at hP;subst hP;obtain ⟨g1,g2,g3⟩:=aJ hs;refine G.call0 (X:=(Nat×Nat)×(Nat×Nat)) (v:=fun x=>.tuple #[.slice (some ⟨x.1.2,0,none⟩) 2 2,.slice (some ⟨x.2.1,0,none⟩) 2 2]) (Mn:=fun x=>[aL w0.heap.size (some ⟨x.1.2,0,none⟩) 5 ((eE (some ⟨x.1.1,0,none⟩) 3).map rnV),aL w0.heap.size (some ⟨x.1.1,0,none⟩) 2 ([((1:Int),(2:Int)),(5,1),(9,1)].map hoV),aL w0.heap.size (some ⟨x.2.1,0,none⟩) 7 ((fG (some ⟨x.2.2,0,none⟩) 2).map spV),aL w0.heap.size (some ⟨x.2.2,0,none⟩) 4 (IE.map ptV)]) g1 g2 g3 ha (fun w hw=>(Gv w).mono fun e w' he=>?_) fun x=>h x.1.1 x.1.2 x.2.1 x.2.2
 obtain ⟨x,rfl,⟨h1,h2⟩,⟨h3,h4⟩,⟨f1,f2,f3,f4⟩,h5⟩:=he;have nl:∀ {b:Nat},w.heap.size<=b->∀ p,some (⟨b,0,none⟩:Addr)=some p->∀ r∈M,¬ r.lock p.block:=fun hf p hp r hr hl=>by
  cases hp;have:=((hw.old r hr).2 _ (Row.P2 hl)).2;dsimp only at this;omega
 have k1:=(hw.ext h5).addSl (h4 _ (List.mem_cons_self ..)) (nl f4);have k2:=k1.addSl h3 fun p hp r hr=>by
  rcases List.mem_cons.1 hr with rfl|hr
  ·exact fun h=>h
  ·exact nl f3 p hp r hr
 have k3:=k2.addSl (h2 _ (List.mem_cons_self ..)) fun p hp r hr=>by
  rcases List.mem_cons.1 hr with rfl|hr
  ·exact fun h=>h
  rcases List.mem_cons.1 hr with rfl|hr
  ·exact fun h=>h
  ·exact nl f1 p hp r hr
 refine ⟨x,rfl,k3.addSl h1 fun p hp r hr=>?_⟩
 rcases List.mem_cons.1 hr with rfl|hr
 ·exact fun h=>h
 rcases List.mem_cons.1 hr with rfl|hr
 ·exact fun h=>h
 rcases List.mem_cons.1 hr with rfl|hr
 ·exact fun h=>h
 ·exact nl f2 p hp r hr
theorem Oo {a1:Option Addr}{c1:Nat}{x':Option Addr}{y':Nat} (x:fV false (eE a1 c1) (fG x' y')) (y:fV true (eE a1 c1) (fG x' y')):shA (qZ x y) (yC x y)=.agg #[.bool (i22 12).neg,.string (bs (i22 12).num),.string (bs (i22 12).den),.bool (i22 30).neg,.string (bs (i22 30).num),.string (bs (i22 30).den),.int .i64 0,.slice x.1.1.1.2 x.1.1.1.1.length x.1.1.1.1.length,.int .i64 0,.slice y.1.1.1.2 y.1.1.1.1.length y.1.1.1.1.length,.slice x.1.2.2.1 2 x.1.2.2.2,.slice y.1.2.2.1 2 y.1.2.2.2]:=by
 unfold shA qZ yC;dsimp only;rw [On,Gw,x.2.1,y.2.1];rfl
attribute [local irreducible] i22
theorem bK.take {w:World}{a:Option Addr}{ps:List Prf} (h:bK w a ps) (n:Nat):bK w a (ps.take n):=by
 refine ⟨fun h0=>?_,fun r hr=>h.2 r (List.mem_of_mem_take hr)⟩
 rw [List.length_map,List.length_take] at h0;obtain ⟨b,off,e,hr⟩:=h.1 (by rw [List.length_map];omega)
 refine ⟨b,off,e,fun i cs hi=>hr i cs ?_⟩
 rw [List.map_take,List.getElem?_take] at hi;split at hi
 ·exact hi
 ·cases hi
section
variable {w:World}{b1 b2 b3 bl Bp:Nat}{u1 u2 u3 v1 v2 v3:Int}{sa:Option Addr}{sc:Nat}{ca:Option Addr}{cc:Nat}
theorem Oq {Q:Q3}{E:Int} (hA:aW w (some ⟨b2,0,none⟩) (eE (some ⟨b1,0,none⟩) 3)) (hB:aN w (some ⟨b3,0,none⟩) (fG (some ⟨bl,0,none⟩) 2)) (hP:bK w (some ⟨Bp,0,none⟩) (lX u1 u2 u3 v1 v2 v3 sa sc ca cc)) (hv:bF false (eE (some ⟨b1,0,none⟩) 3) (fG (some ⟨bl,0,none⟩) 2) (lX u1 u2 u3 v1 v2 v3 sa sc ca cc)=(Q,E)) (hf:([i22 u1,i22 u2,i22 u3,i22 v1,i22 v2,i22 v3].all fun q=>decide (aH 40 q))=true) :
  CR 11 #[.slice (some ⟨b2,0,none⟩) 2 2,.slice (some ⟨b3,0,none⟩) 2 2,.slice (some ⟨Bp,0,none⟩) 2 2,.bool false] w (.tuple #[qA Q,.int .i64 E]):=by
 have h:=DQ false (some ⟨b2,0,none⟩) 2 (some ⟨b3,0,none⟩) 2 (some ⟨Bp,0,none⟩) 2 w hA hB fP hP (fE dc fP (Bw hf));rw [hv] at h
 exact h
theorem OT (hA:aW w (some ⟨b2,0,none⟩) (eE (some ⟨b1,0,none⟩) 3)) (hB:aN w (some ⟨b3,0,none⟩) (fG (some ⟨bl,0,none⟩) 2)) (hP:bK w (some ⟨Bp,0,none⟩) (lX u1 u2 u3 v1 v2 v3 sa sc ca cc)) (hf:([i22 u1,i22 u2,i22 u3,i22 v1,i22 v2,i22 v3].all fun q=>decide (aH 40 q))=true) :
  CR 11 #[.slice (some ⟨b2,0,none⟩) 2 2,.slice (some ⟨b3,0,none⟩) 2 2,.slice (some ⟨Bp,0,none⟩) 1 2,.bool false] w (.tuple #[qA aY,.int .i64 1]):=by
 have h:=DQ false (some ⟨b2,0,none⟩) 2 (some ⟨b3,0,none⟩) 2 (some ⟨Bp,0,none⟩) 2 w hA hB fP (hP.take 1) (fE dc fP fun p hp=>Bw hf p (List.mem_of_mem_take hp))
 rw [show (lX u1 u2 u3 v1 v2 v3 sa sc ca cc).take 1=[⟨[i22 u1,i22 u2,i22 u3],[i22 v1,i22 v2,i22 v3],sa,sc,ca,cc⟩] from rfl,KM] at h
 exact h
end
section
variable {w:World}{b1 b2 b3 bl Bp:Nat}{sa:Option Addr}{sc:Nat}{ca:Option Addr}{cc:Nat}
def DR (n:Int) (sa:Option Addr) (sc:Nat) (ca:Option Addr) (cc:Nat) (ps:List Prf):Shp:=⟨i22 n,i22 30,0,[],0,[],lX 1 5 5 0 1 (-5) sa sc ca cc,ps⟩
def KN (Bp:Nat) (pa:Option Addr) (pc:Nat):ShM:=⟨none,0,none,0,some ⟨Bp,0,none⟩,2,pa,pc⟩
theorem MX {ps:List Prf}{pa:Option Addr}{pc:Nat}{n:Int} (hP:bK w (some ⟨Bp,0,none⟩) (lX 1 5 5 0 1 (-5) sa sc ca cc)) (hQ:bK w pa ps):wY w (DR n sa sc ca cc ps) (KN Bp pa pc):=⟨aE.nil,Nat.le_refl _,Nat.zero_le _,aE.nil,Nat.le_refl _,Nat.zero_le _,hP,hQ⟩
theorem OU {n:Int}{B:Bool} (x:fV true (eE (some ⟨b1,0,none⟩) 3) (fG (some ⟨bl,0,none⟩) 2)) (hA:aW w (some ⟨b2,0,none⟩) (eE (some ⟨b1,0,none⟩) 3)) (hB:aN w (some ⟨b3,0,none⟩) (fG (some ⟨bl,0,none⟩) 2)) (hP:bK w (some ⟨Bp,0,none⟩) (lX 1 5 5 0 1 (-5) sa sc ca cc)) (hQ:bK w x.1.2.2.1 x.1.2.1) (hn:decide (aH 40 (i22 n))=true) (hv:(decide (0<=dR (qR (i22 12)-qR (i22 n))) && decide (dR (qR (i22 30)-qR (i22 30))<=0))=B) :
  CR 13 #[.slice (some ⟨b2,0,none⟩) 2 2,.slice (some ⟨b3,0,none⟩) 2 2,.agg #[.bool (i22 n).neg,.string (bs (i22 n).num),.string (bs (i22 n).den),.bool (i22 30).neg,.string (bs (i22 30).num),.string (bs (i22 30).den),.int .i64 0,.slice none 0 0,.int .i64 0,.slice none 0 0,.slice (some ⟨Bp,0,none⟩) 2 2,.slice x.1.2.2.1 2 x.1.2.2.2]] w (.bool B):=by
 have h:=KI (s:=DR n sa sc ca cc x.1.2.1) (m:=KN Bp x.1.2.2.1 x.1.2.2.2) (some ⟨b2,0,none⟩) 2 (some ⟨b3,0,none⟩) 2 w hA hB fP (MX hP hQ) ⟨fE (k:=40) dc fP (Bw (by kernel_rfl)),DP fP (lY ..) x.2.1 x.2.2,aF (of_decide_eq_true hn) dc,aF (k:=60000000) (j:=40) (of_decide_eq_true (by kernel_rfl)) dc⟩
 have e:lV (eE (some ⟨b1,0,none⟩) 3) (fG (some ⟨bl,0,none⟩) 2) (DR n sa sc ca cc x.1.2.1)=B:=by
  unfold lV DR;dsimp only;have h2:=DN (lY ..) x.1.1.2 x.2.1 x.2.2;have h3:=Gw x.1.1;unfold jJ at h3;rw [h3] at h2;rw [Gu,h2,<- hv];simp
 rw [e] at h
 unfold shA DR KN at h
 dsimp only at h
 rw [x.2.1] at h
 exact h
theorem Pj (x:fV true (eE (some ⟨b1,0,none⟩) 3) (fG (some ⟨bl,0,none⟩) 2)) (hA:aW w (some ⟨b2,0,none⟩) (eE (some ⟨b1,0,none⟩) 3)) (hB:aN w (some ⟨b3,0,none⟩) (fG (some ⟨bl,0,none⟩) 2)) (hP:bK w (some ⟨Bp,0,none⟩) (lX 1 5 5 0 1 (-5) sa sc ca cc)) (hQ:bK w x.1.2.2.1 x.1.2.1) :
  CR 15 #[.slice (some ⟨b2,0,none⟩) 2 2,.slice (some ⟨b3,0,none⟩) 2 2,.agg #[.bool (i22 11).neg,.string (bs (i22 11).num),.string (bs (i22 11).den),.bool (i22 30).neg,.string (bs (i22 30).num),.string (bs (i22 30).den),.int .i64 0,.slice none 0 0,.int .i64 0,.slice none 0 0,.slice (some ⟨Bp,0,none⟩) 2 2,.slice x.1.2.2.1 2 x.1.2.2.2]] w (.bool false):=by
 have h:=My (s:=DR 11 sa sc ca cc x.1.2.1) (m:=KN Bp x.1.2.2.1 x.1.2.2.2) (some ⟨b2,0,none⟩) 2 (some ⟨b3,0,none⟩) 2 w hA hB fP (MX hP hQ);have e:sN (eE (some ⟨b1,0,none⟩) 3) (fG (some ⟨bl,0,none⟩) 2) (DR 11 sa sc ca cc x.1.2.1)=false:=by
  unfold sN DR;dsimp only;rw [show dP (eE (some ⟨b1,0,none⟩) 3) 0 []=false from by kernel_rfl]
  simp
 rw [e] at h
 unfold shA DR KN at h
 dsimp only at h
 rw [x.2.1] at h
 exact h
theorem KO (x:fV false (eE (some ⟨b1,0,none⟩) 3) (fG (some ⟨bl,0,none⟩) 2)) (y:fV true (eE (some ⟨b1,0,none⟩) 3) (fG (some ⟨bl,0,none⟩) 2)) (hA:aW w (some ⟨b2,0,none⟩) (eE (some ⟨b1,0,none⟩) 3)) (hB:aN w (some ⟨b3,0,none⟩) (fG (some ⟨bl,0,none⟩) 2)) (hS:wY w (qZ x y) (yC x y)) (v:Value) (hv:shA (qZ x y) (yC x y)=v) :
  (CR 17 #[.slice (some ⟨b2,0,none⟩) 2 2,.slice (some ⟨b3,0,none⟩) 2 2,v] w (.bool true))/\(CR 15 #[.slice (some ⟨b2,0,none⟩) 2 2,.slice (some ⟨b3,0,none⟩) 2 2,v] w (.bool true)):=by
 subst hv;have hc:=lY (some ⟨b1,0,none⟩) 3 (some ⟨bl,0,none⟩) 2;have h1:=OS (some ⟨b2,0,none⟩) 2 (some ⟨b3,0,none⟩) 2 w hA hB fP hS (KJ hc fP yZ dc x y);have h2:=My (some ⟨b2,0,none⟩) 2 (some ⟨b3,0,none⟩) 2 w hA hB fP hS;rw [CB hc] at h1;rw [IG hc] at h2;exact ⟨h1,h2⟩
end
set_option maxHeartbeats 8000000 in
theorem bQ (w:World):CR 10 #[] w (.bool true):=by
 refine aB [] Tryz.func10 Tryz.ntmps10 ?_;repeat' first|(refine gp ?_;and_intros<;>first|exact trivial|repeat first|intro(Bk:Nat)|intro h)|(refine G.R7 ?_;intro b1 b2 b3 bl)|(apply G.Pu (d:=30);rfl;rfl;rfl;rfl;rfl;rfl;rfl;rfl;intro Bp)|(apply G.Pu;rfl;rfl;rfl;rfl;rfl;rfl;rfl;rfl;intro Bs)|(refine G.cL (g:=34) (d:=25) (sz:=3) (f:=qV) (fun v=>v) ([1,5,5].map i22) rfl rfl (fun w' hw'=>jR (some ⟨Bs,0,none⟩) [1,5,5] 3 w' (lZ (f:=isV) (l:=[1,5,5]) hw' dE mm (by kernel_rfl)).1 dc dc) ?_;intro s1 k1 _ _)|(refine G.cL (g:=34) (d:=27) (sz:=3) (f:=qV) (fun v=>v) ([0,1,-5].map i22) rfl rfl (fun w' hw'=>jR (some ⟨Bs,0,none⟩) [0,1,-5] 3 w' (lZ (f:=isV) (l:=[0,1,-5]) hw' dE mm (by kernel_rfl)).1 dc dc) ?_;intro s2 k2 _ _)|(refine G.cL (g:=34) (d:=42) (sz:=3) (f:=qV) (fun v=>v) ([1,6,5].map i22) rfl rfl (fun w' hw'=>jR (some ⟨Bs,0,none⟩) [1,6,5] 3 w' (lZ (f:=isV) (l:=[1,6,5]) hw' dE mm (by kernel_rfl)).1 dc dc) ?_;intro s3 k3 _ _)|(refine G.cL (g:=34) (d:=44) (sz:=3) (f:=qV) (fun v=>v) ([0,1,-5].map i22) rfl rfl (fun w' hw'=>jR (some ⟨Bs,0,none⟩) [0,1,-5] 3 w' (lZ (f:=isV) (l:=[0,1,-5]) hw' dE mm (by kernel_rfl)).1 dc dc) ?_;intro s4 k4 _ _)|(refine G.cL (g:=34) (d:=55) (sz:=3) (f:=qV) (fun v=>v) ([0,0,0].map i22) rfl rfl (fun w' hw'=>jR (some ⟨Bs,0,none⟩) [0,0,0] 3 w' (lZ (f:=isV) (l:=[0,0,0]) hw' dE mm (by kernel_rfl)).1 dc dc) ?_;intro s5 k5 _ _)|(refine G.cL (g:=34) (d:=57) (sz:=3) (f:=qV) (fun v=>v) ([1,2,0].map i22) rfl rfl (fun w' hw'=>jR (some ⟨Bs,0,none⟩) [1,2,0] 3 w' (lZ (f:=isV) (l:=[1,2,0]) hw' dE mm (by kernel_rfl)).1 dc dc) ?_;intro s6 k6 _ _)|(apply G.cV (g:=11) (d:=35);rfl;rfl;exact fun w' hw'=>Oq (Bz hw' mm mm) (B0 hw' mm mm) (Gx (u1:=1) (u2:=5) (u3:=5) (v1:=0) (v2:=1) (v3:=-5) (sa:=s1) (sc:=k1) (ca:=s2) (cc:=k2) hw' mm (by kernel_rfl) mm mm) (Gu ..) (by kernel_rfl))|(apply G.cV (g:=11) (d:=48);rfl;rfl;exact fun w' hw'=>Oq (Bz hw' mm mm) (B0 hw' mm mm) (Gx (u1:=1) (u2:=6) (u3:=5) (v1:=0) (v2:=1) (v3:=-5) (sa:=s3) (sc:=k3) (ca:=s4) (cc:=k4) hw' mm (by kernel_rfl) mm mm) (Og ..) (by kernel_rfl))|(apply G.cV (g:=11) (d:=61);rfl;rfl;exact fun w' hw'=>Oq (Bz hw' mm mm) (B0 hw' mm mm) (Gx (u1:=0) (u2:=0) (u3:=0) (v1:=1) (v2:=2) (v3:=0) (sa:=s5) (sc:=k5) (ca:=s6) (cc:=k6) hw' mm (by kernel_rfl) mm mm) (Oh ..) (by kernel_rfl))|(apply G.sliceTo (h:=1);rfl;rfl;rfl;decide;rfl;rfl;rfl)|(apply G.cV (g:=11) (d:=69);rfl;rfl;exact fun w' hw'=>OT (Bz hw' mm mm) (B0 hw' mm mm) (Gx (u1:=1) (u2:=5) (u3:=5) (v1:=0) (v2:=1) (v3:=-5) (sa:=s1) (sc:=k1) (ca:=s2) (cc:=k2) (Bp:=Bp) hw' mm (by kernel_rfl) mm mm) (by kernel_rfl))|(refine G.Rr (t:=true) (rs:=eE (some ⟨b1,0,none⟩) 3) (l:=fG (some ⟨bl,0,none⟩) 2) (g:=24) (fun x=>.tuple #[qA (jJ x.1.1),.slice x.1.2.2.1 2 x.1.2.2.2,.int .i64 0]) rfl rfl (fun w' hw'=>KG true (some ⟨b2,0,none⟩) _ 2 (some ⟨b3,0,none⟩) _ 2 w' (Bz hw' mm mm) (B0 hw' mm mm) fP (lY ..)) ?_;intro x;dsimp only;rw [Gw x.1.1])|(refine G.RB (rs:=eE (some ⟨b1,0,none⟩) 3) (l:=fG (some ⟨bl,0,none⟩) 2) (g:=25) (fun z=>.tuple #[shA (qZ z.1 z.2) (yC z.1 z.2),.int .i64 0]) rfl rfl (fun w' hw'=>KH (some ⟨b2,0,none⟩) _ 2 (some ⟨b3,0,none⟩) _ 2 w' (Bz hw' mm mm) (B0 hw' mm mm) fP (lY ..)) ?_;intro z1 z2;dsimp only;rw [Oo z1 z2])|(apply G.cV (g:=35) (d:=79);rfl;rfl;exact fun w' _=>vI 11 dc dc w')|(apply G.cV (g:=35) (d:=86);rfl;rfl;exact fun w' _=>vI 13 dc dc w')|(apply G.cV (g:=35) (d:=120);rfl;rfl;exact fun w' _=>vI 12 dc dc w')|(apply G.cV (g:=35) (d:=125);rfl;rfl;exact fun w' _=>vI 8 dc dc w')|(apply G.cV (g:=35) (d:=130);rfl;rfl;exact fun w' _=>vI 30 dc dc w')|(apply J.Py (.q 0 <| .q 1 <| .q 2 <| .q 3 <| .q 4 <| .q 5 <| .e 6 <| .r 7 <| .nil);exact Tryz.Pr;decide +kernel)|(refine G.cV (g:=13) (d:=137) (v:=.bool true) (vs:=[.slice (some ⟨b2,0,none⟩) 2 2,.slice (some ⟨b3,0,none⟩) 2 2,.agg #[.bool (i22 11).neg,.string (bs (i22 11).num),.string (bs (i22 11).den),.bool (i22 30).neg,.string (bs (i22 30).num),.string (bs (i22 30).den),.int .i64 0,.slice none 0 0,.int .i64 0,.slice none 0 0,.slice (some ⟨Bp,0,none⟩) 2 2,.slice x.1.2.2.1 2 x.1.2.2.2]]) ?_ rfl ?_ ?_;kernel_rfl;exact fun w' hw'=>OU (n:=11) x (Bz hw' mm mm) (B0 hw' mm mm) (Gx (u1:=1) (u2:=5) (u3:=5) (v1:=0) (v2:=1) (v3:=-5) (sa:=s1) (sc:=k1) (ca:=s2) (cc:=k2) (Bp:=Bp) hw' mm (by kernel_rfl) mm mm) (Sat.PT hw' mm) (by kernel_rfl) (by kernel_rfl))|(refine G.cV (g:=13) (d:=143) (v:=.bool false) (vs:=[.slice (some ⟨b2,0,none⟩) 2 2,.slice (some ⟨b3,0,none⟩) 2 2,.agg #[.bool (i22 13).neg,.string (bs (i22 13).num),.string (bs (i22 13).den),.bool (i22 30).neg,.string (bs (i22 30).num),.string (bs (i22 30).den),.int .i64 0,.slice none 0 0,.int .i64 0,.slice none 0 0,.slice (some ⟨Bp,0,none⟩) 2 2,.slice x.1.2.2.1 2 x.1.2.2.2]]) ?_ rfl ?_ ?_;kernel_rfl;exact fun w' hw'=>OU (n:=13) x (Bz hw' mm mm) (B0 hw' mm mm) (Gx (u1:=1) (u2:=5) (u3:=5) (v1:=0) (v2:=1) (v3:=-5) (sa:=s1) (sc:=k1) (ca:=s2) (cc:=k2) (Bp:=Bp) hw' mm (by kernel_rfl) mm mm) (Sat.PT hw' mm) (by kernel_rfl) (by kernel_rfl))|(refine G.cV (g:=15) (d:=150) (v:=.bool false) (vs:=[.slice (some ⟨b2,0,none⟩) 2 2,.slice (some ⟨b3,0,none⟩) 2 2,.agg #[.bool (i22 11).neg,.string (bs (i22 11).num),.string (bs (i22 11).den),.bool (i22 30).neg,.string (bs (i22 30).num),.string (bs (i22 30).den),.int .i64 0,.slice none 0 0,.int .i64 0,.slice none 0 0,.slice (some ⟨Bp,0,none⟩) 2 2,.slice x.1.2.2.1 2 x.1.2.2.2]]) ?_ rfl ?_ ?_;kernel_rfl;exact fun w' hw'=>Pj x (Bz hw' mm mm) (B0 hw' mm mm) (Gx (u1:=1) (u2:=5) (u3:=5) (v1:=0) (v2:=1) (v3:=-5) (sa:=s1) (sc:=k1) (ca:=s2) (cc:=k2) (Bp:=Bp) hw' mm (by kernel_rfl) mm mm) (Sat.PT hw' mm))|(refine G.cV (g:=17) (d:=165) (v:=.bool true) (vs:=[.slice (some ⟨b2,0,none⟩) 2 2,.slice (some ⟨b3,0,none⟩) 2 2,.agg #[.bool (i22 12).neg,.string (bs (i22 12).num),.string (bs (i22 12).den),.bool (i22 30).neg,.string (bs (i22 30).num),.string (bs (i22 30).den),.int .i64 0,.slice z1.1.1.1.2 z1.1.1.1.1.length z1.1.1.1.1.length,.int .i64 0,.slice z2.1.1.1.2 z2.1.1.1.1.length z2.1.1.1.1.length,.slice z1.1.2.2.1 2 z1.1.2.2.2,.slice z2.1.2.2.1 2 z2.1.2.2.2]]) ?_ rfl ?_ ?_;kernel_rfl;exact fun w' hw'=>(KO z1 z2 (Bz hw' mm mm) (B0 hw' mm mm) (Fa (lY ..) fP yZ dc z1 z2 hw' mm mm mm mm) _ (Oo z1 z2)).1)|(refine G.cV (g:=15) (d:=171) (v:=.bool true) (vs:=[.slice (some ⟨b2,0,none⟩) 2 2,.slice (some ⟨b3,0,none⟩) 2 2,.agg #[.bool (i22 12).neg,.string (bs (i22 12).num),.string (bs (i22 12).den),.bool (i22 30).neg,.string (bs (i22 30).num),.string (bs (i22 30).den),.int .i64 0,.slice z1.1.1.1.2 z1.1.1.1.1.length z1.1.1.1.1.length,.int .i64 0,.slice z2.1.1.1.2 z2.1.1.1.1.length z2.1.1.1.1.length,.slice z1.1.2.2.1 2 z1.1.2.2.2,.slice z2.1.2.2.1 2 z2.1.2.2.2]]) ?_ rfl ?_ ?_;kernel_rfl;exact fun w' hw'=>(KO z1 z2 (Bz hw' mm mm) (B0 hw' mm mm) (Fa (lY ..) fP yZ dc z1 z2 hw' mm mm mm mm) _ (Oo z1 z2)).2)|(refine G.PK (i22 12) (i22 12) (d:=121) rfl rfl rfl (fun _=>?_) (fun hne=>absurd rfl hne))|(refine G.PK (i22 8) (i22 8) (d:=126) rfl rfl rfl (fun _=>?_) (fun hne=>absurd rfl hne))|(refine G.PK (i22 30) (i22 30) (d:=131) rfl rfl rfl (fun _=>?_) (fun hne=>absurd rfl hne))|(refine G.R8 (i22 12) (i22 30) (i22 12) (i22 30) (d:=159) ?_ ?_ rfl (fun _=>?_) (fun hne=>absurd ⟨rfl,rfl⟩ hne);kernel_rfl;kernel_rfl)|fail
 all_goals exact aA Tryz.func10 Tryz.results10 rfl
end Go.Proofs.YtjcecdmbfmccoaaGreatDoor
