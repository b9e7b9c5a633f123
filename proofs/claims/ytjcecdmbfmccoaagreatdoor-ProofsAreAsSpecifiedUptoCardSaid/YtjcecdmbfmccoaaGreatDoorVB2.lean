/-
  Contracts of proofs, by the specification: what a proof proves.
-/
import Derived.Test.YtjcecdmbfmccoaaGreatDoorCW
import Derived.Test.YtjcecdmbfmccoaaGreatDoorCK
import Derived.Test.YtjcecdmbfmccoaaGreatDoorCT
import Derived.Test.YtjcecdmbfmccoaaGreatDoorVB1
import Derived.Test.YtjcecdmbfmccoaaGreatDoorRows
import Derived.JoinedCond
import Derived.LaidMore
import Derived.Lay
import Derived.ProofKit
set_option linter.unusedVariables false
set_option linter.unusedSimpArgs false
set_option linter.unusedSectionVars false
namespace Go.Proofs.YtjcecdmbfmccoaaGreatDoor
open Go.RowKit Go.Sl Go.Num
theorem aC.QY {C:Ctx}{M:List Row}{r:Rn}{l:List Spn}{N b off c:Nat} (hm:aL N (some ⟨b,off,none⟩) 2 ((aD r l).map hoV)∈M) (h:c < (aD r l).length):aC C M ⟨b,off+c*2+1,none⟩ (.int .i64 (aT r l c)) :=
 Go.Sl.aC.sl (f:=hoV) (j:=1) hm h (by
  have h1:=(List.getElem?_eq_some_iff.1 (iH h)).2;rw [h1];rfl)
set_option maxHeartbeats 8000000 in
theorem GB (t:Bool) (a:Option Addr) (rs:List Rn) (c:Nat) (b:Option Addr) (l:List Spn) (d:Nat) (pa:Option Addr) (ps:List Prf) (pc:Nat) (w:World) (hA:aW w a rs) (hB:aN w b l) (hM:Mod rs l) (hP:bK w pa ps) (hfp:∀ p∈ps,EV 20000000 p/\p.st.length<=1000000/\p.cl.length<=1000000) (D B K:Nat) (hD:cU rs l=0->ps.length=rs.length->(∀ x∈rs.zip ps,bP l x.1 x.2=true)->Bc D B K/\∀ y∈rs.zip ps,sO t l D B y.1 y.2) :
  CR 12 #[.slice a rs.length c,.slice b l.length d,.slice pa ps.length pc,.bool t] w (nE (bF t rs l ps)):=by
 have hck:=fun w' (hb:Below w.heap.size w w')=>tW a rs c b l d w' (hA.below hb) hM.tab (hB.below hb) hM.few
 by_cases h0:cU rs l=0
 ·by_cases hne:ps.length=rs.length
  ·obtain ⟨hio,hl4,hR,hrl,hok⟩:=dY h0
   have hcl:=fun k (hk:k < rs.length) w' (hb:Below w.heap.size w w')=>BA a rs c b l d k w' (hA.below hb) hM.tab (hB.below hb) hM.few h0 hk
   have hvf:∀ i (h1:i < rs.length) (h2:i < ps.length),bP l rs[i] ps[i]=false->bF t rs l ps=(aY,1):=fun i h1 h2 hf=>by
    unfold bF;rw [if_neg (fun h=>h h0),if_neg (fun h=>h hne),if_pos (yX (f:=fun x=>bP l x.1 x.2) h1 h2 hf)]
   have hcf:(∀ i (h1:i < rs.length) (h2:i < ps.length),bP l rs[i] ps[i]=true)->∀ i (h1:i < rs.length) (h2:i < ps.length),dJ t l rs[i] ps[i]=false->bF t rs l ps=(aY,22):=fun hw i h1 h2 hf=>by
    unfold bF;rw [if_neg (fun h=>h h0),if_neg (fun h=>h hne),if_neg (by rw [List.all_eq_true.2 (mP (f:=fun x=>bP l x.1 x.2) hne hw)];decide),if_pos (yX (f:=fun x=>dJ t l x.1 x.2) h1 h2 hf)]
   have hvo:(∀ i (h1:i < rs.length) (h2:i < ps.length),bP l rs[i] ps[i]=true)->(∀ i (h1:i < rs.length) (h2:i < ps.length),dJ t l rs[i] ps[i]=true)->bF t rs l ps=(rQ (eQ t l rs ps),0):=fun hw hc =>
    AC h0 hne (mP (f:=fun x=>bP l x.1 x.2) hne hw) (mP (f:=fun x=>dJ t l x.1 x.2) hne hc)
   rw [h0] at hck;refine aB [(0,.slice a rs.length c),(1,.slice b l.length d),(2,.slice pa ps.length pc),(3,.bool t)] Tryz.func12 Tryz.ntmps12 ?_;repeat' first|(refine gp ?_;and_intros<;>first|exact trivial|repeat first|intro(Bk:Nat)|intro h)|(apply G.cV (g:=44);rfl;rfl;exact fun w' hw=>hck w' hw.below)
   obtain ⟨B8,rfl⟩:∃ x,x=Bk:=⟨_,rfl⟩;refine J.loop (c:=_) (0:Nat) (fun x=>rs.length-x) (fun x=>[(0,.slice a rs.length c),(1,.slice b l.length d),(2,.slice pa ps.length pc),(3,.bool t),(8,.pointer (some ⟨B8,0,none⟩)),(10,.int .i64 x)]) (fun x=>[.blk B8 43 [.bool false,.string (bs []),.string (bs []),.int .i64 0] 4]) (fun x=>x<=rs.length/\∀ i (h1:i < rs.length) (h2:i < ps.length),i < x->bP l rs[i] ps[i]=true) ?_ sbT sbL ?_
   ·exact ⟨Nat.zero_le _,fun i _ _ h=>absurd h (Nat.not_lt_zero _)⟩
   intro k ⟨hkn,hwk⟩ ihk;by_cases hkk:k < rs.length
   ·obtain ⟨ba,oa,rfl,hra⟩:=aE.all hA.1 om
    obtain ⟨bp,op,rfl,hrp⟩:=aE.all hP.1 om;have hrk:=hra k hkk;have hpk:=hrp k om;have hm:=gM (show k < ps.length by omega)
    have hPk:=hP.2 _ hm;obtain ⟨hfk,hl1,hl2⟩:=hfp _ hm;have hvs:=fun w' (hb:Below w.heap.size w w')=>vU ps[k].sa ps[k].st ps[k].sc w' (hPk.1.below hb) om hfk.1
    have hvc:=fun w' (hb:Below w.heap.size w w')=>vU ps[k].ca ps[k].cl ps[k].cc w' (hPk.2.below hb) om hfk.2
    have hcl:=hcl k hkk;have hvf:=hvf k hkk om;have ihk:=fun (h:bP l rs[k] (ps[k]'om)=true)=>ihk (k+1) ⟨hkk,fun i h1 h2 h3=>by
     by_cases e:i=k
     ·subst e;exact h
     ·exact hwk i h1 h2 om⟩ om
    clear hra hrp hwk hPk hfk hA hB hM hP hfp hD hcf hvo hm;generalize rs[k]=r at *;generalize ps[k]=p at *;dsimp only [rnV,prV] at hrk hpk;unfold bP at hvf ihk;by_cases h0t:r.tab.length=0
    ·rw [if_pos h0t] at hvf ihk
     by_cases hs:p.st.length+p.cl.length=0
     ·have ihk:=ihk (dT hs)
      rw [show p.st=[] from List.length_eq_zero_iff.1 om] at hvs hpk
      rw [show p.cl=[] from List.length_eq_zero_iff.1 om] at hvc hpk
      clear hvf hs hl1 hl2;dsimp only [List.length_nil,List.all_nil] at hvs hvc hpk;repeat' first|(refine gp ?_;and_intros<;>first|exact trivial|repeat first|intro(Bk:Nat)|intro h)|(refine G.cL (g:=45) (sz:=2) (f:=hoV) (fun v=>.agg #[v,.int .i64 0]) (aD r l) rfl rfl (fun w' hw=>(hcl w' hw.below).mono fun e w2 hh=>?_) ?_;exact hh;intro ka kc hp1 hp2;clear hp2)|(apply G.cV (g:=46) (d:=108);rfl;rfl;exact fun w' hw=>hvs w' hw.below)|(apply G.cV (g:=46) (d:=114);rfl;rfl;exact fun w' hw=>hvc w' hw.below)
      exact J.P1 ihk
     ·rw [hvf (dF hs)]
      clear ihk hvf;repeat' first|(refine gp ?_;and_intros<;>first|exact trivial|repeat first|intro(Bk:Nat)|intro h)|(refine G.cL (g:=45) (sz:=2) (f:=hoV) (fun v=>.agg #[v,.int .i64 0]) (aD r l) rfl rfl (fun w' hw=>(hcl w' hw.below).mono fun e w2 hh=>?_) ?_;exact hh;intro ka kc hp1 hp2;clear hp2)|(apply G.cV (g:=46) (d:=108);rfl;rfl;exact fun w' hw=>hvs w' hw.below)|(apply G.cV (g:=46) (d:=114);rfl;rfl;exact fun w' hw=>hvc w' hw.below)
      all_goals exact aA Tryz.func12 Tryz.results12 rfl
    ·rw [if_neg h0t] at hvf ihk
     by_cases hs:p.st.length=r.tab.length
     ·by_cases hc2:p.cl.length=(aD r l).length
      ·rw [dT hs,dT hc2,Bool.true_and,Bool.true_and] at hvf ihk
       generalize (p.st.all fun a=>decide (aP a))=b1 at *
       generalize (p.cl.all fun a=>decide (aP a))=b2 at *
       cases b1
       ·rw [hvf rfl]
        clear ihk hvf;cases b2;all_goals
         repeat' first|(refine gp ?_;and_intros<;>first|exact trivial|repeat first|intro(Bk:Nat)|intro h)|(refine G.cL (g:=45) (sz:=2) (f:=hoV) (fun v=>.agg #[v,.int .i64 0]) (aD r l) rfl rfl (fun w' hw=>(hcl w' hw.below).mono fun e w2 hh=>?_) ?_;exact hh;intro ka kc hp1 hp2;clear hp2)|(apply G.cV (g:=46) (d:=108);rfl;rfl;exact fun w' hw=>hvs w' hw.below)|(apply G.cV (g:=46) (d:=114);rfl;rfl;exact fun w' hw=>hvc w' hw.below)
         all_goals exact aA Tryz.func12 Tryz.results12 rfl
       ·cases b2
        ·rw [hvf rfl]
         clear ihk hvf;repeat' first|(refine gp ?_;and_intros<;>first|exact trivial|repeat first|intro(Bk:Nat)|intro h)|(refine G.cL (g:=45) (sz:=2) (f:=hoV) (fun v=>.agg #[v,.int .i64 0]) (aD r l) rfl rfl (fun w' hw=>(hcl w' hw.below).mono fun e w2 hh=>?_) ?_;exact hh;intro ka kc hp1 hp2;clear hp2)|(apply G.cV (g:=46) (d:=108);rfl;rfl;exact fun w' hw=>hvs w' hw.below)|(apply G.cV (g:=46) (d:=114);rfl;rfl;exact fun w' hw=>hvc w' hw.below)
         all_goals exact aA Tryz.func12 Tryz.results12 rfl
        ·have ihk:=ihk rfl
         clear hvf;repeat' first|(refine gp ?_;and_intros<;>first|exact trivial|repeat first|intro(Bk:Nat)|intro h)|(refine G.cL (g:=45) (sz:=2) (f:=hoV) (fun v=>.agg #[v,.int .i64 0]) (aD r l) rfl rfl (fun w' hw=>(hcl w' hw.below).mono fun e w2 hh=>?_) ?_;exact hh;intro ka kc hp1 hp2;clear hp2)|(apply G.cV (g:=46) (d:=108);rfl;rfl;exact fun w' hw=>hvs w' hw.below)|(apply G.cV (g:=46) (d:=114);rfl;rfl;exact fun w' hw=>hvc w' hw.below)
         exact J.P1 ihk
      ·rw [hvf (by rw [dF hc2,Bool.and_false];rfl)]
       clear ihk hvf;repeat' first|(refine gp ?_;and_intros<;>first|exact trivial|repeat first|intro(Bk:Nat)|intro h)|(refine G.cL (g:=45) (sz:=2) (f:=hoV) (fun v=>.agg #[v,.int .i64 0]) (aD r l) rfl rfl (fun w' hw=>(hcl w' hw.below).mono fun e w2 hh=>?_) ?_;exact hh;intro ka kc hp1 hp2;clear hp2)|(apply G.cV (g:=46) (d:=108);rfl;rfl;exact fun w' hw=>hvs w' hw.below)|(apply G.cV (g:=46) (d:=114);rfl;rfl;exact fun w' hw=>hvc w' hw.below)
       all_goals exact aA Tryz.func12 Tryz.results12 rfl
     ·rw [hvf (by rw [dF hs];rfl)]
      clear ihk hvf;repeat' first|(refine gp ?_;and_intros<;>first|exact trivial|repeat first|intro(Bk:Nat)|intro h)|(refine G.cL (g:=45) (sz:=2) (f:=hoV) (fun v=>.agg #[v,.int .i64 0]) (aD r l) rfl rfl (fun w' hw=>(hcl w' hw.below).mono fun e w2 hh=>?_) ?_;exact hh;intro ka kc hp1 hp2;clear hp2)|(apply G.cV (g:=46) (d:=108);rfl;rfl;exact fun w' hw=>hvs w' hw.below)|(apply G.cV (g:=46) (d:=114);rfl;rfl;exact fun w' hw=>hvc w' hw.below)
      all_goals exact aA Tryz.func12 Tryz.results12 rfl
   ·obtain rfl:k=rs.length:=by omega
    clear ihk;have hwk:=fun i h1 h2=>hwk i h1 h2 h1
    obtain ⟨hDK,hDR⟩:=hD h0 hne (mP (f:=fun x=>bP l x.1 x.2) hne hwk)
    have hcf:=hcf hwk;have hvo:=hvo hwk;have htk:=qT (fB h0).1;clear hvf hD;all_goals (refine go ?_;and_intros<;>first|exact trivial|repeat first|intro(Bk:Nat)|intro h)
    obtain ⟨B14,rfl⟩:∃ x,x=Bk:=⟨_,rfl⟩;refine J.loop (c:=_) ((0,0):Nat×Rat) (fun x=>rs.length-x.1) (fun x=>[(0,.slice a rs.length c),(1,.slice b l.length d),(2,.slice pa ps.length pc),(3,.bool t),(8,.pointer (some ⟨B8,0,none⟩)),(14,.pointer (some ⟨B14,0,none⟩)),(15,.int .i64 x.1)]) (fun x=>[.blk B14 25 (qW x.2) 3,.blk B8 43 [.bool false,.string (bs []),.string (bs []),.int .i64 0] 4]) (fun x=>x.1<=rs.length/\x.2=eQ t l (rs.take x.1) (ps.take x.1)/\bD D B (2*fC (rs.take x.1)) x.2/\∀ i (h1:i < rs.length) (h2:i < ps.length),i < x.1->dJ t l rs[i] ps[i]=true) ?_ sbT sbL ?_
    ·exact ⟨Nat.zero_le _,rfl,bD.zero D B,fun i _ _ h=>absurd h (Nat.not_lt_zero _)⟩
    intro ⟨k,s⟩ ⟨hkn,hsv,hso,hcw⟩ ihk;dsimp only at hkn hsv hso hcw ⊢;by_cases hkk:k < rs.length
    ·have hkp:k < ps.length:=by omega
     obtain ⟨ba,oa,rfl,hra⟩:=aE.all hA.1 om;obtain ⟨bp,op,rfl,hrp⟩:=aE.all hP.1 om;have hrk:=hra k hkk;have hpk:=hrp k hkp;have hm:=gM hkp;have hmr:=gM hkk;have hPk:=hP.2 _ hm;have hTk:=hA.2 _ hmr;have hr:=hok _ hmr;have hdr:=hDR (rs[k],ps[k]) (List.mem_iff_getElem.2 ⟨k,by rw [List.length_zip];omega,List.getElem_zip⟩)
     dsimp only at hdr;have hvr:=DD hr hio hdr;have hwl:=hwk k hkk hkp;have hcl:=hcl k hkk;have hcf:=hcf k hkk hkp;have hnc:=hM.cls h0 _ hmr;have htl0:=hM.tab _ hmr;have htk1:=Bj rs (k+1);have htke:fC (rs.take (k+1))=fC (rs.take k)+(rs[k].to_-rs[k].from_).toNat:=by rw [sB hkk,sE,fC,fC,Nat.add_zero]
     have ihk:=fun (h:dJ t l rs[k] (ps[k]'hkp)=true)=>ihk (k+1,s+kC t l rs[k] (ps[k]'hkp)) ⟨hkk,by dsimp only;rw [C6 hne hkk,hsv],by dsimp only;rw [htke];exact (hso.add hvr).le om,fun i h1 h2 h3=>by
      by_cases e:i=k
      ·subst e;exact h
      ·exact hcw i h1 h2 (by dsimp only at h3;omega)⟩ (by dsimp only;omega)
     dsimp only at ihk;have hf:=hM.few;clear hra hrp hP hfp hvo hm hmr hDR hok hwk hcw hsv hA hM;generalize rs[k]=r at *;generalize ps[k]=p at *;generalize fC (rs.take k)=tk at *;rw [htke] at htk1;clear htke;have hrg:=hr.rng;have hcn0:=iB hio hrg.2.1;have hTc:∀ c,c < (aD r l).length->0 < aT r l c:=fun c hc=>vD _ (List.mem_of_getElem? (iH hc))
     have hTs:iS (aT r l) (aD r l).length=r.to_-r.from_:=by rw [mN,kB hio hrg.2.1]
     have hTb:∀ c,c < (aD r l).length->0 < aT r l c/\aT r l c<=1402560:=fun c hc=>⟨hTc c hc,by
      have h1:=fZ (f:=aT r l) (n:=(aD r l).length) (fun i hi=>Int.le_of_lt (hTc i hi)) c hc
      rw [hTs] at h1;omega⟩
     dsimp only [rnV,prV] at hrk hpk;by_cases h0t:r.tab.length=0
     ·have hgp:=hr.gap h0t
      have hgv:=fun ka kc w' (hb:Below w.heap.size w w') hK=>GA t r b l d ka kc w' (hB.below hb) hf hR hK om hTb ⟨hgp.1,by omega⟩ ⟨by omega,hgp.2.2⟩
      have hvg:kC t l r p=sL t l r:=by unfold kC;rw [if_pos h0t]
      have ihk:=ihk (by unfold dJ;rw [dT h0t,Bool.true_or])
      rw [hvg] at ihk hvr;have had:=Fe (hDK.big hso om) (hDK.big hvr om);clear hvg hvr hso hDK hdr hcf hwl hf hB;unfold rnA at hgv;dsimp only [qW,qV] at ihk ⊢;generalize rQ (s+sL t l r)=q3 at *;generalize rQ (sL t l r)=q2 at *;generalize rQ s=q1 at *;obtain ⟨n1,u1,d1⟩:=q1;obtain ⟨n2,u2,d2⟩:=q2;obtain ⟨n3,u3,d3⟩:=q3;dsimp only [qA] at hgv had ihk ⊢;repeat' first|(refine gp ?_;and_intros<;>first|exact trivial|repeat first|intro(Bk:Nat)|intro h)|(refine G.cL (g:=45) (sz:=2) (f:=hoV) (fun v=>.agg #[v,.int .i64 0]) (aD r l) rfl rfl (fun w' hw=>(hcl w' hw.below).mono fun e w2 hh=>?_) ?_;exact hh;intro ka kc hp1 hp2;clear hp2;obtain ⟨kb,ko,rfl⟩:=hp1 hcn0)|(apply G.cV (g:=48);rfl;rfl;exact fun w' hw'=>hgv _ _ w' hw'.below (hw'.sl (by exact mm)))|(apply G.cV (g:=47);rfl;rfl;exact fun w' _=>had w')
      exact J.P1 ihk
     ·obtain ⟨hw1,hw2,hw3,hw4⟩:=(nT h0t).1 hwl
      have htb:=hr.tab h0t;have hts:∀ s,s < r.tab.length->0<=tbS r s/\tbS r s<=1000:=fun s hs=>htb.2.2.2 _ (eZ hs)
      have htT:∀ s,s < r.tab.length->0<=tbT r s:=fun s hs=>by have:=htb.2.1 _ (eZ hs);dsimp only at this;omega
      have htT2:∀ s,s < r.tab.length->tbT r s<=1402560:=fun s hs=>by
       have h1:=fZ (f:=tbT r) (n:=r.tab.length) (fun i hi=>htT i hi) s hs
       rw [kY,htb.2.2.1] at h1;omega
      have htS:iS (tbT r) r.tab.length=r.to_-r.from_:=by rw [kY,htb.2.2.1]
      have htl:r.tab.length<=64:=htl0;have hhd:=fun ka kc w' (hb:Below w.heap.size w w') hK=>DX t r p b l d ka kc w' (hB.below hb) hf hR hK (hTk.below hb) (hPk.below hb) hwl hdr.f om h0t om hts
      have hvg:kC t l r p=rS' (fun i=>(tbT r i:Rat)*uP p i) r.tab.length+rS' (fun i=>(aT r l i:Rat)*vP p i) (aD r l).length:=by unfold kC;rw [if_neg h0t];rfl
      have hdu:=hdr.u h0t;have hdv:=hdr.v h0t;unfold rnA prA at hhd;obtain ⟨bt,ot,hadr,hrT⟩:=aE.all hTk om;obtain ⟨sb,so,hsa,hrS⟩:=aE.all hPk.1 om;obtain ⟨cb,co,hca,hrC⟩:=aE.all hPk.2 om;have hrT2:∀ s,s < r.tab.length->bG w bt (ot+s*2) [.int .i64 (tbS r s),.int .i64 (tbT r s)]:=fun s h=>by
       have h1:=hrT s h;rw [show r.tab[s]=(tbS r s,tbT r s) from by rw [tbS,tbT,gD,gE h];rfl] at h1
       exact h1
      have hrS2:∀ s,s < p.st.length->bG w sb (so+s*3) (qV (rQ (uP p s))):=fun s h=>by
       have h1:=hrS s h;rw [EX h hw3] at h1;exact h1
      have hrC2:∀ s,s < p.cl.length->bG w cb (co+s*3) (qV (rQ (vP p s))):=fun s h=>by
       have h1:=hrC s h;rw [EY h hw4] at h1;exact h1
      rw [hadr] at hrk hhd;rw [hsa] at hpk hhd;rw [hca] at hpk hhd;clear hB hf hTk hPk hwl hdr hvr hrT hrS hrC hw3 hw4 hts htb;cases hcb:dJ t l r p with
      | false =>
       rw [hcf hcb];rw [hcb] at hhd;clear ihk hso hDK;dsimp only [qW,qV];generalize rQ s=q1;obtain ⟨n1,u1,d1⟩:=q1;repeat' first|(refine gp ?_;and_intros<;>first|exact trivial|repeat first|intro(Bk:Nat)|intro h)|(refine G.cL (g:=45) (sz:=2) (f:=hoV) (fun v=>.agg #[v,.int .i64 0]) (aD r l) rfl rfl (fun w' hw=>(hcl w' hw.below).mono fun e w2 hh=>?_) ?_;exact hh;intro ka kc hp1 hp2;clear hp2;obtain ⟨kb,ko,rfl⟩:=hp1 hcn0)|(apply G.cV (g:=49);rfl;rfl;exact fun w' hw'=>hhd _ _ w' hw'.below (hw'.sl (by exact mm)))
       all_goals exact aA Tryz.func12 Tryz.results12 rfl
      | true =>
       have ihk:=ihk hcb;rw [hcb] at hhd;rw [hvg] at ihk;clear hcf hvg hcb;repeat' first|(refine gp ?_;and_intros<;>first|exact trivial|repeat first|intro(Bk:Nat)|intro h)|(refine G.cL (g:=45) (sz:=2) (f:=hoV) (fun v=>.agg #[v,.int .i64 0]) (aD r l) rfl rfl (fun w' hw=>(hcl w' hw.below).mono fun e w2 hh=>?_) ?_;exact hh;intro ka kc hp1 hp2;clear hp2;obtain ⟨kb,ko,rfl⟩:=hp1 hcn0)|(apply G.cV (g:=49);rfl;rfl;exact fun w' hw'=>hhd _ _ w' hw'.below (hw'.sl (by exact mm)))
       obtain ⟨B16,rfl⟩:∃ x,x=Bk:=⟨_,rfl⟩;refine J.loop (c:=_) ((0,s):Nat×Rat) (fun x=>r.tab.length-x.1) (fun x=>[(0,.slice (some ⟨ba,oa,none⟩) rs.length c),(1,.slice b l.length d),(2,.slice (some ⟨bp,op,none⟩) ps.length pc),(3,.bool t),(8,.pointer (some ⟨B8,0,none⟩)),(14,.pointer (some ⟨B14,0,none⟩)),(15,.int .i64 k),(16,.pointer (some ⟨B16,0,none⟩)),(17,.slice (some ⟨kb,ko,none⟩) (aD r l).length kc),(19,.int .i64 x.1)]) (fun x=>[aL w.heap.size (some ⟨kb,ko,none⟩) 2 ((aD r l).map hoV),.blk B16 67 [.int .i64 r.from_,.int .i64 r.to_,.slice (some ⟨bt,ot,none⟩) r.tab.length r.cap,.int .i64 r.lo,.int .i64 r.hi] 5,.blk B14 25 (qW x.2) 3,.blk B8 43 [.bool false,.string (bs []),.string (bs []),.int .i64 0] 4]) (fun x=>x.1<=r.tab.length/\x.2=s+rS' (fun i=>(tbT r i:Rat)*uP p i) x.1/\bD D B (2*tk+(iS (tbT r) x.1).toNat) x.2) ?_ sbT sbL ?_
       ·exact ⟨Nat.zero_le _,(Rat.add_zero s).symm,hso⟩
       intro ⟨u,s2⟩ ⟨hun,hs2,hso2⟩ ihu;dsimp only at hun hs2 hso2 ⊢;by_cases huu:u < r.tab.length
       ·have hrt:=hrT2 u huu
        have hrs:=hrS2 u om;have hT0:=htT u huu;have hT2:=htT2 u huu;have hnn:=qI (f:=tbT r) (n:=u) fun i hi=>htT i om
        have hle:iS (tbT r) (u+1)<=r.to_-r.from_:=by
         rw [<- htS];exact wW htT huu
        have hok1:=Bg (hdu u huu) hT0;have hok2:=hso2.add hok1;have hst:iS (tbT r) (u+1)=iS (tbT r) u+tbT r u:=rfl;have hto:(iS (tbT r) (u+1)).toNat=(iS (tbT r) u).toNat+(tbT r u).toNat:=by rw [hst,Int.toNat_add hnn hT0]
        have htm:=tX (n:=tbT r u) (x:=uP p u) om om (hDK.big (hdu u huu) dc);have had:=Fe (hDK.big hso2 om) (hDK.big hok1 om);have ihu:=ihu (u+1,s2+(tbT r u:Rat)*uP p u) ⟨huu,by dsimp only;rw [hs2,rS',Rat.add_assoc],by dsimp only;rw [hto];exact hok2.le om⟩ (by dsimp only;omega)
        dsimp only at ihu;clear ihk hok1 hok2 hso2 hs2 hdu hdv hrT2 hrS2 hrC2 htT htT2 hhd;dsimp only [qW,qV] at hrs ihu ⊢;generalize rQ (s2+(tbT r u:Rat)*uP p u)=q1 at *;generalize rQ ((tbT r u:Rat)*uP p u)=q2 at *;generalize rQ s2=q3 at *;generalize rQ (uP p u)=q4 at *;obtain ⟨n1,u1,d1⟩:=q1;obtain ⟨n2,u2,d2⟩:=q2;obtain ⟨n3,u3,d3⟩:=q3;obtain ⟨n4,u4,d4⟩:=q4;dsimp only [qA] at htm had hrs ihu ⊢;repeat' first|(refine gp ?_;and_intros<;>first|exact trivial|repeat first|intro(Bk:Nat)|intro h)|(apply G.cV (g:=50);rfl;rfl;exact fun w' _=>htm w')|(apply G.cV (g:=47);rfl;rfl;exact fun w' _=>had w')
        exact J.P1 ihu
       ·obtain rfl:u=r.tab.length:=by omega
        clear ihu;rw [htS] at hso2;rw [<- Rat.add_assoc,<- hs2] at ihk;all_goals (refine go ?_;and_intros<;>first|exact trivial|repeat first|intro(Bk:Nat)|intro h)
        refine J.loop (c:=_) ((0,s2):Nat×Rat) (fun x=>(aD r l).length-x.1) (fun x=>[(0,.slice (some ⟨ba,oa,none⟩) rs.length c),(1,.slice b l.length d),(2,.slice (some ⟨bp,op,none⟩) ps.length pc),(3,.bool t),(8,.pointer (some ⟨B8,0,none⟩)),(14,.pointer (some ⟨B14,0,none⟩)),(15,.int .i64 k),(17,.slice (some ⟨kb,ko,none⟩) (aD r l).length kc),(20,.int .i64 x.1)]) (fun x=>[aL w.heap.size (some ⟨kb,ko,none⟩) 2 ((aD r l).map hoV),.blk B14 25 (qW x.2) 3,.blk B8 43 [.bool false,.string (bs []),.string (bs []),.int .i64 0] 4]) (fun x=>x.1<=(aD r l).length/\x.2=s2+rS' (fun i=>(aT r l i:Rat)*vP p i) x.1/\bD D B (2*tk+(r.to_-r.from_).toNat+(iS (aT r l) x.1).toNat) x.2) ?_ sbT sbL ?_
        ·exact ⟨Nat.zero_le _,(Rat.add_zero s2).symm,hso2⟩
        clear hs2 hso2;intro ⟨v,s3⟩ ⟨hvn,hs3,hso3⟩ ihv;dsimp only at hvn hs3 hso3 ⊢;by_cases hvv:v < (aD r l).length
        ·have hrs:=hrC2 v om
         have hT0:=Int.le_of_lt (hTc v hvv);have hT2:=(hTb v hvv).2;have hnn:=qI (f:=aT r l) (n:=v) fun i hi=>Int.le_of_lt (hTc i om)
         have hle:iS (aT r l) (v+1)<=r.to_-r.from_:=by
          rw [<- hTs];exact wW (fun i hi=>Int.le_of_lt (hTc i hi)) hvv
         have hok1:=Bg (hdv v hvv) hT0;have hok2:=hso3.add hok1;have hst:iS (aT r l) (v+1)=iS (aT r l) v+aT r l v:=rfl;have hto:(iS (aT r l) (v+1)).toNat=(iS (aT r l) v).toNat+(aT r l v).toNat:=by rw [hst,Int.toNat_add hnn hT0]
         have htm:=tX (n:=aT r l v) (x:=vP p v) om om (hDK.big (hdv v hvv) dc);have had:=Fe (hDK.big hso3 om) (hDK.big hok1 om);have ihv:=ihv (v+1,s3+(aT r l v:Rat)*vP p v) ⟨hvv,by dsimp only;rw [hs3,rS',Rat.add_assoc],by dsimp only;rw [hto];exact hok2.le om⟩ (by dsimp only;omega)
         dsimp only at ihv;clear ihk hok1 hok2 hso3 hs3 hdu hdv hrT2 hrS2 hrC2 htT htT2 hhd;dsimp only [qW,qV] at hrs ihv ⊢;generalize rQ (s3+(aT r l v:Rat)*vP p v)=q1 at *;generalize rQ ((aT r l v:Rat)*vP p v)=q2 at *;generalize rQ s3=q3 at *;generalize rQ (vP p v)=q4 at *;obtain ⟨n1,u1,d1⟩:=q1;obtain ⟨n2,u2,d2⟩:=q2;obtain ⟨n3,u3,d3⟩:=q3;obtain ⟨n4,u4,d4⟩:=q4;dsimp only [qA] at htm had hrs ihv ⊢;repeat' first|(refine gp ?_;and_intros<;>first|exact trivial|repeat first|intro(Bk:Nat)|intro h)|(apply G.cV (g:=50);rfl;rfl;exact fun w' _=>htm w')|(apply G.cV (g:=47);rfl;rfl;exact fun w' _=>had w')|(apply G.ld;rfl;(apply LdV.one;exact aC.QY (r:=r) (l:=l) (N:=w.heap.size) (b:=kb) (off:=ko) (c:=v) mm hvv);rfl)
         exact J.P1 ihv
        ·obtain rfl:v=(aD r l).length:=by omega
         rw [<- hs3] at ihk;clear ihv;all_goals (refine go ?_;and_intros<;>first|exact trivial|repeat first|intro(Bk:Nat)|intro h)
         exact J.P1 ihk
    ·obtain rfl:k=rs.length:=by omega
     rw [List.take_length,List.take_of_length_le om] at hsv;rw [hvo fun i h1 h2=>hcw i h1 h2 h1,<- hsv]
     clear ihk hvo hcf hcw hsv hso;dsimp only [qW,qV,nE];generalize rQ s=q1;obtain ⟨n1,u1,d1⟩:=q1;all_goals (refine go ?_;and_intros<;>first|exact trivial|repeat first|intro(Bk:Nat)|intro h)
     all_goals exact aA Tryz.func12 Tryz.results12 rfl
  ·have e:bF t rs l ps=(aY,1):=by
    unfold bF;rw [if_neg (fun h=>h h0),if_pos hne]
   rw [e];rw [h0] at hck;clear hA hB hM hP hfp hD e;refine aB [(0,.slice a rs.length c),(1,.slice b l.length d),(2,.slice pa ps.length pc),(3,.bool t)] Tryz.func12 Tryz.ntmps12 ?_;repeat' first|(refine gp ?_;and_intros<;>first|exact trivial|repeat first|intro(Bk:Nat)|intro h)|(apply G.cV (g:=44);rfl;rfl;exact fun w' hw=>hck w' hw.below)
   all_goals exact aA Tryz.func12 Tryz.results12 rfl
 ·have e:bF t rs l ps=(aY,cU rs l):=by
   unfold bF;rw [if_pos h0]
  rw [e];clear hA hB hM hP hfp hD e;generalize cU rs l=E at *;refine aB [(0,.slice a rs.length c),(1,.slice b l.length d),(2,.slice pa ps.length pc),(3,.bool t)] Tryz.func12 Tryz.ntmps12 ?_;repeat' first|(refine gp ?_;and_intros<;>first|exact trivial|repeat first|intro(Bk:Nat)|intro h)|(apply G.cV (g:=44);rfl;rfl;exact fun w' hw=>hck w' hw.below)
  all_goals exact aA Tryz.func12 Tryz.results12 rfl
set_option maxHeartbeats 8000000 in
theorem BP (a:Option Addr) (rs:List Rn) (c:Nat) (b:Option Addr) (l:List Spn) (d:Nat) (s:Shp) (m:ShM) (w:World)
  (hv1:∀ w',Below w.heap.size w w'->CR 12 #[.slice a rs.length c,.slice b l.length d,.slice m.pa s.lp.length m.pc,.bool false] w' (nE (bF false rs l s.lp)))
  (hv2:∀ w',Below w.heap.size w w'->CR 12 #[.slice a rs.length c,.slice b l.length d,.slice m.qa s.hp.length m.qc,.bool true] w' (nE (bF true rs l s.hp)))
  (hf1:aH 60000000 (bF false rs l s.lp).1) (hf2:aH 60000000 (bF true rs l s.hp).1) (hf3:aH 60000000 s.lo) (hf4:aH 60000000 s.hi) (hf5:aH 60000000 (rQ (qR s.lo))) (hf6:aH 60000000 (rQ (qR s.hi))) :
  CR 14 #[.slice a rs.length c,.slice b l.length d,shA s m] w (.bool (lV rs l s)):=by
 have hc1:=fun w'=>oD (bF false rs l s.lp).1 s.lo w' (by have:=hf1.1;omega) (by have:=hf1.2;omega) (by have:=hf3.1;omega) (by have:=hf3.2;omega) (by have:=hf5.1;omega) (by have:=hf5.2;omega)
 have hc2:=fun w'=>oD (bF true rs l s.hp).1 s.hi w' (by have:=hf2.1;omega) (by have:=hf2.2;omega) (by have:=hf4.1;omega) (by have:=hf4.2;omega) (by have:=hf6.1;omega) (by have:=hf6.2;omega)
 unfold lV shA;obtain ⟨lo,hi,lf,ls,hf,hs,lp,hp⟩:=s;obtain ⟨la,lc,ha,hc,pa,pc,qa,qc⟩:=m;dsimp only at *;clear hf1 hf2 hf3 hf4 hf5 hf6;generalize dR (qR (bF false rs l lp).1-qR lo)=g1 at *;generalize dR (qR (bF true rs l hp).1-qR hi)=g2 at *;generalize bF false rs l lp=x1 at *;generalize bF true rs l hp=x2 at *;generalize ls.length=ll at *;generalize hs.length=hl at *;generalize lp.length=pl at *;generalize hp.length=ql at *;obtain ⟨⟨u3,n3,d3⟩,e1⟩:=x1;obtain ⟨⟨u4,n4,d4⟩,e2⟩:=x2;obtain ⟨u1,n1,d1⟩:=lo;obtain ⟨u2,n2,d2⟩:=hi;dsimp only [qA,nE] at hv1 hv2 hc1 hc2 ⊢;by_cases h1:e1=0;all_goals by_cases h2:e2=0
 all_goals by_cases h3:0<=g1
 all_goals by_cases h4:g2<=0
 all_goals
  refine aB [(0,.slice a rs.length c),(1,.slice b l.length d),(2,.agg #[.bool u1,.string (bs n1),.string (bs d1),.bool u2,.string (bs n2),.string (bs d2),.int .i64 lf,.slice la ll lc,.int .i64 hf,.slice ha hl hc,.slice pa pl pc,.slice qa ql qc])] Tryz.func14 Tryz.ntmps14 ?_;repeat' first|(refine gp ?_;and_intros<;>first|exact trivial|repeat first|intro(Bk:Nat)|intro h)|(apply G.cV (g:=12) (d:=13);rfl;rfl;exact fun w' hw=>hv1 w' hw.below)|(apply G.cV (g:=12) (d:=18);rfl;rfl;exact fun w' hw=>hv2 w' hw.below)|(apply G.cV (g:=51) (d:=32);rfl;rfl;exact fun w' _=>hc1 w')|(apply G.cV (g:=51) (d:=40);rfl;rfl;exact fun w' _=>hc2 w')
  all_goals refine aA Tryz.func14 Tryz.results14 ?_
  all_goals exact bL (by simp [h1,h2,h3,h4])
set_option maxHeartbeats 8000000 in
theorem BQ (a:Option Addr) (rs:List Rn) (c:Nat) (b:Option Addr) (l:List Spn) (d:Nat) (s:Shp) (m:ShM) (w:World)
  (h1:∀ w',Below w.heap.size w w'->CR 14 #[.slice a rs.length c,.slice b l.length d,shA s m] w' (.bool (lV rs l s)))
  (h2:∀ w',Below w.heap.size w w'->CR 16 #[.slice a rs.length c,.slice b l.length d,shA s m] w' (.bool (sN rs l s))) :
  CR 18 #[.slice a rs.length c,.slice b l.length d,shA s m] w (.bool (AL rs l s)):=by
 unfold AL;generalize lV rs l s=g1 at *;generalize sN rs l s=g2 at *;unfold shA at *;obtain ⟨lo,hi,lf,ls,hf,hs,lp,hp⟩:=s;obtain ⟨la,lc,ha,hc,pa,pc,qa,qc⟩:=m;dsimp only at *;generalize ls.length=ll at *;generalize hs.length=hl at *;generalize lp.length=pl at *;generalize hp.length=ql at *;generalize rs.length=n at *;generalize l.length=nl at *;obtain ⟨u1,n1,d1⟩:=lo;obtain ⟨u2,n2,d2⟩:=hi;cases g1;all_goals cases g2
 all_goals
  refine aB [(0,.slice a n c),(1,.slice b nl d),(2,.agg #[.bool u1,.string (bs n1),.string (bs d1),.bool u2,.string (bs n2),.string (bs d2),.int .i64 lf,.slice la ll lc,.int .i64 hf,.slice ha hl hc,.slice pa pl pc,.slice qa ql qc])] Tryz.func18 Tryz.ntmps18 ?_;repeat' first|(refine gp ?_;and_intros<;>first|exact trivial|repeat first|intro(Bk:Nat)|intro h)|(apply G.cV (g:=14);rfl;rfl;exact fun w' hw=>h1 w' hw.below)|(apply G.cV (g:=16);rfl;rfl;exact fun w' hw=>h2 w' hw.below)
  all_goals exact aA Tryz.func18 Tryz.results18 rfl
set_option maxHeartbeats 8000000 in
theorem GC (a:Option Addr) (rs:List Rn) (c:Nat) (b:Option Addr) (l:List Spn) (d:Nat) (s:Shp) (m:ShM) (w:World)
  (hck:∀ w',Below w.heap.size w w'->CR 44 #[.slice a rs.length c,.slice b l.length d] w' (.int .i64 (cU rs l)))
  (ha1:∀ w',Below w.heap.size w w'->CR 52 #[.slice a rs.length c,.agg #[.int .i64 s.lf,.slice m.la s.ls.length m.lc]] w' (.bool (dP rs s.lf s.ls)))
  (ha2:∀ w',Below w.heap.size w w'->CR 52 #[.slice a rs.length c,.agg #[.int .i64 s.hf,.slice m.ha s.hs.length m.hc]] w' (.bool (dP rs s.hf s.hs)))
  (hv1:∀ w',Below w.heap.size w w'->CR 53 #[.agg #[.int .i64 s.lf,.slice m.la s.ls.length m.lc],.slice b l.length d] w' (nE (kI s.lf s.ls l)))
  (hv2:∀ w',Below w.heap.size w w'->CR 53 #[.agg #[.int .i64 s.hf,.slice m.ha s.hs.length m.hc],.slice b l.length d] w' (nE (kI s.hf s.hs l))) :
  CR 16 #[.slice a rs.length c,.slice b l.length d,shA s m] w (.bool (sN rs l s)):=by
 unfold sN shA;obtain ⟨lo,hi,lf,ls,hf,hs,lp,hp⟩:=s;obtain ⟨la,lc,ha,hc,pa,pc,qa,qc⟩:=m;dsimp only at *;generalize cU rs l=E at *;generalize dP rs lf ls=g1 at *;generalize dP rs hf hs=g2 at *;generalize kI lf ls l=x1 at *;generalize kI hf hs l=x2 at *;generalize ls.length=ll at *;generalize hs.length=hl at *;generalize lp.length=pl at *;generalize hp.length=ql at *;generalize rs.length=n at *;generalize l.length=nl at *;obtain ⟨⟨u3,n3,d3⟩,e1⟩:=x1;obtain ⟨⟨u4,n4,d4⟩,e2⟩:=x2;obtain ⟨u1,n1,d1⟩:=lo;obtain ⟨u2,n2,d2⟩:=hi;dsimp only [qA,nE] at hv1 hv2 ⊢;by_cases h0:E=0;all_goals cases g1
 all_goals cases g2
 all_goals by_cases h1:e1=0
 all_goals by_cases h2:e2=0
 all_goals
  refine aB [(0,.slice a n c),(1,.slice b nl d),(2,.agg #[.bool u1,.string (bs n1),.string (bs d1),.bool u2,.string (bs n2),.string (bs d2),.int .i64 lf,.slice la ll lc,.int .i64 hf,.slice ha hl hc,.slice pa pl pc,.slice qa ql qc])] Tryz.func16 Tryz.ntmps16 ?_;repeat' first|(refine gp ?_;and_intros<;>first|exact trivial|repeat first|intro(Bk:Nat)|intro h)|(apply G.cV (g:=44);rfl;rfl;exact fun w' hw=>hck w' hw.below)|(apply G.cV (g:=52) (d:=14);rfl;rfl;exact fun w' hw=>ha1 w' hw.below)|(apply G.cV (g:=52) (d:=18);rfl;rfl;exact fun w' hw=>ha2 w' hw.below)|(apply G.cV (g:=53) (d:=34);rfl;rfl;exact fun w' hw=>hv1 w' hw.below)|(apply G.cV (g:=53) (d:=38);rfl;rfl;exact fun w' hw=>hv2 w' hw.below)|(apply G.PK ⟨u3,n3,d3⟩ ⟨u1,n1,d1⟩ (d:=53);rfl;rfl;rfl;all_goals intro hq1)|(apply G.PK ⟨u4,n4,d4⟩ ⟨u2,n2,d2⟩ (d:=61);rfl;rfl;rfl;all_goals intro hq2)
  all_goals refine aA Tryz.func16 Tryz.results16 ?_
  all_goals exact bL (by simp_all)
def rB (s:Shp):Bool:=decide (gW s.lp) && decide (gW s.hp) && decide (aH 60 s.lo) && decide (aH 60 s.hi) && decide (s.ls.length<=200) && decide (s.hs.length<=200)
set_option maxHeartbeats 8000000 in
theorem Ff (s:Shp) (m:ShM) (w:World) (hP:bK w m.pa s.lp) (hQ:bK w m.qa s.hp) (hz1:∀ p∈s.lp,p.st.length+p.cl.length<=1000000000000) (hz2:∀ p∈s.hp,p.st.length+p.cl.length<=1000000000000) :
  CR 8 #[shA s m] w (.bool (rB s)):=by
 have hs1:=fun w' (hb:Below w.heap.size w w')=>qY m.pa s.lp m.pc w' (hP.below hb) hz1
 have hs2:=fun w' (hb:Below w.heap.size w w')=>qY m.qa s.hp m.qc w' (hQ.below hb) hz2
 have hf1:=fun w'=>qX s.lo 60 w'
 have hf2:=fun w'=>qX s.hi 60 w'
 clear hP hQ hz1 hz2;unfold rB shA;obtain ⟨lo,hi,lf,ls,hf,hs,lp,hp⟩:=s;obtain ⟨la,lc,ha,hc,pa,pc,qa,qc⟩:=m;dsimp only at *;generalize decide (gW lp)=g1 at *;generalize decide (gW hp)=g2 at *;generalize decide (aH 60 lo)=g3 at *;generalize decide (aH 60 hi)=g4 at *;generalize ls.length=ll at *;generalize hs.length=hl at *;generalize lp.length=pl at *;generalize hp.length=ql at *;obtain ⟨u1,n1,d1⟩:=lo;obtain ⟨u2,n2,d2⟩:=hi;dsimp only [qA] at hf1 hf2 ⊢;cases g1;all_goals cases g2
 all_goals cases g3
 all_goals cases g4
 all_goals by_cases h1:ll<=200
 all_goals by_cases h2:hl<=200
 all_goals
  refine aB [(0,.agg #[.bool u1,.string (bs n1),.string (bs d1),.bool u2,.string (bs n2),.string (bs d2),.int .i64 lf,.slice la ll lc,.int .i64 hf,.slice ha hl hc,.slice pa pl pc,.slice qa ql qc])] Tryz.func8 Tryz.ntmps8 ?_;repeat' first|(refine gp ?_;and_intros<;>first|exact trivial|repeat first|intro(Bk:Nat)|intro h)|(apply G.cV (g:=19) (d:=9);rfl;rfl;exact fun w' hw=>hs1 w' hw.below)|(apply G.cV (g:=19) (d:=12);rfl;rfl;exact fun w' hw=>hs2 w' hw.below)|(apply G.cV (g:=30) (d:=16);rfl;rfl;exact fun w' _=>hf1 w')|(apply G.cV (g:=30) (d:=20);rfl;rfl;exact fun w' _=>hf2 w')
  all_goals refine aA Tryz.func8 Tryz.results8 ?_
  all_goals exact bL (by simp [h1,h2])
section
variable {rs:List Rn}{l:List Spn}
theorem M6 {ps:List Prf} (t:Bool) (a:Option Addr) (c:Nat) (b:Option Addr) (d:Nat) (pa:Option Addr) (pc:Nat) (w:World) (hA:aW w a rs) (hB:aN w b l) (hM:Mod rs l) (hP:bK w pa ps) (hs:Smp t rs l ps) :
  CR 12 #[.slice a rs.length c,.slice b l.length d,.slice pa ps.length pc,.bool t] w (nE (bF t rs l ps)):=by
 obtain ⟨D,B,K,h⟩:=hs.den;exact GB t a rs c b l d pa ps pc w hA hB hM hP hs.few D B K h
variable {s:Shp}{m:ShM}
theorem Nc (a:Option Addr) (c:Nat) (b:Option Addr) (d:Nat) (w:World) (hA:aW w a rs) (hB:aN w b l) (hM:Mod rs l) (hS:wY w s m) (hO:IC rs l s) :
  CR 14 #[.slice a rs.length c,.slice b l.length d,shA s m] w (.bool (lV rs l s)) :=
 BP a rs c b l d s m w (fun w' hb=>M6 false a c b d m.pa m.pc w' (hA.below hb) (hB.below hb) hM (hS.p.below hb) hO.p) (fun w' hb=>M6 true a c b d m.qa m.qc w' (hA.below hb) (hB.below hb) hM (hS.q.below hb) hO.q) (sG hO.p) (sG hO.q) hO.lo hO.hi (cQ hO.lo) (cQ hO.hi)
theorem OZ (a:Option Addr) (c:Nat) (b:Option Addr) (d:Nat) (w:World) (hA:aW w a rs) (hB:aN w b l) (hM:Mod rs l) (hS:wY w s m) :
  CR 16 #[.slice a rs.length c,.slice b l.length d,shA s m] w (.bool (sN rs l s)):=by
 have h1:=hS.ll;have h2:=hS.hl;exact GC a rs c b l d s m w (fun w' hb=>tW a rs c b l d w' (hA.below hb) hM.tab (hB.below hb) hM.few) (fun w' hb=>vT a m.la rs s.lf s.ls c m.lc w' (hA.below hb) (hS.l.below hb) hM.tab hS.lc om) (fun w' hb=>vT a m.ha rs s.hf s.hs c m.hc w' (hA.below hb) (hS.h.below hb) hM.tab hS.hc om) (fun w' hb=>vS s.lf m.la b s.ls l m.lc d w' (hS.l.below hb) (hB.below hb) hM.few om) (fun w' hb=>vS s.hf m.ha b s.hs l m.hc d w' (hS.h.below hb) (hB.below hb) hM.few om)
theorem Pn (a:Option Addr) (c:Nat) (b:Option Addr) (d:Nat) (w:World) (hA:aW w a rs) (hB:aN w b l) (hM:Mod rs l) (hS:wY w s m) (hO:IC rs l s) :
  CR 18 #[.slice a rs.length c,.slice b l.length d,shA s m] w (.bool (AL rs l s)) :=
 BQ a rs c b l d s m w (fun w' hb=>Nc a c b d w' (hA.below hb) (hB.below hb) hM (hS.below hb) hO) fun w' hb=>OZ a c b d w' (hA.below hb) (hB.below hb) hM (hS.below hb)
end
theorem rC (a:Option Addr) (rs:List Rn) (c:Nat) (b:Option Addr) (l:List Spn) (d t:Nat) (w:World) (hA:aW w a rs) (hB:aN w b l) :
  CR 9 #[.slice a rs.length c,.slice b l.length d,.int .i64 t] w (.bool (decide (jE 12 t rs) && decide (kH 8 l))):=by
 have h1:=fun w' (hb:Below w.heap.size w w')=>tV a rs c 12 t w' (hA.below hb) dc
 have h2:=fun w' (hb:Below w.heap.size w w')=>wZ b l d 8 w' (hB.below hb)
 clear hA hB;generalize decide (jE 12 t rs)=g1 at *;generalize decide (kH 8 l)=g2 at *;refine aB [(0,.slice a rs.length c),(1,.slice b l.length d),(2,.int .i64 t)] Tryz.func9 Tryz.ntmps9 ?_;cases g1;all_goals cases g2
 all_goals
  repeat' first|(refine gp ?_;and_intros<;>first|exact trivial|repeat first|intro(Bk:Nat)|intro h)|(apply G.cV (g:=31);rfl;rfl;exact fun w' hw=>h1 w' hw.below)|(apply G.cV (g:=32);rfl;rfl;exact fun w' hw=>h2 w' hw.below)
  all_goals exact aA Tryz.func9 Tryz.results9 rfl
end Go.Proofs.YtjcecdmbfmccoaaGreatDoor
/-
 Laws whose reading is of bounded bulk: how such a law is lifted,and how its arguments read with their bulk.
-/
namespace Go.Proofs.YtjcecdmbfmccoaaGreatDoor
open Go Go.RowKit Go.Sl Go.Num Go.ChangeShapes Go.WideShapes
section
variable {H:Type}{enc:TypeId×Value->H}
end
section
variable {P:Program}{T E:TypeId}
variable {A1 A2 A3 A4 A5:Type}{f1:A1->List Value}{f2:A2->List Value}{f3:A3->List Value}{f4:A4->List Value}{f5:A5->List Value}{G1:World->A1->Nat->Prop}{G2:World->A2->Nat->Prop}{G3:World->A3->Nat->Prop}{G4:World->A4->Nat->Prop}{G5:World->A5->Nat->Prop}{d1 d2 d3 d4 d5:Field}{n:Nat}
theorem bB.struct5 (ht:P.underlying T=some (.struct #[d1,d2,d3,d4,d5])) (hn:P.cellsOf T=n) (hT:Go.Sl.xF P #[d1,d2,d3,d4,d5] n=true) (h1:bB P d1.type f1 G1) (h2:bB P d2.type f2 G2) (h3:bB P d3.type f3 G3) (h4:bB P d4.type f4 G4) (h5:bB P d5.type f5 G5) :
  bB P T (fun a:A1×A2×A3×A4×A5=>f1 a.1++(f2 a.2.1++(f3 a.2.2.1++(f4 a.2.2.2.1++f5 a.2.2.2.2)))) (fun w a N=>∃ n1 n2 n3 n4 n5,n1+n2+n3+n4+n5<=N/\G1 w a.1 n1/\G2 w a.2.1 n2/\G3 w a.2.2.1 n3/\G4 w a.2.2.2.1 n4/\G5 w a.2.2.2.2 n5):=.mk fun enc w fuel cs x hx=>by
 obtain ⟨hj,hl,xs,he,hxl,hf⟩:=bB.struct ht hn hT hx;obtain ⟨p1,p2,p3,p4,p5,hp⟩:=Fc hl;obtain ⟨y1,y2,y3,y4,y5,hy⟩:=Fc hxl;subst hy;rw [hp] at hj hf;obtain ⟨_,r1⟩:=hf 0 d1 p1 y1 rfl rfl rfl;obtain ⟨_,r2⟩:=hf 1 d2 p2 y2 rfl rfl rfl;obtain ⟨_,r3⟩:=hf 2 d3 p3 y3 rfl rfl rfl;obtain ⟨_,r4⟩:=hf 3 d4 p4 y4 rfl rfl rfl;obtain ⟨_,r5⟩:=hf 4 d5 p5 y5 rfl rfl rfl;obtain ⟨a1,rfl,g1⟩:=h1.go enc w _ _ _ r1;obtain ⟨a2,rfl,g2⟩:=h2.go enc w _ _ _ r2;obtain ⟨a3,rfl,g3⟩:=h3.go enc w _ _ _ r3;obtain ⟨a4,rfl,g4⟩:=h4.go enc w _ _ _ r4;obtain ⟨a5,rfl,g5⟩:=h5.go enc w _ _ _ r5;refine ⟨(a1,a2,a3,a4,a5),by rw [hj];simp,_,_,_,_,_,?_,g1,g2,g3,g4,g5⟩
 rw [he];simp only [List.map_cons,List.map_nil,Rows.uptoBulk,Rows.uptoBulkAll];omega
end
theorem M7:aK Tryz.prog 27 (fun a:Q3×Q3=>qV a.1++qV a.2) (fun _ _=>True):=(aK.struct2 (n:=6) Tryz.underlying27 (by kernel_rfl) (by kernel_rfl) Ot Ot).turn fun _ a _=>⟨a,rfl,trivial⟩
theorem DS.below {w w':World}{s:Shp}{m:ShM} (h:DS w s m) (hb:Below w.heap.size w w'):DS w' s m:=⟨h.l.below hb,h.lc,h.h.below hb,h.hc,h.p.below hb,h.q.below hb⟩
theorem Ov:bB Tryz.prog 33 (fun a:Shp×ShM=>[.bool a.1.lo.neg,.string (bs a.1.lo.num),.string (bs a.1.lo.den),.bool a.1.hi.neg,.string (bs a.1.hi.num),.string (bs a.1.hi.den),.int .i64 a.1.lf,.slice a.2.la a.1.ls.length a.2.lc,.int .i64 a.1.hf,.slice a.2.ha a.1.hs.length a.2.hc,.slice a.2.pa a.1.lp.length a.2.pc,.slice a.2.qa a.1.hp.length a.2.qc]) (fun w a N=>DS w a.1 a.2/\(∀ p∈a.1.lp,p.st.length+p.cl.length<=N)/\∀ p∈a.1.hp,p.st.length+p.cl.length<=N) :=
 (bB.struct5 (n:=12) Tryz.underlying33 (by kernel_rfl) (by kernel_rfl) (bB.of M7) (bB.of MZ) (bB.of MZ) KQ KQ).turn fun _ a _ ⟨n1,n2,n3,n4,n5,h0,h1,h2,h3,h4,h5⟩=>⟨(⟨a.1.1,a.1.2,a.2.1.1,a.2.1.2.l,a.2.2.1.1,a.2.2.1.2.l,a.2.2.2.1.l,a.2.2.2.2.l⟩,⟨a.2.1.2.ad,a.2.1.2.cap,a.2.2.1.2.ad,a.2.2.1.2.cap,a.2.2.2.1.ad,a.2.2.2.1.cap,a.2.2.2.2.ad,a.2.2.2.2.cap⟩),rfl,⟨h2.1,h2.2,h3.1,h3.2,h4.1,h5.1⟩,fun p hp=>Nat.le_trans (h4.2.2 p hp) om,fun p hp=>Nat.le_trans (h5.2.2 p hp) om⟩
end Go.Proofs.YtjcecdmbfmccoaaGreatDoor
/-
 The law ProofsAreExact.
-/
namespace Go.Proofs.YtjcecdmbfmccoaaGreatDoor
open Go.RowKit Go.Sl Go.Num
section
variable {rs:List Rn}{l:List Spn}{s:Shp}{m:ShM}{w:World}
theorem Lb {t:Nat} (h1:jE 12 t rs) (h2:kH 8 l) (hb:rB s=true) (hS:DS w s m):wY w s m/\IC rs l s:=by
 unfold rB at hb;simp only [Bool.and_eq_true,decide_eq_true_eq] at hb;obtain ⟨⟨⟨⟨⟨b1,b2⟩,b3⟩,b4⟩,b5⟩,b6⟩:=hb;have hM:=sH h1 h2;exact ⟨⟨hS.l,hS.lc,by omega,hS.h,hS.hc,by omega,hS.p,hS.q⟩,⟨fE dc hM b1.shrt,fE dc hM b2.shrt,aF b3 dc,aF b4 dc⟩⟩
theorem xA {n:Nat} (h:¬ (jE 12 n rs/\kH 8 l)):(decide (jE 12 n rs) && decide (kH 8 l))=false:=by
 rw [<- Bool.decide_and];exact dF h
end
attribute [local irreducible] jJ
theorem IL {rs:List Rn}{l:List Spn}{s:Shp}{t:Nat} (h1:jE 12 t rs) (h2:kH 8 l) (hb:rB s=true) (u:Bool):Smp u rs l s.lp/\Smp u rs l s.hp:=by
 unfold rB at hb;simp only [Bool.and_eq_true,decide_eq_true_eq] at hb;obtain ⟨⟨⟨⟨⟨b1,b2⟩,_⟩,_⟩,_⟩,_⟩:=hb;have hM:=sH h1 h2;exact ⟨fE dc hM b1.shrt,fE dc hM b2.shrt⟩
set_option maxHeartbeats 8000000 in
theorem DY (w:World) (a:Option Addr) (rs:List Rn) (c:Nat) (b:Option Addr) (l:List Spn) (d:Nat) (s:Shp) (m:ShM) (hA:aW w a rs) (hB:aN w b l) (hS:DS w s m) (hz1:∀ p∈s.lp,p.st.length+p.cl.length<=1000000000000) (hz2:∀ p∈s.hp,p.st.length+p.cl.length<=1000000000000) :
  CR 3 #[.slice a rs.length c,.slice b l.length d,shA s m] w (.bool true):=by
 have hfw:=fun w' (hb:Below w.heap.size w w')=>rC a rs c b l d 60 w' (hA.below hb) (hB.below hb)
 have hbr:=fun w' (hb:Below w.heap.size w w')=>Ff s m w' (hS.p.below hb) (hS.q.below hb) hz1 hz2
 by_cases hfe:jE 12 60 rs/\kH 8 l
 case neg =>
  rw [xA hfe] at hfw;unfold shA at *;generalize rB s=B at *;clear hfe hA hB hS hz1 hz2;cases B;all_goals
   refine aB [(0,.slice a rs.length c),(1,.slice b l.length d),(2,.agg #[.bool s.lo.neg,.string (bs s.lo.num),.string (bs s.lo.den),.bool s.hi.neg,.string (bs s.hi.num),.string (bs s.hi.den),.int .i64 s.lf,.slice m.la s.ls.length m.lc,.int .i64 s.hf,.slice m.ha s.hs.length m.hc,.slice m.pa s.lp.length m.pc,.slice m.qa s.hp.length m.qc])] Tryz.func3 Tryz.ntmps3 ?_;repeat' first|(refine gp ?_;and_intros<;>first|exact trivial|repeat first|intro(Bk:Nat)|intro h)|(apply G.cV (g:=9);rfl;rfl;exact fun w' hw'=>hfw w' hw'.below)|(apply G.cV (g:=8);rfl;rfl;exact fun w' hw'=>hbr w' hw'.below)|(apply G.cV (g:=10);rfl;rfl;exact fun w' _=>bQ w')|fail
   all_goals exact aA Tryz.func3 Tryz.results3 rfl
 obtain ⟨hf1,hf2⟩:=hfe;rw [dT hf1,dT hf2] at hfw;have hM:=sH hf1 hf2;by_cases hbe:rB s=true
 case neg =>
  rw [Bool.eq_false_iff.2 hbe] at hbr;unfold shA at *;clear hbe hA hB hS hz1 hz2 hM hf1 hf2;refine aB [(0,.slice a rs.length c),(1,.slice b l.length d),(2,.agg #[.bool s.lo.neg,.string (bs s.lo.num),.string (bs s.lo.den),.bool s.hi.neg,.string (bs s.hi.num),.string (bs s.hi.den),.int .i64 s.lf,.slice m.la s.ls.length m.lc,.int .i64 s.hf,.slice m.ha s.hs.length m.hc,.slice m.pa s.lp.length m.pc,.slice m.qa s.hp.length m.qc])] Tryz.func3 Tryz.ntmps3 ?_;repeat' first|(refine gp ?_;and_intros<;>first|exact trivial|repeat first|intro(Bk:Nat)|intro h)|(apply G.cV (g:=9);rfl;rfl;exact fun w' hw'=>hfw w' hw'.below)|(apply G.cV (g:=8);rfl;rfl;exact fun w' hw'=>hbr w' hw'.below)|(apply G.cV (g:=10);rfl;rfl;exact fun w' _=>bQ w')|fail
  all_goals exact aA Tryz.func3 Tryz.results3 rfl
 obtain ⟨hT,hO⟩:=Lb hf1 hf2 hbe hS;have hsm:=IL hf1 hf2 hbe;rw [hbe] at hbr;have hac:=fun w' (hb:Below w.heap.size w w')=>OS a c b d w' (hA.below hb) (hB.below hb) hM (hT.below hb) hO
 have hra:=fun w' (hb:Below w.heap.size w w')=>Pn a c b d w' (hA.below hb) (hB.below hb) hM (hT.below hb) hO
 have hho:=fun w' (hb:Below w.heap.size w w')=>KI a c b d w' (hA.below hb) (hB.below hb) hM (hT.below hb) hO
 have hrh:=fun w' (hb:Below w.heap.size w w')=>Nc a c b d w' (hA.below hb) (hB.below hb) hM (hT.below hb) hO
 have hat:=fun w' (hb:Below w.heap.size w w')=>My a c b d w' (hA.below hb) (hB.below hb) hM (hT.below hb)
 have hrt:=fun w' (hb:Below w.heap.size w w')=>OZ a c b d w' (hA.below hb) (hB.below hb) hM (hT.below hb)
 have hv1:=fun t w' (hb:Below w.heap.size w w')=>DQ t a c b d m.pa m.pc w' (hA.below hb) (hB.below hb) hM (hS.p.below hb) (hsm t).1
 have hr1:=fun t w' (hb:Below w.heap.size w w')=>M6 t a c b d m.pa m.pc w' (hA.below hb) (hB.below hb) hM (hS.p.below hb) (hsm t).1
 have hv2:=fun t w' (hb:Below w.heap.size w w')=>DQ t a c b d m.qa m.qc w' (hA.below hb) (hB.below hb) hM (hS.q.below hb) (hsm t).2
 have hr2:=fun t w' (hb:Below w.heap.size w w')=>M6 t a c b d m.qa m.qc w' (hA.below hb) (hB.below hb) hM (hS.q.below hb) (hsm t).2
 have hall:∀ P,P=.slice m.pa s.lp.length m.pc∨P=.slice m.qa s.hp.length m.qc->∀ t:Bool,∃ V:Q3×Int,(∀ w',Below w.heap.size w w'->CR 11 #[.slice a rs.length c,.slice b l.length d,P,.bool t] w' (.tuple #[qA V.1,.int .i64 V.2]))/\(∀ w',Below w.heap.size w w'->CR 12 #[.slice a rs.length c,.slice b l.length d,P,.bool t] w' (nE V)):=fun P hP t=>by
  rcases hP with rfl|rfl
  ·exact ⟨_,hv1 t,hr1 t⟩
  ·exact ⟨_,hv2 t,hr2 t⟩
 clear hv1 hv2 hr1 hr2 hsm;unfold shA at *;generalize AL rs l s=g1 at *;generalize lV rs l s=g2 at *;generalize sN rs l s=g3 at *;clear hbe hA hB hS hz1 hz2 hM hf1 hf2 hT hO;refine aB [(0,.slice a rs.length c),(1,.slice b l.length d),(2,.agg #[.bool s.lo.neg,.string (bs s.lo.num),.string (bs s.lo.den),.bool s.hi.neg,.string (bs s.hi.num),.string (bs s.hi.den),.int .i64 s.lf,.slice m.la s.ls.length m.lc,.int .i64 s.hf,.slice m.ha s.hs.length m.hc,.slice m.pa s.lp.length m.pc,.slice m.qa s.hp.length m.qc])] Tryz.func3 Tryz.ntmps3 ?_;repeat' first|(refine gp ?_;and_intros<;>first|exact trivial|repeat first|intro(Bk:Nat)|intro h)|(apply G.cV (g:=9);rfl;rfl;exact fun w' hw'=>hfw w' hw'.below)|(apply G.cV (g:=8);rfl;rfl;exact fun w' hw'=>hbr w' hw'.below)|(apply G.Pu;rfl;rfl;rfl;rfl;rfl;rfl;rfl;rfl;intro Bo)|fail
 obtain ⟨B5,rfl⟩:∃ x,x=Bk:=⟨_,rfl⟩;refine J.loop (c:=_) (0:Nat) (fun x=>2-x) (fun x=>[(0,.slice a rs.length c),(1,.slice b l.length d),(5,.pointer (some ⟨B5,0,none⟩)),(30,.slice (some ⟨Bo,0,none⟩) 2 2),(31,.int .i64 2),(32,.int .i64 x)]) (fun x=>.blk Bo 31 [.slice m.pa s.lp.length m.pc,.slice m.qa s.hp.length m.qc] 2::.blk B5 33 [.bool s.lo.neg,.string (bs s.lo.num),.string (bs s.lo.den),.bool s.hi.neg,.string (bs s.hi.num),.string (bs s.hi.den),.int .i64 s.lf,.slice m.la s.ls.length m.lc,.int .i64 s.hf,.slice m.ha s.hs.length m.hc,.slice m.pa s.lp.length m.pc,.slice m.qa s.hp.length m.qc] 12::[]) (fun x=>x<=2) ?_ sbT sbL ?_
 ·exact Nat.zero_le _
 intro i hx ih
 try dsimp only at hx ⊢
 by_cases hx2:i=2
 case neg =>
  obtain ⟨P,hP,hix⟩:∃ P,(P=.slice m.pa s.lp.length m.pc∨P=.slice m.qa s.hp.length m.qc)/\([.slice m.pa s.lp.length m.pc,.slice m.qa s.hp.length m.qc]:List Value)[0+i*1]?=some P:=by
   obtain rfl|rfl:i=0∨i=1:=by omega
   ·exact ⟨_,.inl rfl,rfl⟩
   ·exact ⟨_,.inr rfl,rfl⟩
  have hall:=hall P hP;clear hfw hbr hac hra hho hrh hat hrt hP;repeat' first|(refine gp ?_;and_intros<;>first|exact trivial|repeat first|intro(Bk:Nat)|intro h)|(apply G.Pu;rfl;rfl;rfl;rfl;rfl;rfl;rfl;rfl;intro Bi)|(apply G.ld;rfl;(apply LdV.one;apply aC.blk;exact mm;exact hix);rfl)|fail
  refine J.loop (c:=_) (0:Nat) (fun x=>2-x) (fun x=>[(0,.slice a rs.length c),(1,.slice b l.length d),(5,.pointer (some ⟨B5,0,none⟩)),(9,P),(30,.slice (some ⟨Bo,0,none⟩) 2 2),(31,.int .i64 2),(32,.int .i64 i),(36,.slice (some ⟨Bi,0,none⟩) 2 2),(37,.int .i64 2),(38,.int .i64 x)]) (fun x=>.blk Bi 4 [.bool false,.bool true] 2::.blk Bo 31 [.slice m.pa s.lp.length m.pc,.slice m.qa s.hp.length m.qc] 2::.blk B5 33 [.bool s.lo.neg,.string (bs s.lo.num),.string (bs s.lo.den),.bool s.hi.neg,.string (bs s.hi.num),.string (bs s.hi.den),.int .i64 s.lf,.slice m.la s.ls.length m.lc,.int .i64 s.hf,.slice m.ha s.hs.length m.hc,.slice m.pa s.lp.length m.pc,.slice m.qa s.hp.length m.qc] 12::[]) (fun x=>x<=2) ?_ sbT sbL ?_
  ·exact Nat.zero_le _
  intro x2 hx3 ih2
  try dsimp only at hx3 ⊢
  by_cases hx4:x2=2
  case neg =>
   clear ih;obtain ⟨t,ht⟩:∃ t:Bool,([.bool false,.bool true]:List Value)[0+x2*1]?=some (.bool t):=by
    obtain rfl|rfl:x2=0∨x2=1:=by omega
    ·exact ⟨_,rfl⟩
    ·exact ⟨_,rfl⟩
   obtain ⟨⟨⟨n1,u1,d1⟩,e1⟩,k1,k2⟩:=hall t;clear hall;dsimp only [nE,qA] at k1 k2;repeat' first|(refine gp ?_;and_intros<;>first|exact trivial|repeat first|intro(Bk:Nat)|intro h)|(apply G.ld;rfl;(apply LdV.one;apply aC.blk;exact mm;exact ht);rfl)|(apply G.cV (g:=11);rfl;rfl;exact fun w' hw'=>k1 w' hw'.below)|(apply G.cV (g:=12);rfl;rfl;exact fun w' hw'=>k2 w' hw'.below)|(apply G.neR ⟨n1,u1,d1⟩ ⟨n1,u1,d1⟩;rfl;rfl;rfl;all_goals intro h;all_goals try (exact absurd rfl h))|fail
   all_goals refine J.fin (ih2 (x2+1) ?_ (show 2-(x2+1) < 2-x2 by omega))
   all_goals omega
  subst hx4;clear ih2 hall;all_goals (refine go ?_;and_intros<;>first|exact trivial|repeat first|intro(Bk:Nat)|intro h)
  all_goals refine J.fin (ih (i+1) ?_ (show 2-(i+1) < 2-i by omega))
  all_goals omega
 subst hx2;clear hall;cases g1;all_goals cases g2
 all_goals cases g3
 all_goals
  repeat' first|(refine gp ?_;and_intros<;>first|exact trivial|repeat first|intro(Bk:Nat)|intro h)|(apply J.Py (.r 0 <| .q 1 <| .q 2 <| .q 3 <| .q 4 <| .q 6 <| .q 7 <| .q 8 <| .e 5 <| .r 9 <| .q 10 <| .q 11 <| .q 12 <| .q 13 <| .q 14 <| .q 15 <| .q 17 <| .q 18 <| .q 19 <| .e 16 <| .r 20 <| .q 21 <| .q 22 <| .q 23 <| .q 24 <| .q 25 <| .q 26 <| .q 28 <| .q 29 <| .q 30 <| .e 27 <| .r 31 <| .q 32 <| .q 33 <| .q 34 <| .nil);exact Tryz.Pr;decide +kernel)|(apply G.cV (g:=10);rfl;rfl;exact fun w' _=>bQ w')|(apply G.cV (g:=13);rfl;rfl;exact fun w' hw'=>hho w' hw'.below)|(apply G.cV (g:=14);rfl;rfl;exact fun w' hw'=>hrh w' hw'.below)|(apply G.cV (g:=15);rfl;rfl;exact fun w' hw'=>hat w' hw'.below)|(apply G.cV (g:=16);rfl;rfl;exact fun w' hw'=>hrt w' hw'.below)|(apply G.cV (g:=17);rfl;rfl;exact fun w' hw'=>hac w' hw'.below)|(apply G.cV (g:=18);rfl;rfl;exact fun w' hw'=>hra w' hw'.below)|fail
  all_goals exact aA Tryz.func3 Tryz.results3 rfl
end Go.Proofs.YtjcecdmbfmccoaaGreatDoor
