/-
  Contracts of proofs: potentials.
-/
import Derived.Test.YtjcecdmbfmccoaaGreatDoorVC11
set_option linter.unusedVariables false
set_option linter.unusedSimpArgs false
set_option linter.unusedSectionVars false
namespace Go.Proofs.YtjcecdmbfmccoaaGreatDoor
open Go.RowKit Go.Sl Go.Num
theorem potP_A {t:Bool}{r:Rn}{l:List Spn}{vv:Nat->Rat}{sa:Option Addr}{sc:Nat}{ca:Option Addr}{cc:Nat}:prA (potP t r l vv sa sc ca cc)=.agg #[.slice sa r.tab.length sc,.slice ca (clsE r l).length cc]:=by
 unfold prA potP
 simp only [List.length_map,List.length_range]
def uLs (t:Bool) (r:Rn) (l:List Spn) (vv:Nat->Rat) (i:Nat):List Rat:=(List.range i).map fun s=>uU t r l vv s (clsE r l).length
theorem uLs_snoc {t:Bool}{r:Rn}{l:List Spn}{vv:Nat->Rat}{i:Nat}:flat qW (uLs t r l vv (i+1))=flat qW (uLs t r l vv i)++qW (uU t r l vv i (clsE r l).length):=by
 unfold uLs
 rw [List.range_succ,List.map_append,flat_append]
 congr 1
set_option maxHeartbeats 16000000 in
theorem pot_holds (t:Bool) (r:Rn) (b:Option Addr) (l:List Spn) (d:Nat) (ka:Option Addr) (kc:Nat) (f0:Int) (ha:Option Addr) (S:List Int) (hc:Nat) (A0 A A1:List Int) (w:World) (hB:SpansAt w b l) (hf:∀ s∈l,fewS s) (hR:∀ s∈l,RightS s) (hio:InOrd 0 l) (hl4:l.length<=400) (hK:SlAt w ka 2 ((clsE r l).map hoV)) (hT:SlAt w r.adr 2 (r.tab.map hoV)) (hS:SlAt w ha 1 (S.map isV)) (hSe:S=A0++A++A1) (hfr:r.from_=f0+A0.length) (hSl:S.length<=1000000) (hr:OkR r) (h0:r.tab.length≠0) (hbr:BestR t l r A) (hn:(clsE r l).length<=31) (htb:r.tab.length<=64) :
  Calls Tryz.prog 112 #[rnA r,.slice b l.length d,.slice ka (clsE r l).length kc,.agg #[.int .i64 f0,.slice ha S.length hc],.func (.func (isF t)) #[] #[]] w fun e w'=>∃ x:{ x:(Nat->Rat)×(Option Addr×Nat)×(Option Addr×Nat) // (∃ pi,PotS t r l A pi x.1)/\PotE t r l A x.1 },e=.returned (prA (potP t r l x.1.1 x.1.2.1.1 x.1.2.1.2 x.1.2.2.1 x.1.2.2.2))/\PrfAt w' (potP t r l x.1.1 x.1.2.1.1 x.1.2.1.2 x.1.2.2.1 x.1.2.2.2)/\(∀ p,x.1.2.1.1=some p->w.heap.size<=p.block)/\(∀ p,x.1.2.2.1=some p->w.heap.size<=p.block)/\Below w.heap.size w w':=by
 have hag:=hbr.1
 have hrg:=hr.rng
 have hlen:=hag.len' hr
 have hcn0:=clsE_len hio hrg.2.1
 have hta:=hr.tab h0
 have hts:∀ s,s < r.tab.length->0<=tbS r s/\tbS r s<=1000:=fun s hs=>hta.2.2.2 _ (tbS_mem hs)
 obtain ⟨pi0,hP0⟩:=PotS.start hbr hr h0 hio
 have hthr:∀ a s,thS r l A a s->0<=s/\s<=1000:=fun a s h=>by
  obtain ⟨h1,h2⟩:=th_tab h0 hag h
  have:=hts _ h1
  rw [h2] at this
  exact this
 obtain ⟨e0,he0⟩:∃ e,e=277760:=⟨_,rfl⟩
 have hdM:=dM_le (t:=t) (r:=r) (e:=e0) hf hR hts hn htb (by omega)
 have hfw:=fun (pi vv:Nat->Rat) (h:PotS t r l A pi vv) c hc=>PotS.few h he0 hdM (b:=c) hc
 have hgf:=fun p s (hs:0<=s/\s<=1000)=>fewQ_clsG (l:=l) (p:=p) hf hR hs
 have hra:=fun c (hc:c < (clsE r l).length) s (hs:0<=s/\s<=1000) w' (hb:Below w.heap.size w w')=>prate_holds (clsAt r l c) (clsT r l c) s b l d w' (hB.below hb) hf hR (clsAt_lt0 hc) hs
 obtain ⟨kb,ko,rfl,hrK⟩:=SlAt.all hK hcn0
 have hKc:∀ c,c < (clsE r l).length->RowAt w kb (ko+c*2) [.int .i64 (clsAt r l c),.int .i64 (clsT r l c)]:=fun c hc=>by
  have h1:=hrK c hc
  rw [(List.getElem?_eq_some_iff.1 (cls_at0 hc)).2] at h1
  exact h1
 obtain ⟨m,hm⟩:∃ m:Nat,r.to_-r.from_=m:=⟨(r.to_-r.from_).toNat,by omega⟩
 have hAm:A.length=m:=by rw [hlen,hm];rfl
 have hS0:0 < S.length:=by rw [hSe];simp only [List.length_append];omega
 obtain ⟨hb,ho,rfl,hrS⟩:=SlAt.all hS hS0
 have hSA:∀ j (h:j < A.length),A0.length+j < S.length/\RowAt w hb (ho+(A0.length+j)*1) [.int .i64 A[j]]:=fun j h=>by
  have h1:A0.length+j < S.length:=by rw [hSe];simp only [List.length_append];omega
  have h2:=hrS _ h1
  have h3:S[A0.length+j]=A[j]:=by
   subst hSe
   rw [List.getElem_append_left (by rw [List.length_append];omega),List.getElem_append_right (by omega)]
   simp only [Nat.add_sub_cancel_left]
  rw [h3] at h2
  exact ⟨h1,h2⟩
 obtain ⟨tb,to,hadr,hrT⟩:=SlAt.all hT (by omega)
 have hTs:∀ s,s < r.tab.length->RowAt w tb (to+s*2) [.int .i64 (tbS r s),.int .i64 (tbT r s)]:=fun s h=>by
  have h1:=hrT s h
  rw [show r.tab[s]=(tbS r s,tbT r s) from by rw [tbS,tbT,List.getD_eq_getElem?_getD,List.getElem?_eq_getElem h];rfl] at h1
  exact h1
 unfold rnA
 rw [hadr]
 clear hrK hrS hrT hadr hT hS hSe
 refine enterA [(0,.agg #[.int .i64 r.from_,.int .i64 r.to_,.slice (some ⟨tb,to,none⟩) r.tab.length r.cap,.int .i64 r.lo,.int .i64 r.hi]),(1,.slice b l.length d),(2,.slice (some ⟨kb,ko,none⟩) (clsE r l).length kc),(3,.agg #[.int .i64 f0,.slice (some ⟨hb,ho,none⟩) S.length hc]),(4,.func (.func (isF t)) #[] #[])] Tryz.func112 Tryz.ntmps112 ?_
 repeat' first|(refine gp ?_;and_intros<;>first|exact trivial|repeat first|intro(Bk:Nat)|intro h)|(apply G.make (n:=(clsE r l).length) [.map none];rfl;rfl;rfl;rfl;rfl;omega;omega;rfl;omega;omega;intro Bt)
 rename_i B5 B6 B8
 obtain ⟨B10,rfl⟩:∃ x,x=Bk:=⟨_,rfl⟩
 rw [zero_moV]
 refine J.loop (c:=_) ((0,[]):Nat×List MpT) (fun x=>(clsE r l).length-x.1) (fun x=>[(2,.slice (some ⟨kb,ko,none⟩) (clsE r l).length kc),(4,.func (.func (isF t)) #[] #[]),(5,.pointer (some ⟨B5,0,none⟩)),(6,.pointer (some ⟨B6,0,none⟩)),(8,.pointer (some ⟨B8,0,none⟩)),(10,.pointer (some ⟨B10,0,none⟩)),(11,.slice (some ⟨Bt,0,none⟩) (clsE r l).length (clsE r l).length),(34,.int .i64 (clsE r l).length),(35,.int .i64 x.1)]) (fun x=>.blk Bt 202 (flat moV (mpO x.2 (clsE r l).length)) ((clsE r l).length*1)::.blk B10 63 [.slice none 0 0,.slice none 0 0] 2::.blk B8 30 [.int .i64 f0,.slice (some ⟨hb,ho,none⟩) S.length hc] 2::.blk B6 23 [.slice b l.length d] 1::.blk B5 67 [.int .i64 r.from_,.int .i64 r.to_,.slice (some ⟨tb,to,none⟩) r.tab.length r.cap,.int .i64 r.lo,.int .i64 r.hi] 5::(rws mpF x.2++[])) (fun x=>x.1<=(clsE r l).length/\x.2.length=x.1/\TIn r l A 0 x.2) ?_ sbT sbL ?_
 ·exact ⟨Nat.zero_le _,rfl,fun c h=>absurd h (Nat.not_lt_zero _)⟩
 intro ⟨k,T⟩ ⟨hkn,hTl,hTI⟩ ihk
 dsimp only at hkn hTl hTI ⊢
 by_cases hkk:k < (clsE r l).length
 ·have hset:∀ Bm:Nat,setL (flat moV (mpO T (clsE r l).length)) (0+k*1) [.map (some Bm)]=flat moV (mpO (T++[(Bm,#[],0,[])]) (clsE r l).length):=fun Bm=>by
   rw [flat_set1 (y:=some Bm) moV_len (by rw [mpO_len (by omega)];exact hkk) rfl]
   subst hTl
   rw [mpO_put hkk (Bm,#[],0,[])]
  have ihk:=fun Bm:Nat=>ihk (k+1,T++[(Bm,#[],0,[])]) ⟨hkk,by simp [hTl],fun c h=>by
   dsimp only at h ⊢
   by_cases e:c < T.length
   ·rw [List.getElem_append_left e];exact hTI c e
   ·rw [List.length_append,List.length_singleton] at h
    obtain rfl:c=T.length:=by omega
    rw [List.getElem_concat_length rfl]
    refine ⟨MapIs.nil,fun s=>?_⟩
    constructor
    ·intro h;cases h
    ·rintro ⟨i,h,_⟩;exact absurd h (Nat.not_lt_zero _)⟩ (by dsimp only;omega)
  dsimp only at ihk
  have hml:=mpO_len (T:=T) (n:=(clsE r l).length) (by omega)
  clear hTI
  repeat' first|(refine gp ?_;and_intros<;>first|exact trivial|repeat first|intro(Bk:Nat)|intro h)|(apply G.mkm;rfl;intro Bm)|(apply G.s1;rfl;rfl;rfl;(repeat (first|exact RAt.head|apply RAt.tail));exact ⟨rfl,rfl⟩;(rw [flat_len moV_len,hml];omega);exact hset _)
  refine J.sel (T:=mpF (Bm,#[],0,[])::(.blk Bt 202 (flat moV (mpO (T++[(Bm,#[],0,[])]) (clsE r l).length)) ((clsE r l).length*1)::.blk B10 63 [.slice none 0 0,.slice none 0 0] 2::.blk B8 30 [.int .i64 f0,.slice (some ⟨hb,ho,none⟩) S.length hc] 2::.blk B6 23 [.slice b l.length d] 1::.blk B5 67 [.int .i64 r.from_,.int .i64 r.to_,.slice (some ⟨tb,to,none⟩) r.tab.length r.cap,.int .i64 r.lo,.int .i64 r.hi] 5::(rws mpF T++[]))) ?_
  refine J.tabSnoc (F:=mpF) (T:=T) [.blk Bt 202 (flat moV (mpO (T++[(Bm,#[],0,[])]) (clsE r l).length)) ((clsE r l).length*1),.blk B10 63 [.slice none 0 0,.slice none 0 0] 2,.blk B8 30 [.int .i64 f0,.slice (some ⟨hb,ho,none⟩) S.length hc] 2,.blk B6 23 [.slice b l.length d] 1,.blk B5 67 [.int .i64 r.from_,.int .i64 r.to_,.slice (some ⟨tb,to,none⟩) r.tab.length r.cap,.int .i64 r.lo,.int .i64 r.hi] 5] (Bm,#[],0,[]) ?_
  exact J.fin (ihk Bm)
 obtain rfl:k=(clsE r l).length:=by omega
 clear ihk
 rw [mpO_all hTl]
 all_goals (refine go ?_;and_intros<;>first|exact trivial|repeat first|intro(Bk:Nat)|intro h)
 refine J.loop (c:=_) ((0,Bk,r.from_,T):Nat×Nat×Int×List MpT) (fun x=>m-x.1) (fun x=>[(2,.slice (some ⟨kb,ko,none⟩) (clsE r l).length kc),(4,.func (.func (isF t)) #[] #[]),(5,.pointer (some ⟨B5,0,none⟩)),(6,.pointer (some ⟨B6,0,none⟩)),(8,.pointer (some ⟨B8,0,none⟩)),(10,.pointer (some ⟨B10,0,none⟩)),(11,.slice (some ⟨Bt,0,none⟩) (clsE r l).length (clsE r l).length),(13,.pointer (some ⟨x.2.1,0,none⟩))]) (fun x=>.blk x.2.1 3 [.int .i64 x.2.2.1] 1::.blk Bt 202 (flat moV (x.2.2.2.map fun e=>some e.1)) ((clsE r l).length*1)::.blk B10 63 [.slice none 0 0,.slice none 0 0] 2::.blk B8 30 [.int .i64 f0,.slice (some ⟨hb,ho,none⟩) S.length hc] 2::.blk B6 23 [.slice b l.length d] 1::.blk B5 67 [.int .i64 r.from_,.int .i64 r.to_,.slice (some ⟨tb,to,none⟩) r.tab.length r.cap,.int .i64 r.lo,.int .i64 r.hi] 5::(rws mpF x.2.2.2++[])) (fun x=>x.1<=m/\x.2.2.1=r.from_+x.1/\x.2.2.2.length=(clsE r l).length/\TIn r l A x.1 x.2.2.2) ?_ sbT sbL ?_
 ·exact ⟨Nat.zero_le _,(Int.add_zero _).symm,hTl,hTI⟩
 clear hTl hTI hkn hkk
 intro ⟨j,B13,z,T⟩ ⟨hjm,hz,hTl,hTI⟩ ihj
 dsimp only at hjm hz hTl hTI ⊢
 subst hz
 by_cases hj:j < m
 ·
  have hkj:=kL_at (r:=r) (l:=l) (j:=j) (by omega)
  obtain ⟨hci,hcp⟩:=cls_ix hio hrg.2.1 (t:=r.from_+j) (by omega) (by omega)
  obtain ⟨hAj,hrA⟩:=hSA j (by omega)
  have hA1:A[j]?=some (A[j]'(by omega)):=List.getElem?_eq_getElem (by omega)
  have hTc:clsIx r l (r.from_+j) < T.length:=by omega
  have hmp:=(hTI _ hTc).1
  have hcell:=mo_get hTc
  have hat:=fun R=>rws_at (F:=mpF) (T:=T) (M0:=R) hTc
  have hms:=mp_map hTc
  have hmpS:=mp_set T (clsIx r l (r.from_+j)) T[clsIx r l (r.from_+j)].1
  have ihj:=fun B es ck (h:MapIs (Value.int .i64) es ck (putM (A[j]'(by omega)) (.bool true) T[clsIx r l (r.from_+j)].2.2.2))=>ihj (j+1,B,r.from_+j+1,T.set (clsIx r l (r.from_+j)) (T[clsIx r l (r.from_+j)].1,es,ck,putM (A[j]'(by omega)) (.bool true) T[clsIx r l (r.from_+j)].2.2.2)) ⟨hj,by dsimp only;omega,by dsimp only;rw [List.length_set];exact hTl,hTI.step hTc hA1 hkj h⟩ (by dsimp only;omega)
  dsimp only at ihj
  have hsr:=fun (M:List Row) w' (hw':Sat w M w') h1 h3=>search_pt (B1:=B6) (B3:=B13) (e1:=23) (e3:=3) (t1:=1) (t3:=1) (d:=d) (x:=r.from_+j) hB.1 hio hl4 hw' h1 h3
  have hix:=fun (M:List Row) (B:Nat) w' (hw':Sat w M w') (h:Row.blk B 3 [.int .i64 (placeI l (r.from_+j))] 1∈M)=>cls_en (kc:=kc) hK (by omega) hw' h hci
  have hxb:0<=r.from_+(j:Int)/\r.from_+(j:Int) < 1402560:=by omega
  have hxf:r.from_+(j:Int)-f0=((A0.length+j:Nat):Int):=by omega
  have hkt:=kT_le l (r.from_+j)
  have hcs:(kT l (r.from_+j)=l.length/\placeI l (r.from_+j)=-1)∨(∃ h:kT l (r.from_+j) < l.length,r.from_+j < l[kT l (r.from_+j)].from_/\placeI l (r.from_+j)=-1)∨(∃ h:kT l (r.from_+j) < l.length,l[kT l (r.from_+j)].from_<=r.from_+j/\placeI l (r.from_+j)=(kT l (r.from_+j):Int)):=by
   by_cases h:kT l (r.from_+j) < l.length
   ·by_cases h2:r.from_+j < l[kT l (r.from_+j)].from_
    ·exact .inr (.inl ⟨h,h2,place_out hio fun _=>h2⟩)
    ·exact .inr (.inr ⟨h,by omega,place_in hio h (by omega)⟩)
   ·exact .inl ⟨by omega,place_out hio fun h2=>absurd h2 h⟩
  clear hkj hcp hA1 hTI hSA hfw hgf hra hKc hTs hP0 hthr hdM hK
  generalize T[clsIx r l (r.from_+j)]=te at *
  generalize clsIx r l (r.from_+j)=ci at *
  generalize A[j]=st at *
  obtain ⟨Bm,es,ck,L⟩:=te
  dsimp only [mpF] at hmp hcell hat ihj hms hmpS
  simp only [hms] at ihj
  rcases hcs with ⟨hk1,hp⟩|⟨hk1,hk2,hp⟩|⟨hk1,hk2,hp⟩
  ·rw [hp] at hix
   generalize kT l (r.from_+j)=K at *
   repeat' first|(refine gp ?_;and_intros<;>first|exact trivial|repeat first|intro(Bk:Nat)|intro h)|(apply G.cV (g:=124);rfl;rfl;exact fun w' hw'=>hsr _ w' hw' mm mm)|(apply G.cV (g:=150);rfl;rfl;exact fun w' hw'=>hix _ _ w' hw' mm)|(apply J.regA (.q 0 <| .q 1 <| .q 2 <| .q 3 <| .q 4 <| .q 5 <| .q 6 <| .q 7 <| .q 8 <| .q 9 <| .q 10 <| .q 11 <| .r 12 <| .nil);exact Tryz.mixed;decide +kernel)|(apply G.ld;rfl;(apply LdV.one;apply CellV.blk;exact mm;exact hcell);rfl)|(apply G.ix (i:=A0.length+j);rfl;rfl;exact hxf;exact hAj;rfl)|(apply G.mu (kf:=Value.int .i64) (a:=st) hmp rfl;rfl;rfl;rfl;rfl;(repeat (first|exact hat _|apply RAt.tail));intro es2 ck2 hI2)
   all_goals
    rw [hmpS _ _ (putM st (.bool true) L)]
    exact J.finS (ihj Bk _ _ hI2)
  ·obtain ⟨bb,ob,hbe,hrow⟩:=SlAt.all hB.1 (by omega)
   subst hbe
   have hrK:=hrow _ hk1
   clear hrow
   rw [hp] at hix
   generalize kT l (r.from_+j)=K at *
   generalize l[K]=sp at *
   dsimp only [spV] at hrK
   repeat' first|(refine gp ?_;and_intros<;>first|exact trivial|repeat first|intro(Bk:Nat)|intro h)|(apply G.cV (g:=124);rfl;rfl;exact fun w' hw'=>hsr _ w' hw' mm mm)|(apply G.cV (g:=150);rfl;rfl;exact fun w' hw'=>hix _ _ w' hw' mm)|(apply J.regA (.q 0 <| .q 1 <| .q 2 <| .q 3 <| .q 4 <| .q 5 <| .q 6 <| .q 7 <| .q 8 <| .q 9 <| .q 10 <| .q 11 <| .r 12 <| .nil);exact Tryz.mixed;decide +kernel)|(apply G.ld;rfl;(apply LdV.one;apply CellV.blk;exact mm;exact hcell);rfl)|(apply G.ix (i:=A0.length+j);rfl;rfl;exact hxf;exact hAj;rfl)|(apply G.mu (kf:=Value.int .i64) (a:=st) hmp rfl;rfl;rfl;rfl;rfl;(repeat (first|exact hat _|apply RAt.tail));intro es2 ck2 hI2)
   all_goals
    rw [hmpS _ _ (putM st (.bool true) L)]
    exact J.finS (ihj Bk _ _ hI2)
  ·obtain ⟨bb,ob,hbe,hrow⟩:=SlAt.all hB.1 (by omega)
   subst hbe
   have hrK:=hrow _ hk1
   clear hrow
   rw [hp] at hix
   generalize kT l (r.from_+j)=K at *
   generalize l[K]=sp at *
   dsimp only [spV] at hrK
   repeat' first|(refine gp ?_;and_intros<;>first|exact trivial|repeat first|intro(Bk:Nat)|intro h)|(apply G.cV (g:=124);rfl;rfl;exact fun w' hw'=>hsr _ w' hw' mm mm)|(apply G.cV (g:=150);rfl;rfl;exact fun w' hw'=>hix _ _ w' hw' mm)|(apply J.regA (.q 0 <| .q 1 <| .q 2 <| .q 3 <| .q 4 <| .q 5 <| .q 6 <| .q 7 <| .q 8 <| .q 9 <| .q 10 <| .q 11 <| .r 12 <| .nil);exact Tryz.mixed;decide +kernel)|(apply G.ld;rfl;(apply LdV.one;apply CellV.blk;exact mm;exact hcell);rfl)|(apply G.ix (i:=A0.length+j);rfl;rfl;exact hxf;exact hAj;rfl)|(apply G.mu (kf:=Value.int .i64) (a:=st) hmp rfl;rfl;rfl;rfl;rfl;(repeat (first|exact hat _|apply RAt.tail));intro es2 ck2 hI2)
   all_goals
    rw [hmpS _ _ (putM st (.bool true) L)]
    exact J.finS (ihj Bk _ _ hI2)
 obtain rfl:j=m:=by omega
 clear ihj hj
 have hTA:=fun c hc s=>TIn.all hTI (by omega) (c:=c) hc s
 repeat' first|(refine gp ?_;and_intros<;>first|exact trivial|repeat first|intro(Bk:Nat)|intro h)|(apply G.make (n:=(clsE r l).length) [.bool false,.string (bs []),.string (bs [])];rfl;rfl;rfl;rfl;rfl;omega;omega;rfl;omega;omega;intro Bv)
 rw [show flat (fun x:List Value=>x) (List.replicate (clsE r l).length [.bool false,.string (bs []),.string (bs [])])=flat qW (vvL (fun _=>0) (clsE r l).length) from by rw [vvL_zero];exact zero_qW _]
 refine J.loop (c:=_) (fun _=>0:Nat->Rat) (fun x=>potN t r l x) (fun x=>[(2,.slice (some ⟨kb,ko,none⟩) (clsE r l).length kc),(4,.func (.func (isF t)) #[] #[]),(5,.pointer (some ⟨B5,0,none⟩)),(6,.pointer (some ⟨B6,0,none⟩)),(10,.pointer (some ⟨B10,0,none⟩)),(11,.slice (some ⟨Bt,0,none⟩) (clsE r l).length (clsE r l).length),(16,.slice (some ⟨Bv,0,none⟩) (clsE r l).length (clsE r l).length)]) (fun x=>.blk Bv 25 (flat qW (vvL x (clsE r l).length)) ((clsE r l).length*3)::.blk Bt 202 (flat moV (T.map fun e=>some e.1)) ((clsE r l).length*1)::.blk B10 63 [.slice none 0 0,.slice none 0 0] 2::.blk B8 30 [.int .i64 f0,.slice (some ⟨hb,ho,none⟩) S.length hc] 2::.blk B6 23 [.slice b l.length d] 1::.blk B5 67 [.int .i64 r.from_,.int .i64 r.to_,.slice (some ⟨tb,to,none⟩) r.tab.length r.cap,.int .i64 r.lo,.int .i64 r.hi] 5::(rws mpF T++[])) (fun x=>PotS t r l A pi0 x) ?_ sbT sbL ?_
 ·exact hP0
 clear hP0
 intro vv hP ihv
 have hfv:=fun c (hc:c < (clsE r l).length)=>hfw _ _ hP c hc
 all_goals (refine go ?_;and_intros<;>first|exact trivial|repeat first|intro(Bk:Nat)|intro h)
 refine J.loop (c:=_) (0:Nat) (fun x=>(clsE r l).length-x) (fun x=>[(2,.slice (some ⟨kb,ko,none⟩) (clsE r l).length kc),(4,.func (.func (isF t)) #[] #[]),(5,.pointer (some ⟨B5,0,none⟩)),(6,.pointer (some ⟨B6,0,none⟩)),(10,.pointer (some ⟨B10,0,none⟩)),(11,.slice (some ⟨Bt,0,none⟩) (clsE r l).length (clsE r l).length),(16,.slice (some ⟨Bv,0,none⟩) (clsE r l).length (clsE r l).length),(87,.slice (some ⟨kb,ko,none⟩) (clsE r l).length kc),(88,.int .i64 (clsE r l).length),(89,.int .i64 x)]) (fun x=>.blk Bv 25 (flat qW (vvL vv (clsE r l).length)) ((clsE r l).length*3)::.blk Bt 202 (flat moV (T.map fun e=>some e.1)) ((clsE r l).length*1)::.blk B10 63 [.slice none 0 0,.slice none 0 0] 2::.blk B8 30 [.int .i64 f0,.slice (some ⟨hb,ho,none⟩) S.length hc] 2::.blk B6 23 [.slice b l.length d] 1::.blk B5 67 [.int .i64 r.from_,.int .i64 r.to_,.slice (some ⟨tb,to,none⟩) r.tab.length r.cap,.int .i64 r.lo,.int .i64 r.hi] 5::(rws mpF T++[])) (fun x=>x<=(clsE r l).length/\∀ a b s,a < x->b < (clsE r l).length->thS r l A a s->¬ sgR t (vv a+clsG l (clsAt r l b) s-clsG l (clsAt r l a) s) < sgR t (vv b)) ?_ sbT sbL ?_
 ·exact ⟨Nat.zero_le _,fun a b s h=>absurd h (Nat.not_lt_zero _)⟩
 intro ca ⟨hca,hI⟩ iha
 by_cases haa:ca < (clsE r l).length
 ·
  have hKa:=hKc ca haa
  all_goals (refine go ?_;and_intros<;>first|exact trivial|repeat first|intro(Bk:Nat)|intro h)
  obtain ⟨B18,rfl⟩:∃ x,x=Bk:=⟨_,rfl⟩
  refine J.loop (c:=_) (0:Nat) (fun x=>(clsE r l).length-x) (fun x=>[(2,.slice (some ⟨kb,ko,none⟩) (clsE r l).length kc),(4,.func (.func (isF t)) #[] #[]),(5,.pointer (some ⟨B5,0,none⟩)),(6,.pointer (some ⟨B6,0,none⟩)),(10,.pointer (some ⟨B10,0,none⟩)),(11,.slice (some ⟨Bt,0,none⟩) (clsE r l).length (clsE r l).length),(16,.slice (some ⟨Bv,0,none⟩) (clsE r l).length (clsE r l).length),(87,.slice (some ⟨kb,ko,none⟩) (clsE r l).length kc),(88,.int .i64 (clsE r l).length),(89,.int .i64 ca),(17,.int .i64 ca),(18,.pointer (some ⟨B18,0,none⟩)),(94,.slice (some ⟨kb,ko,none⟩) (clsE r l).length kc),(95,.int .i64 (clsE r l).length),(96,.int .i64 x)]) (fun x=>.blk B18 90 [.int .i64 (clsAt r l ca),.int .i64 (clsT r l ca)] 2::.blk Bv 25 (flat qW (vvL vv (clsE r l).length)) ((clsE r l).length*3)::.blk Bt 202 (flat moV (T.map fun e=>some e.1)) ((clsE r l).length*1)::.blk B10 63 [.slice none 0 0,.slice none 0 0] 2::.blk B8 30 [.int .i64 f0,.slice (some ⟨hb,ho,none⟩) S.length hc] 2::.blk B6 23 [.slice b l.length d] 1::.blk B5 67 [.int .i64 r.from_,.int .i64 r.to_,.slice (some ⟨tb,to,none⟩) r.tab.length r.cap,.int .i64 r.lo,.int .i64 r.hi] 5::(rws mpF T++[])) (fun x=>x<=(clsE r l).length/\∀ b s,b < x->thS r l A ca s->¬ sgR t (vv ca+clsG l (clsAt r l b) s-clsG l (clsAt r l ca) s) < sgR t (vv b)) ?_ sbT sbL ?_
  ·exact ⟨Nat.zero_le _,fun b s h=>absurd h (Nat.not_lt_zero _)⟩
  intro cb ⟨hcb,hJ⟩ ihb
  by_cases hbb:cb < (clsE r l).length
  ·clear iha
   have hKb:=hKc cb hbb
   have hTc:ca < T.length:=by omega
   obtain ⟨hmp,-⟩:=hTI ca hTc
   have hth:=hTA ca hTc
   have hcell:=mo_get hTc
   have hmT:=fun R=>rws_mem (F:=mpF) (T:=T) (M0:=R) hTc
   generalize T[ca]=te at *
   obtain ⟨Bm,es,ck,L⟩:=te
   dsimp only [mpF] at hmp hth hcell hmT
   repeat' first|(refine gp ?_;and_intros<;>first|exact trivial|repeat first|intro(Bk:Nat)|intro h)|(apply G.ld;rfl;(apply LdV.one;apply CellV.blk;exact mm;exact hcell);rfl)|(apply G.rg;rfl;(repeat (first|exact hmT _|apply List.Mem.tail));rfl;intro Bi)
   obtain ⟨B20,rfl⟩:∃ x,x=Bk:=⟨_,rfl⟩
   refine J.loop (c:=_) ((#[],L):Array Nat×List (Int×Value)) (fun x=>x.2.length) (fun x=>[(2,.slice (some ⟨kb,ko,none⟩) (clsE r l).length kc),(4,.func (.func (isF t)) #[] #[]),(5,.pointer (some ⟨B5,0,none⟩)),(6,.pointer (some ⟨B6,0,none⟩)),(10,.pointer (some ⟨B10,0,none⟩)),(11,.slice (some ⟨Bt,0,none⟩) (clsE r l).length (clsE r l).length),(16,.slice (some ⟨Bv,0,none⟩) (clsE r l).length (clsE r l).length),(87,.slice (some ⟨kb,ko,none⟩) (clsE r l).length kc),(88,.int .i64 (clsE r l).length),(89,.int .i64 ca),(17,.int .i64 ca),(18,.pointer (some ⟨B18,0,none⟩)),(94,.slice (some ⟨kb,ko,none⟩) (clsE r l).length kc),(95,.int .i64 (clsE r l).length),(96,.int .i64 cb),(19,.int .i64 cb),(20,.pointer (some ⟨B20,0,none⟩)),(105,.pointer (some ⟨Bi,0,none⟩))]) (fun x=>.obj Bi (.mapIter (some Bm) ck x.1 ck)::.blk B20 90 [.int .i64 (clsAt r l cb),.int .i64 (clsT r l cb)] 2::.blk B18 90 [.int .i64 (clsAt r l ca),.int .i64 (clsT r l ca)] 2::.blk Bv 25 (flat qW (vvL vv (clsE r l).length)) ((clsE r l).length*3)::.blk Bt 202 (flat moV (T.map fun e=>some e.1)) ((clsE r l).length*1)::.blk B10 63 [.slice none 0 0,.slice none 0 0] 2::.blk B8 30 [.int .i64 f0,.slice (some ⟨hb,ho,none⟩) S.length hc] 2::.blk B6 23 [.slice b l.length d] 1::.blk B5 67 [.int .i64 r.from_,.int .i64 r.to_,.slice (some ⟨tb,to,none⟩) r.tab.length r.cap,.int .i64 r.lo,.int .i64 r.hi] 5::(rws mpF T++[])) (fun x=>Rem (Value.int .i64) es x.1 x.2/\(∀ p∈x.2,p∈L)/\∀ s,thS r l A ca s->s∈x.2.map (·.1)∨¬ sgR t (vv ca+clsG l (clsAt r l cb) s-clsG l (clsAt r l ca) s) < sgR t (vv cb)) ?_ sbT sbL ?_
   ·exact ⟨Rem.start hmp,fun p hp=>hp,fun s hs=>.inl ((hth s).2 hs)⟩
   intro ⟨seen,R⟩ ⟨hRm,hRL,hdn⟩ ihm
   dsimp only at hRm hRL hdn ⊢
   by_cases hR0:R=[]
   ·subst hR0
    clear ihm
    repeat' first|(refine gp ?_;and_intros<;>first|exact trivial|repeat first|intro(Bk:Nat)|intro h)|(apply G.nx0 hmp hRm;rfl;rfl;exact mm;(repeat (first|exact hmT _|apply List.Mem.tail)))
    have ihb:=ihb (cb+1) ⟨hbb,fun b s h1 h2=>by
     by_cases e:b=cb
     ·subst e;exact (hdn s h2).resolve_left List.not_mem_nil
     ·exact hJ b s (by omega) h2⟩ (by omega)
    exact J.finS ihb
   ·skip
    repeat' first|(refine gp ?_;and_intros<;>first|exact trivial|repeat first|intro(Bk:Nat)|intro h)|(apply G.nx1 hmp hRm hR0;rfl;rfl;(repeat (first|exact RAt.head|apply RAt.tail));(repeat (first|exact hmT _|apply List.Mem.tail));intro j hj seen' hRm' ⟨e,he,hsn,hek,hev⟩)|(apply G.en hmp he hsn hek hev;rfl;rfl;exact mm;(repeat (first|exact hmT _|apply List.Mem.tail)))
    have hs1:=(hth R[j].1).1 (List.mem_map_of_mem (hRL _ (List.getElem_mem hj)))
    have hsb:=hthr ca _ hs1
    have hdn2:¬ sgR t (vv ca+clsG l (clsAt r l cb) R[j].1-clsG l (clsAt r l ca) R[j].1) < sgR t (vv cb)->∀ s,thS r l A ca s->s∈(R.eraseIdx j).map (·.1)∨¬ sgR t (vv ca+clsG l (clsAt r l cb) s-clsG l (clsAt r l ca) s) < sgR t (vv cb):=fun hno s hs=>by
     rcases hdn s hs with h|h
     ·obtain ⟨p,hp,rfl⟩:=List.mem_map.1 h
      rcases mem_or_erase hj hp with h2|h2
      ·subst h2;exact .inr hno
      ·exact .inl (List.mem_map_of_mem h2)
     ·exact .inr h
    have ihm:=fun hno=>ihm (seen',R.eraseIdx j) ⟨hRm',fun p hp=>hRL p (List.mem_of_mem_eraseIdx hp),hdn2 hno⟩ (by dsimp only;rw [List.length_eraseIdx,if_pos hj];omega)
    dsimp only at ihm
    obtain ⟨st,hst⟩:∃ st:Nat,R[j].1=st:=⟨R[j].1.toNat,by omega⟩
    rw [hst] at hs1 hsb ihm ⊢
    have ra:=hra ca haa st hsb
    have rb:=hra cb hbb st hsb
    have ga:=hgf (clsAt r l ca) st hsb
    have gb:=hgf (clsAt r l cb) st hsb
    have fa:=hfv ca haa
    have fb:=hfv cb hbb
    have fng:=fewQ_neg ga
    have hng:=vNeg (fewQ.big ga (by decide))
    have f1:=fewQ_add fa gb (by decide) (by decide)
    have f2:=fewQ_add f1 fng (by decide) (by decide)
    have hstep:=fun y hy=>hP.step h0 hag haa hbb hs1 (y:=y) hy
    obtain ⟨y,hy⟩:∃ y,y=vv ca+clsG l (clsAt r l cb) st-clsG l (clsAt r l ca) st:=⟨_,rfl⟩
    have ey:vv ca+clsG l (clsAt r l cb) st+-clsG l (clsAt r l ca) st=y:=by rw [hy,Rat.sub_eq_add_neg]
    have hstep:=hstep y hy
    have hpl:=fun (M:List Row) w' (hw':Sat w M w') Bq Eq tq hm=>pls3 (B:=Bq) (E:=Eq) (tot:=tq) hw' rfl rfl rfl (fewQ.big fa (by decide)) (fewQ.big gb (by decide)) (fewQ.big fng (by decide)) (fewQ.big f1 (by decide)) (fewQ.big f2 (by decide)) hm
    rw [ey] at f2
    simp only [ey] at hpl
    rw [<- hy] at ihm
    have his:=is_hold t (fewQ.big f2 (by decide)) (fewQ.big fb (by decide))
    have hset:setL (flat qW (vvL vv (clsE r l).length)) (0+cb*3) (qW y)=flat qW (vvL (putV vv cb y) (clsE r l).length):=by rw [Nat.zero_add,flat_set qW_len (by rw [vvL_len];exact hbb),vvL_put]
    have hga:=vvL_at (vv:=vv) haa
    have hgb:=vvL_at (vv:=vv) hbb
    have hla:qW (vv ca)=[.bool (rQ (vv ca)).neg,.string (bs (rQ (vv ca)).num),.string (bs (rQ (vv ca)).den)]:=rfl
    have hlb:qW (vv cb)=[.bool (rQ (vv cb)).neg,.string (bs (rQ (vv cb)).num),.string (bs (rQ (vv cb)).den)]:=rfl
    have hly:qW y=[.bool (rQ y).neg,.string (bs (rQ y).num),.string (bs (rQ y).den)]:=rfl
    rw [hly] at hset
    have hKa:=hKc ca haa
    clear hly ey hy ga gb fa fb fng f1 f2 hdn2 hdn hRm' hRm hRL hst hJ hI ihb hTI hTA hfw hfv hgf hra hKc hTs hP hthr hdM hSA hlen
    by_cases himp:sgR t y < sgR t (vv cb)
    ·rw [decide_eq_true himp] at his
     have hst2:=hstep himp
     have ihv:=ihv _ hst2.1 hst2.2
     clear ihm hstep hst2 himp
     generalize rQ y=q4 at *
     generalize rQ (vv ca)=q1 at *
     generalize rQ (vv cb)=q6 at *
     generalize rQ (-clsG l (clsAt r l ca) st)=q3 at *
     generalize rQ (clsG l (clsAt r l ca) st)=q5 at *
     generalize rQ (clsG l (clsAt r l cb) st)=q2 at *
     obtain ⟨n1,u1,d1⟩:=q1
     obtain ⟨n2,u2,d2⟩:=q2
     obtain ⟨n3,u3,d3⟩:=q3
     obtain ⟨n4,u4,d4⟩:=q4
     obtain ⟨n5,u5,d5⟩:=q5
     obtain ⟨n6,u6,d6⟩:=q6
     dsimp only [qA] at *
     repeat' first|(refine gp ?_;and_intros<;>first|exact trivial|repeat first|intro(Bk:Nat)|intro h)|(apply J.regA (.q 0 <| .q 1 <| .q 2 <| .q 3 <| .q 4 <| .q 5 <| .q 6 <| .q 7 <| .q 8 <| .q 9 <| .q 10 <| .q 11 <| .q 12 <| .f 13 (.q 14 <| .e 15 <| .r 16 <| .nil) 15 (.e 13 <| .q 14 <| .r 16 <| .nil));exact Tryz.mixed;decide +kernel)|(apply G.fork)|(apply G.ld;rfl;exact LdV.flatV qW_len mm hga rfl hla;rfl)|(apply G.ld;rfl;exact LdV.flatV qW_len mm hgb rfl hlb;rfl)|(apply G.cV (g:=43) (d:=117);rfl;rfl;exact fun w' hw=>rb w' hw.below)|(apply G.cV (g:=43) (d:=121);rfl;rfl;exact fun w' hw=>ra w' hw.below)|(apply G.cV (g:=145);rfl;rfl;exact fun w' _=>hng w')|(apply G.sliceL;rfl;rfl;rfl;rfl;rfl;rfl;rfl;rfl;intro Bs)|(apply G.cV (g:=40);rfl;rfl;exact fun w' hw'=>hpl _ w' hw' _ _ _ (by exact mm))|(apply G.cF (g:=isF t);rfl;rfl;rfl;exact fun w' _=>his w')|(apply G.sA (vs:=[.bool n4,.string (bs u4),.string (bs d4)]);rfl;rfl;rfl;(repeat (first|exact RAt.head|apply RAt.tail));rfl;rfl;(rw [flat_len qW_len,vvL_len];dsimp only [List.length_cons,List.length_nil];omega);exact hset)
     all_goals exact J.finS ihv
    ·rw [decide_eq_false himp] at his
     have ihm:=ihm himp
     clear ihv hstep himp
     generalize rQ y=q4 at *
     generalize rQ (vv ca)=q1 at *
     generalize rQ (vv cb)=q6 at *
     generalize rQ (-clsG l (clsAt r l ca) st)=q3 at *
     generalize rQ (clsG l (clsAt r l ca) st)=q5 at *
     generalize rQ (clsG l (clsAt r l cb) st)=q2 at *
     obtain ⟨n1,u1,d1⟩:=q1
     obtain ⟨n2,u2,d2⟩:=q2
     obtain ⟨n3,u3,d3⟩:=q3
     obtain ⟨n4,u4,d4⟩:=q4
     obtain ⟨n5,u5,d5⟩:=q5
     obtain ⟨n6,u6,d6⟩:=q6
     dsimp only [qA] at *
     repeat' first|(refine gp ?_;and_intros<;>first|exact trivial|repeat first|intro(Bk:Nat)|intro h)|(apply J.regA (.q 0 <| .q 1 <| .q 2 <| .q 3 <| .q 4 <| .q 5 <| .q 6 <| .q 7 <| .q 8 <| .q 9 <| .q 10 <| .q 11 <| .q 12 <| .f 13 (.q 14 <| .e 15 <| .r 16 <| .nil) 15 (.e 13 <| .q 14 <| .r 16 <| .nil));exact Tryz.mixed;decide +kernel)|(apply G.fork)|(apply G.ld;rfl;exact LdV.flatV qW_len mm hga rfl hla;rfl)|(apply G.ld;rfl;exact LdV.flatV qW_len mm hgb rfl hlb;rfl)|(apply G.cV (g:=43) (d:=117);rfl;rfl;exact fun w' hw=>rb w' hw.below)|(apply G.cV (g:=43) (d:=121);rfl;rfl;exact fun w' hw=>ra w' hw.below)|(apply G.cV (g:=145);rfl;rfl;exact fun w' _=>hng w')|(apply G.sliceL;rfl;rfl;rfl;rfl;rfl;rfl;rfl;rfl;intro Bs)|(apply G.cV (g:=40);rfl;rfl;exact fun w' hw'=>hpl _ w' hw' _ _ _ (by exact mm))|(apply G.cF (g:=isF t);rfl;rfl;rfl;exact fun w' _=>his w')|(apply G.sA (vs:=[.bool n4,.string (bs u4),.string (bs d4)]);rfl;rfl;rfl;(repeat (first|exact RAt.head|apply RAt.tail));rfl;rfl;(rw [flat_len qW_len,vvL_len];dsimp only [List.length_cons,List.length_nil];omega);exact hset)
     all_goals exact J.finS ihm
  ·obtain rfl:cb=(clsE r l).length:=by omega
   clear ihb
   have iha:=iha (ca+1) ⟨haa,fun a b s h1 h2 h3=>by
    by_cases e:a=ca
    ·subst e;exact hJ b s h2 h3
    ·exact hI a b s (by omega) h2 h3⟩ (by omega)
   all_goals (refine go ?_;and_intros<;>first|exact trivial|repeat first|intro(Bk:Nat)|intro h)
   exact J.finS iha
 obtain rfl:ca=(clsE r l).length:=by omega
 have hE:PotE t r l A vv:=fun a b s h1 h2 h3=>hI a b s h1 h2 h3
 clear iha ihv hI
 all_goals (refine go ?_;and_intros<;>first|exact trivial|repeat first|intro(Bk:Nat)|intro h)
 obtain ⟨B23,rfl⟩:∃ x,x=Bk:=⟨_,rfl⟩
 apply J.nilOwn (E:=25) (size:=3)
 refine J.loop (c:=_) ((0,none,0):Nat×Option Addr×Nat) (fun x=>r.tab.length-x.1) (fun x=>[(2,.slice (some ⟨kb,ko,none⟩) (clsE r l).length kc),(4,.func (.func (isF t)) #[] #[]),(6,.pointer (some ⟨B6,0,none⟩)),(10,.pointer (some ⟨B10,0,none⟩)),(16,.slice (some ⟨Bv,0,none⟩) (clsE r l).length (clsE r l).length),(23,.pointer (some ⟨B23,0,none⟩)),(141,.slice (some ⟨tb,to,none⟩) r.tab.length r.cap),(142,.int .i64 r.tab.length),(143,.int .i64 x.1)]) (fun x=>.own 0 (.slice x.2.1 x.1 x.2.2) 25 3 x.1 (flat qW (uLs t r l vv x.1))::.blk B23 63 [.slice x.2.1 x.1 x.2.2,.slice (some ⟨Bv,0,none⟩) (clsE r l).length (clsE r l).length] 2::.blk Bv 25 (flat qW (vvL vv (clsE r l).length)) ((clsE r l).length*3)::.blk B10 63 [.slice none 0 0,.slice none 0 0] 2::.blk B6 23 [.slice b l.length d] 1::(rws mpF T++[])) (fun x=>x.1<=r.tab.length) ?_ sbT sbL ?_
 ·exact Nat.zero_le _
 intro ⟨i,sa,sc⟩ hin ihi
 dsimp only at hin ⊢
 by_cases hii:i < r.tab.length
 ·have hTi:=hTs i hii
  have hK0:=hKc 0 hcn0
  have ra:=hra 0 hcn0 _ (hts i hii)
  have g0:=hgf (clsAt r l 0) _ (hts i hii)
  have f0:=hfv 0 hcn0
  have hsb:=vSub (fewQ.big g0 (by decide)) (fewQ.big f0 (by decide))
  have hu0:uU t r l vv i 0=clsG l (clsAt r l 0) (tbS r i)-vv 0:=uU_zero i
  have hga:=vvL_at (vv:=vv) hcn0
  have hla:qW (vv 0)=[.bool (rQ (vv 0)).neg,.string (bs (rQ (vv 0)).num),.string (bs (rQ (vv 0)).den)]:=rfl
  rw [<- hu0] at hsb
  have ihi:=fun a c=>ihi (i+1,a,c) hii (by dsimp only;omega)
  dsimp only at ihi
  clear g0 f0 hu0
  generalize hqu:rQ (uU t r l vv i 0)=qu at *
  generalize rQ (vv 0)=q1 at hsb hla
  generalize rQ (clsG l (clsAt r l 0) (tbS r i))=q2 at hsb ra
  obtain ⟨n1,u1,d1⟩:=q1
  obtain ⟨n2,u2,d2⟩:=q2
  obtain ⟨n3,u3,d3⟩:=qu
  dsimp only [qA] at hsb hla ra
  repeat' first|(refine gp ?_;and_intros<;>first|exact trivial|repeat first|intro(Bk:Nat)|intro h)|(apply J.regA (.q 0 <| .q 1 <| .q 2 <| .q 3 <| .q 4 <| .q 5 <| .q 6 <| .q 7 <| .q 8 <| .q 9 <| .q 10 <| .e 11 <| .r 12 <| .nil);exact Tryz.mixed;decide +kernel)|(apply G.ld;rfl;exact LdV.flatV qW_len mm hga rfl hla;rfl)|(apply G.cV (g:=43);rfl;rfl;exact fun w' hw=>ra w' hw.below)|(apply G.cV (g:=28);rfl;rfl;exact fun w' _=>hsb w')
  rename_i B25
  obtain ⟨B26,rfl⟩:∃ x,x=Bk:=⟨_,rfl⟩
  clear ra hsb hga hla hK0
  refine J.loop (c:=_) ((0,⟨n3,u3,d3⟩):Nat×Q3) (fun x=>(clsE r l).length-x.1) (fun x=>[(2,.slice (some ⟨kb,ko,none⟩) (clsE r l).length kc),(4,.func (.func (isF t)) #[] #[]),(6,.pointer (some ⟨B6,0,none⟩)),(10,.pointer (some ⟨B10,0,none⟩)),(16,.slice (some ⟨Bv,0,none⟩) (clsE r l).length (clsE r l).length),(23,.pointer (some ⟨B23,0,none⟩)),(141,.slice (some ⟨tb,to,none⟩) r.tab.length r.cap),(142,.int .i64 r.tab.length),(143,.int .i64 i),(25,.pointer (some ⟨B25,0,none⟩)),(26,.pointer (some ⟨B26,0,none⟩)),(158,.slice (some ⟨kb,ko,none⟩) (clsE r l).length kc),(159,.int .i64 (clsE r l).length),(160,.int .i64 x.1)]) (fun x=>.blk B26 25 [.bool x.2.neg,.string (bs x.2.num),.string (bs x.2.den)] 3::.blk B25 95 [.int .i64 (tbS r i),.int .i64 (tbT r i)] 2::.own 0 (.slice sa i sc) 25 3 i (flat qW (uLs t r l vv i))::.blk B23 63 [.slice sa i sc,.slice (some ⟨Bv,0,none⟩) (clsE r l).length (clsE r l).length] 2::.blk Bv 25 (flat qW (vvL vv (clsE r l).length)) ((clsE r l).length*3)::.blk B10 63 [.slice none 0 0,.slice none 0 0] 2::.blk B6 23 [.slice b l.length d] 1::(rws mpF T++[])) (fun x=>x.1<=(clsE r l).length/\x.2=rQ (uU t r l vv i x.1)) ?_ sbT sbL ?_
  ·exact ⟨Nat.zero_le _,hqu.symm⟩
  clear hqu
  intro ⟨c,q⟩ ⟨hcn,hq⟩ ihc
  dsimp only at hcn hq ⊢
  by_cases hcc:c < (clsE r l).length
  ·have hKa:=hKc c hcc
   have ra:=hra c hcc _ (hts i hii)
   have g0:=hgf (clsAt r l c) _ (hts i hii)
   have f0:=hfv c hcc
   have hsb:=vSub (fewQ.big g0 (by decide)) (fewQ.big f0 (by decide))
   have f1:=fewQ_sub g0 f0 (by decide) (by decide)
   have hga:=vvL_at (vv:=vv) hcc
   have hla:qW (vv c)=[.bool (rQ (vv c)).neg,.string (bs (rQ (vv c)).num),.string (bs (rQ (vv c)).den)]:=rfl
   have fu:fewQ 20000000 (rQ (uU t r l vv i c)):=by
    obtain ⟨c',h1,h2⟩:=uU_is (t:=t) (r:=r) (l:=l) (vv:=vv) i c
    have hc':c' < (clsE r l).length:=by rcases h1 with h1|h1<;>omega
    rw [h2]
    exact fewQ_le (fewQ_sub (hgf (clsAt r l c') _ (hts i hii)) (hfv c' hc') (by decide) (by decide)) (by decide)
   have his:=is_hold t (fewQ.big f1 (by decide)) (fewQ.big fu (by decide))
   have hus:=uU_step (t:=t) (r:=r) (l:=l) (vv:=vv) i c
   rw [show gT l r i c=clsG l (clsAt r l c) (tbS r i) from rfl] at hus
   have ihc:=fun q h=>ihc (c+1,q) ⟨hcc,h⟩ (by dsimp only;omega)
   dsimp only at ihc
   rw [<- hq] at his
   clear g0 f0 f1 fu hfw hfv hgf hra hKc hTs hP hthr hdM hSA hlen ihi
   by_cases himp:sgR t (clsG l (clsAt r l c) (tbS r i)-vv c) < sgR t (uU t r l vv i c)
   ·rw [if_pos himp] at hus
    rw [decide_eq_true himp] at his
    rw [hus] at ihc
    have ihN:=ihc _ rfl
    clear ihc
    clear himp hus hq
    generalize rQ (clsG l (clsAt r l c) (tbS r i)-vv c)=q4 at *
    generalize rQ (vv c)=q1 at *
    generalize rQ (clsG l (clsAt r l c) (tbS r i))=q2 at *
    obtain ⟨n1,u1,d1⟩:=q1
    obtain ⟨n2,u2,d2⟩:=q2
    obtain ⟨n4,u4,d4⟩:=q4
    obtain ⟨n5,u5,d5⟩:=q
    dsimp only [qA] at *
    repeat' first|(refine gp ?_;and_intros<;>first|exact trivial|repeat first|intro(Bk:Nat)|intro h)|(apply J.regA (.q 0 <| .q 1 <| .q 2 <| .q 3 <| .q 4 <| .q 5 <| .q 6 <| .q 7 <| .q 8 <| .q 9 <| .e 10 <| .r 11 <| .nil);exact Tryz.mixed;decide +kernel)|(apply G.ld;rfl;exact LdV.flatV qW_len mm hga rfl hla;rfl)|(apply G.cV (g:=43);rfl;rfl;exact fun w' hw=>ra w' hw.below)|(apply G.cV (g:=28);rfl;rfl;exact fun w' _=>hsb w')|(apply G.cF (g:=isF t);rfl;rfl;rfl;exact fun w' _=>his w')
    exact J.finS ihN
   ·rw [if_neg himp] at hus
    rw [decide_eq_false himp] at his
    rw [hus] at ihc
    have ihN:=ihc _ hq
    clear ihc
    clear himp hus hq
    generalize rQ (clsG l (clsAt r l c) (tbS r i)-vv c)=q4 at *
    generalize rQ (vv c)=q1 at *
    generalize rQ (clsG l (clsAt r l c) (tbS r i))=q2 at *
    obtain ⟨n1,u1,d1⟩:=q1
    obtain ⟨n2,u2,d2⟩:=q2
    obtain ⟨n4,u4,d4⟩:=q4
    obtain ⟨n5,u5,d5⟩:=q
    dsimp only [qA] at *
    repeat' first|(refine gp ?_;and_intros<;>first|exact trivial|repeat first|intro(Bk:Nat)|intro h)|(apply J.regA (.q 0 <| .q 1 <| .q 2 <| .q 3 <| .q 4 <| .q 5 <| .q 6 <| .q 7 <| .q 8 <| .q 9 <| .e 10 <| .r 11 <| .nil);exact Tryz.mixed;decide +kernel)|(apply G.ld;rfl;exact LdV.flatV qW_len mm hga rfl hla;rfl)|(apply G.cV (g:=43);rfl;rfl;exact fun w' hw=>ra w' hw.below)|(apply G.cV (g:=28);rfl;rfl;exact fun w' _=>hsb w')|(apply G.cF (g:=isF t);rfl;rfl;rfl;exact fun w' _=>his w')
    exact J.finS ihN
  ·obtain rfl:c=(clsE r l).length:=by omega
   clear ihc
   have hcat:flat qW (uLs t r l vv i)++[.bool q.neg,.string (bs q.num),.string (bs q.den)]=flat qW (uLs t r l vv (i+1)):=by
    rw [uLs_snoc,hq];rfl
   clear hq
   repeat' first|(refine gp ?_;and_intros<;>first|exact trivial|repeat first|intro(Bk:Nat)|intro h)|(apply G.sliceL;rfl;rfl;rfl;rfl;rfl;rfl;rfl;rfl;intro Bs)|(apply G.ap;rfl;rfl;rfl;(repeat (first|exact RAt.head|apply RAt.tail));exact SrcV.blk (by exact mm) rfl rfl;exact hcat;omega;omega;intro v2;refine G.ownForm' RAt.au ?_;intro a2 c2 hv2;subst hv2)
   exact J.finS (ihi a2 c2)
 ·obtain rfl:i=r.tab.length:=by omega
  clear ihi
  all_goals (refine go ?_;and_intros<;>first|exact trivial|repeat first|intro(Bk:Nat)|intro h)
  (refine ret1 Tryz.func112 Tryz.results112 ?_;intro w' hw)
  refine ⟨⟨(vv,(sa,sc),(some ⟨Bv,0,none⟩,(clsE r l).length)),⟨pi0,hP⟩,hE⟩,?_,⟨?_,?_⟩,?_,?_,hw.below⟩
  ·rw [potP_A];rfl
  ·have h1:=SlAt.ofOwn (f:=qW) qW_len (hw.hold (.own 0 (.slice sa r.tab.length sc) 25 3 r.tab.length (flat qW (uLs t r l vv r.tab.length))) mm) (by unfold uLs;simp)
   rw [show (potP t r l vv sa sc (some ⟨Bv,0,none⟩) (clsE r l).length).st.map qV=(uLs t r l vv r.tab.length).map qW from by unfold potP uLs;rw [List.map_map,List.map_map];rfl]
   exact h1
  ·have h1:=SlAt.ofBlk (f:=qW) (l:=vvL vv (clsE r l).length) qW_len hw mm
   rw [show (potP t r l vv sa sc (some ⟨Bv,0,none⟩) (clsE r l).length).cl.map qV=(vvL vv (clsE r l).length).map qW from by unfold potP vvL;rw [List.map_map,List.map_map];rfl]
   exact h1
  ·intro p hp
   exact ((hw.old (.own 0 (.slice sa r.tab.length sc) 25 3 r.tab.length (flat qW (uLs t r l vv r.tab.length))) mm).2 p.block (by dsimp only at hp;subst hp;rfl)).1
  ·intro p hp
   cases hp
   exact ((hw.old (.blk Bv 25 (flat qW (vvL vv (clsE r l).length)) ((clsE r l).length*3)) mm).2 Bv rfl).1
end Go.Proofs.YtjcecdmbfmccoaaGreatDoor
/-
 Contracts of proofs: a best history with its proof.
-/
namespace Go.Sl
open Go.RowKit
variable {C:Ctx}{st:List (Nat×Value)}{M:List Row}{k:List Item}{q q':Md}{all rest:List Oper}{d:Nat}{ty:TypeId}{pos:String}{after:Array Edge}{gd:Option (Nat×Bool)}
theorem G.cHf {X:Type}{g:FuncId}{f:Operand}{cap:Array Value}{args:List Operand}{vs:List Value}{at_:Array TypeId}{sz:Nat} (v:X->Value) (ad:X->Option Addr) (L:X->List (List Value)) (hf:evS st f=some (.func (.func g) #[] cap)) (ha:evL st args=some vs) (hs:sideB all st gd d C.N q.ext=some q') [hF:Fun C.P g]
  (hc:∀ w,Sat C.w0 M w->Calls C.P g (vs.toArray++cap) w fun e w'=>∃ x,e=.returned (v x)/\SlAt w' (ad x) sz (L x)/\(∀ p,ad x=some p->w.heap.size<=p.block)/\Below w.heap.size w w')
  (h:∀ x,(∀ p,ad x=some p->C.w0.heap.size<=p.block)->G q' C all ((d,v x)::st) (slRow C.w0.heap.size (ad x) sz (L x)::M) rest k) :
  G q C all st M ({ dst:=some d,op:=.call { callee:=.value f,args:=args.toArray,argTypes:=at_ },type:=ty,pos,after,guard:=gd }::rest) k:=by
 obtain ⟨g1,g2,g3⟩:=sideB_ok hs
 refine G.call (X:={ x:X // ∀ p,ad x=some p->C.w0.heap.size<=p.block }) (v:=fun x=>v x.1) (Mn:=fun x=>[slRow C.w0.heap.size (ad x.1) sz (L x.1)]) g1 g2 g3 hf ha (fun w hw=>(hc w hw).mono fun e w' he=>?_) fun x=>h x.1 x.2
 obtain ⟨x,rfl,h1,h2,h3⟩:=he
 exact ⟨⟨x,fun p hp=>Nat.le_trans hw.size (h2 p hp)⟩,rfl,(hw.ext h3).addFact (Nat.le_refl _) h1 fun b hb=>hw.supN h1 h2 hb⟩
section
variable {P:Program}{F:FuncId}{N:Nat}{R:Ending->World->Prop}{w0:World}{fn:Func}{u v v1 v2 v3 v4:Value}{r r1 r2 r3 r4:ResultVar}
theorem RunsTo.four {C:Ctx}{fn:Func}{r1 r2 r3 r4:ResultVar}{v1 v2 v3 v4:Value} (hr:fn.results=#[r1,r2,r3,r4]) (h1:ResV C st M r1 v1) (h2:ResV C st M r2 v2) (h3:ResV C st M r3 v3) (h4:ResV C st M r4 v4):RunsTo C st M fn (.tuple #[v1,v2,v3,v4]):=.mk fun a w hf hw=>by
 simp [results_eq,hr,h1.run hf hw,h2.run hf hw,h3.run hf hw,h4.run hf hw]
theorem ret4 (hf:P.funcs[F]?=some fn) (hr:fn.results=#[r1,r2,r3,r4]) (hR:∀ w,Sat w0 M w->R (.returned (.tuple #[v1,v2,v3,v4])) w) (hv1:ResV (fctx P F N R w0) st M r1 v1:=by (first|(apply ResV.tmp;rfl)|(apply ResV.cell;rfl;(first|(apply LdV.one;(first|exact CellV.row0 (by assumption) rfl|exact CellV.rowS (by assumption) rfl|exact CellV.rowSS (by assumption) rfl|(apply CellV.blk;exact mm;rfl)))|(apply LdV.aggBlk;exact mm;rfl)|(apply LdV.part;exact mm;rfl;rfl)|(apply LdV.aggRow;assumption;rfl)|(apply LdV.partRow;assumption;rfl;rfl))))) (hv2:ResV (fctx P F N R w0) st M r2 v2:=by (first|(apply ResV.tmp;rfl)|(apply ResV.cell;rfl;(first|(apply LdV.one;(first|exact CellV.row0 (by assumption) rfl|exact CellV.rowS (by assumption) rfl|exact CellV.rowSS (by assumption) rfl|(apply CellV.blk;exact mm;rfl)))|(apply LdV.aggBlk;exact mm;rfl)|(apply LdV.part;exact mm;rfl;rfl)|(apply LdV.aggRow;assumption;rfl)|(apply LdV.partRow;assumption;rfl;rfl))))) (hv3:ResV (fctx P F N R w0) st M r3 v3:=by (first|(apply ResV.tmp;rfl)|(apply ResV.cell;rfl;(first|(apply LdV.one;(first|exact CellV.row0 (by assumption) rfl|exact CellV.rowS (by assumption) rfl|exact CellV.rowSS (by assumption) rfl|(apply CellV.blk;exact mm;rfl)))|(apply LdV.aggBlk;exact mm;rfl)|(apply LdV.part;exact mm;rfl;rfl)|(apply LdV.aggRow;assumption;rfl)|(apply LdV.partRow;assumption;rfl;rfl))))) (hv4:ResV (fctx P F N R w0) st M r4 v4:=by (first|(apply ResV.tmp;rfl)|(apply ResV.cell;rfl;(first|(apply LdV.one;(first|exact CellV.row0 (by assumption) rfl|exact CellV.rowS (by assumption) rfl|exact CellV.rowSS (by assumption) rfl|(apply CellV.blk;exact mm;rfl)))|(apply LdV.aggBlk;exact mm;rfl)|(apply LdV.part;exact mm;rfl;rfl)|(apply LdV.aggRow;assumption;rfl)|(apply LdV.partRow;assumption;rfl;rfl))))) :
  J (fctx P F N R w0) st M (.code .ret::k):=leave hf (RunsTo.four hr hv1 hv2 hv3 hv4) hR
end
end Go.Sl
namespace Go.Proofs.YtjcecdmbfmccoaaGreatDoor
open Go.RowKit Go.Sl Go.Num
theorem best_at {t:Bool}{l:List Spn}:∀ {rs:List Rn}{f e:Int}{S:List Int}{k:Nat} (_:Cn f rs e) (_:∀ r∈rs,OkR r) (_:BestS t l rs S) (hk:k < rs.length),∃ A0 A A1,S=A0++A++A1/\BestR t l rs[k] A/\rs[k].from_=f+A0.length
 | [],_,_,_,_,_,_,_,hk=>absurd hk (Nat.not_lt_zero _)
 | r::rs,f,e,S,0,⟨h1,_⟩,_,⟨A,B,e1,h2,_⟩,_=>⟨[],A,B,by rw [List.nil_append];exact e1,h2,by rw [List.getElem_cons_zero,List.length_nil,h1];simp⟩
 | r::rs,f,e,S,k+1,⟨h1,hc⟩,ho,⟨A,B,e1,h2,h3⟩,hk=>by
  obtain ⟨A0,A',A1,e2,h4,h5⟩:=best_at hc (fun x hx=>ho x (List.mem_cons_of_mem _ hx)) h3 (k:=k) (by simpa using hk)
  have hl:=h2.1.len (ho r (List.mem_cons_self ..))
  refine ⟨A++A0,A',A1,by rw [e1,e2];simp,h4,?_⟩
  rw [List.getElem_cons_succ,h5,List.length_append]
  omega
def PrO (t:Bool) (l:List Spn) (f:Int) (S:List Int) (r:Rn) (p:Prf):Prop :=
 (r.tab.length=0->p.st=[]/\p.cl=[])/\(r.tab.length≠0->wellB l r p=true/\certB t l r p=true/\(∃ A0 A A1,S=A0++A++A1/\r.from_=f+A0.length/\AgP r A/\tabV l r p=volSum l r.from_ A)/\∀ e m,e=277760->m=10000001->∃ D,0 < D/\D<=256 ^ e/\DenR t l D (D*256 ^ m) r p)
theorem PrO.well {t:Bool}{l:List Spn}{f:Int}{S:List Int}{r:Rn}{p:Prf} (h:PrO t l f S r p):wellB l r p=true:=by
 by_cases h0:r.tab.length=0
 ·obtain ⟨h1,h2⟩:=h.1 h0
  unfold wellB
  rw [if_pos h0,h1,h2];rfl
 ·exact (h.2 h0).1
theorem PrO.cert {t:Bool}{l:List Spn}{f:Int}{S:List Int}{r:Rn}{p:Prf} (h:PrO t l f S r p):certB t l r p=true:=by
 by_cases h0:r.tab.length=0
 ·unfold certB
  rw [decide_eq_true h0,Bool.true_or]
 ·exact (h.2 h0).2.1
theorem pro_pot {t:Bool}{l:List Spn}{rs:List Rn}{f:Int}{S A0 A A1:List Int}{r:Rn}{vv pi:Nat->Rat}{sa:Option Addr}{sc:Nat}{ca:Option Addr}{cc:Nat} (hf:∀ s∈l,fewS s) (hR:∀ s∈l,RightS s) (hio:InOrd 0 l) (hr:OkR r) (h0:r.tab.length≠0) (hn:(clsE r l).length<=31) (htb:r.tab.length<=64) (hS:S=A0++A++A1) (hfr:r.from_=f+A0.length) (hb:BestR t l r A) (hP:PotS t r l A pi vv) (hE:PotE t r l A vv):PrO t l f S r (potP t r l vv sa sc ca cc):=by
 obtain ⟨c1,c2⟩:=potP_end hr h0 hio hb.1 hE (sa:=sa) (sc:=sc) (ca:=ca) (cc:=cc)
 have hts:∀ s,s < r.tab.length->0<=tbS r s/\tbS r s<=1000:=fun s hs=>(hr.tab h0).2.2.2 _ (tbS_mem hs)
 refine ⟨fun h=>absurd h h0,fun _=>⟨potP_well h0,c1,⟨A0,A,A1,hS,hfr,hb.1,c2⟩,fun e m he hm=>⟨dM t r l,dM_pos,?_,?_⟩⟩⟩
 ·exact dM_le hf hR hts hn htb (by omega)
 ·exact potP_den hP hf hR h0 (clsE_len hio hr.rng.2.1) hts he hm (dM_le hf hR hts hn htb (by omega))
section
variable {t:Bool}{l:List Spn}{rs:List Rn}{S:List Int}{ps:List Prf}{f:Int}
theorem zip_ix {α β:Type}{a:List α}{b:List β}{y:α×β} (h:y∈a.zip b):∃ i,∃ (h1:i < a.length) (h2:i < b.length),y=(a[i],b[i]):=by
 obtain ⟨i,hi,e⟩:=List.mem_iff_getElem.1 h
 rw [List.length_zip] at hi
 rw [List.getElem_zip] at e
 exact ⟨i,by omega,by omega,e.symm⟩
theorem prv_den (hM:Mod rs l) (h0:chkE rs l=0) (hl:ps.length=rs.length) (hP:∀ i (h1:i < rs.length) (h2:i < ps.length),PrO t l f S rs[i] ps[i]):∃ D B K,DenK D B K/\∀ y∈rs.zip ps,DenR t l D B y.1 y.2:=by
 obtain ⟨_,_,hR,_,hok⟩:=chk_facts h0
 obtain ⟨e,he⟩:∃ e,e=277760:=⟨_,rfl⟩
 obtain ⟨m,hm⟩:∃ m,m=10000001:=⟨_,rfl⟩
 obtain ⟨D,d0,d1,d2⟩:=den_all (t:=t) (l:=l) (k:=e) (m:=m) (ys:=rs.zip ps) fun y hy=>by
  obtain ⟨i,h1,h2,rfl⟩:=zip_ix hy
  have hp:=hP i h1 h2
  by_cases h0t:rs[i].tab.length=0
  ·obtain ⟨e1,e2⟩:=hp.1 h0t
   exact den_run (k:=0) (Nat.zero_le _) (by omega) (by omega) (hok _ (List.getElem_mem h1)) hM.few hR (hM.cls h0 _ (List.getElem_mem h1)) hp.well ⟨by rw [e1,e2];exact Nat.zero_le _,fun q hq=>by rw [e1,e2] at hq;cases hq⟩
  ·exact (hp.2 h0t).2.2.2 e m he hm
 have hn:(rs.zip ps).length<=64:=by
  rw [List.length_zip]
  have:=hM.len
  omega
 refine ⟨D,D*256 ^ m,e*(rs.zip ps).length+m+3,denK_of d0 d1 ?_,d2⟩
 subst he hm
 omega
theorem prv_val (h0:chkE rs l=0) (hb:BestS t l rs S) (hl:ps.length=rs.length) (hP:∀ i (h1:i < rs.length) (h2:i < ps.length),PrO t l (f0R rs) S rs[i] ps[i]):valE t rs l ps=(rQ (volSum l (f0R rs) S),0):=by
 obtain ⟨hio,_,hR,_,hok⟩:=chk_facts h0
 have hw:∀ x∈rs.zip ps,wellB l x.1 x.2=true:=fun y hy=>by
  obtain ⟨i,h1,h2,rfl⟩:=zip_ix hy
  exact (hP i h1 h2).well
 have hc:∀ x∈rs.zip ps,certB t l x.1 x.2=true:=fun y hy=>by
  obtain ⟨i,h1,h2,rfl⟩:=zip_ix hy
  exact (hP i h1 h2).cert
 rw [val_of h0 hl hw hc]
 obtain ⟨e,hcn⟩:=best_cn (chk_ok h0).1
 rw [val_best hio hcn hok hl hb fun A r p hm h0 ha ⟨B,C,e1,e2⟩=>?_]
 obtain ⟨i,h1,h2,e3⟩:=zip_ix hm
 cases e3
 have hr:=hok _ (List.getElem_mem h1)
 obtain ⟨A0,A',A1,e4,e5,ha',ht⟩:=((hP i h1 h2).2 h0).2.2.1
 have l1:=ha.len' hr
 have l2:=ha'.len' hr
 rw [e4,List.append_assoc,List.append_assoc] at e1
 obtain ⟨_,e6⟩:=List.append_inj e1 (by omega)
 obtain ⟨e7,_⟩:=List.append_inj e6 (by omega)
 rw [<- e7];exact ht
end
def prfRow (N:Nat) (p:Prf):Row:=.fact N (fun b=>slSup N p.sa (p.st.map qV) b∨slSup N p.ca (p.cl.map qV) b) (fun w=>PrfAt w p) fun w w' h hw=>⟨slKeep w w' (fun b hb=>h b (hb.imp id .inl)) hw.1,slKeep w w' (fun b hb=>h b (hb.imp id .inr)) hw.2⟩
def prfsRow (N:Nat) (a:Option Addr) (L:List Prf):Row:=.fact N (fun b=>slSup N a (L.map prV) b∨∃ p∈L,slSup N p.sa (p.st.map qV) b∨slSup N p.ca (p.cl.map qV) b) (fun w=>PrfsAt w a L) fun w w' h hw=>⟨slKeep w w' (fun b hb=>h b (hb.imp id .inl)) hw.1,fun p hp=>⟨slKeep w w' (fun b hb=>h b (hb.imp id fun hb=>.inr ⟨p,hp,.inl hb⟩)) (hw.2 p hp).1,slKeep w w' (fun b hb=>h b (hb.imp id fun hb=>.inr ⟨p,hp,.inr hb⟩)) (hw.2 p hp).2⟩⟩
theorem Sat.prf {w0 w:World}{M:List Row}{N:Nat}{p:Prf} (h:Sat w0 M w) (hm:prfRow N p∈M):PrfAt w p:=h.hold _ hm
theorem Sat.prfs {w0 w:World}{M:List Row}{N:Nat}{a:Option Addr}{L:List Prf} (h:Sat w0 M w) (hm:prfsRow N a L∈M):PrfsAt w a L:=h.hold _ hm
def FrP (N:Nat) (p:Prf):Prop:=(∀ q,p.sa=some q->N<=q.block)/\∀ q,p.ca=some q->N<=q.block
theorem FrP.mono {N N':Nat}{p:Prf} (h:FrP N p) (hn:N'<=N):FrP N' p:=⟨fun q hq=>Nat.le_trans hn (h.1 q hq),fun q hq=>Nat.le_trans hn (h.2 q hq)⟩
def prf0:Prf:=⟨[],[],none,0,none,0⟩
theorem J.prf0 {C:Ctx}{st:List (Nat×Value)}{M:List Row}{k:List Item} (h:J C st (prfRow C.w0.heap.size prf0::M) k):J C st M k:=.mk fun a w hf hd hw=>h.go a w hf hd (hw.addFact (Nat.le_refl _) ⟨SlAt.nil,SlAt.nil⟩ fun b hb=>by
 rcases hb with ⟨h,_⟩|⟨h,_⟩<;>exact absurd h (Nat.lt_irrefl _))
section
variable {C:Ctx}{st:List (Nat×Value)}{M:List Row}{k:List Item}{q q':Md}{all rest:List Oper}{d:Nat}{ty:TypeId}{pos:String}{after:Array Edge}{gd:Option (Nat×Bool)}
theorem G.cPr {X:Type} (pf:X->Prf) {g:FuncId}{args:List Operand}{vs:List Value}{at_:Array TypeId} (v:X->Value) (ha:evL st args=some vs) (hs:sideB all st gd d C.N q.ext=some q') [hF:Fun C.P g]
  (hc:∀ w,Sat C.w0 M w->Calls C.P g vs.toArray w fun e w'=>∃ x,e=.returned (v x)/\PrfAt w' (pf x)/\(∀ p,(pf x).sa=some p->w.heap.size<=p.block)/\(∀ p,(pf x).ca=some p->w.heap.size<=p.block)/\Below w.heap.size w w')
  (h:∀ x,FrP C.w0.heap.size (pf x)->G q' C all ((d,v x)::st) (prfRow C.w0.heap.size (pf x)::M) rest k) :
  G q C all st M ({ dst:=some d,op:=.call { callee:=.value (.func g),args:=args.toArray,argTypes:=at_ },type:=ty,pos,after,guard:=gd }::rest) k:=by
 obtain ⟨g1,g2,g3⟩:=sideB_ok hs
 refine G.call0 (X:={ x:X // FrP C.w0.heap.size (pf x) }) (v:=fun x=>v x.1) (Mn:=fun x=>[prfRow C.w0.heap.size (pf x.1)]) g1 g2 g3 ha (fun w hw=>(hc w hw).mono fun e w' he=>?_) fun x=>h x.1 x.2
 obtain ⟨x,rfl,h1,h2,h3,h4⟩:=he
 refine ⟨⟨x,fun p hp=>Nat.le_trans hw.size (h2 p hp),fun p hp=>Nat.le_trans hw.size (h3 p hp)⟩,rfl,(hw.ext h4).addFact (Nat.le_refl _) h1 fun b hb=>?_⟩
 rcases hb with hb|hb
 ·exact hw.supN h1.1 h2 hb
 ·exact hw.supN h1.2 h3 hb
theorem G.cPv {X:Type}{g:FuncId}{args:List Operand}{vs:List Value}{at_:Array TypeId} (v:X->Value) (ad:X->Option Addr) (L:X->List (List Value)) (pa:X->Option Addr) (ps:X->List Prf) (ha:evL st args=some vs) (hs:sideB all st gd d C.N q.ext=some q') [hF:Fun C.P g]
  (hc:∀ w,Sat C.w0 M w->Calls C.P g vs.toArray w fun e w'=>∃ x,e=.returned (v x)/\(SlAt w' (ad x) 1 (L x)/\∀ p,ad x=some p->w.heap.size<=p.block)/\(PrfsAt w' (pa x) (ps x)/\(∀ p,pa x=some p->w.heap.size<=p.block)/\∀ p∈ps x,FrP w.heap.size p)/\Below w.heap.size w w')
  (h:∀ x,(∀ p,ad x=some p->C.w0.heap.size<=p.block)->(∀ p,pa x=some p->C.w0.heap.size<=p.block)->(∀ p∈ps x,FrP C.w0.heap.size p)->G q' C all ((d,v x)::st) (slRow C.w0.heap.size (ad x) 1 (L x)::prfsRow C.w0.heap.size (pa x) (ps x)::M) rest k) :
  G q C all st M ({ dst:=some d,op:=.call { callee:=.value (.func g),args:=args.toArray,argTypes:=at_ },type:=ty,pos,after,guard:=gd }::rest) k:=by
 obtain ⟨g1,g2,g3⟩:=sideB_ok hs
 refine G.call0 (X:={ x:X // (∀ p,ad x=some p->C.w0.heap.size<=p.block)/\(∀ p,pa x=some p->C.w0.heap.size<=p.block)/\∀ p∈ps x,FrP C.w0.heap.size p }) (v:=fun x=>v x.1) (Mn:=fun x=>[slRow C.w0.heap.size (ad x.1) 1 (L x.1),prfsRow C.w0.heap.size (pa x.1) (ps x.1)]) g1 g2 g3 ha (fun w hw=>(hc w hw).mono fun e w' he=>?_) fun x=>h x.1 x.2.1 x.2.2.1 x.2.2.2
 obtain ⟨x,rfl,⟨h1,h2⟩,⟨h3,h4,h5⟩,h6⟩:=he
 have k1:Sat C.w0 (prfsRow C.w0.heap.size (pa x) (ps x)::M) w':=(hw.ext h6).addFact (Nat.le_refl _) h3 fun b hb=>by
  rcases hb with hb|⟨p,hp,hb|hb⟩
  ·exact hw.supN h3.1 h4 hb
  ·exact hw.supN (h3.2 p hp).1 (h5 p hp).1 hb
  ·exact hw.supN (h3.2 p hp).2 (h5 p hp).2 hb
 refine ⟨⟨x,fun p hp=>Nat.le_trans hw.size (h2 p hp),fun p hp=>Nat.le_trans hw.size (h4 p hp),fun p hp=>(h5 p hp).mono hw.size⟩,rfl,k1.addFact (Nat.le_refl _) h1 fun b hb=>?_⟩
 obtain ⟨a1,a2,a3⟩:=hw.supN h1 h2 hb
 refine ⟨a1,a2,fun r hr=>?_⟩
 rcases List.mem_cons.1 hr with rfl|hr
 ·exact fun h=>h
 ·exact a3 r hr
end
abbrev PotT (t:Bool) (r:Rn) (l:List Spn) (A:List Int):Type:={ x:(Nat->Rat)×(Option Addr×Nat)×(Option Addr×Nat) // (∃ pi,PotS t r l A pi x.1)/\PotE t r l A x.1 }
def potX {t:Bool}{r:Rn}{l:List Spn}{A:List Int} (x:PotT t r l A):Prf:=potP t r l x.1.1 x.1.2.1.1 x.1.2.1.2 x.1.2.2.1 x.1.2.2.2
abbrev PrvT (t:Bool) (rs:List Rn) (l:List Spn):Type:={ x:EndT t rs l×(List Prf×Option Addr×Nat) // x.2.1.length=rs.length/\∀ i (h1:i < rs.length) (h2:i < x.2.1.length),PrO t l (f0R rs) x.1.1.1 rs[i] x.2.1[i] }
def prvV {t:Bool}{rs:List Rn}{l:List Spn} (x:PrvT t rs l):Value:=.tuple #[qA (endQ x.1.1),endH x.1.1,.slice x.1.2.2.1 rs.length x.1.2.2.2,.int .i64 0]
def PrvAt (w w':World) {t:Bool}{rs:List Rn}{l:List Spn} (x:PrvT t rs l):Prop:=(SlAt w' x.1.1.1.2 1 (x.1.1.1.1.map isV)/\∀ p,x.1.1.1.2=some p->w.heap.size<=p.block)/\(PrfsAt w' x.1.2.2.1 x.1.2.1/\(∀ p,x.1.2.2.1=some p->w.heap.size<=p.block)/\∀ p∈x.1.2.1,FrP w.heap.size p)/\Below w.heap.size w w'
theorem provefalse_bad (a:Option Addr) (rs:List Rn) (c:Nat) (b:Option Addr) (l:List Spn) (d:Nat) (w:World) (hA:RunsAt w a rs) (hB:SpansAt w b l) (hM:Mod rs l) (h0:chkE rs l≠0) :
  Calls Tryz.prog 66 #[.slice a rs.length c,.slice b l.length d,.bool false] w fun e w'=>e=.returned (.tuple #[.agg #[.bool false,.string (bs []),.string (bs [])],.agg #[.int .i64 0,.slice none 0 0],.slice none 0 0,.int .i64 (chkE rs l)])/\Below w.heap.size w w':=by
 have he:=fun w' (hb:Below w.heap.size w w')=>least_bad a rs c b l d w' (hA.below hb) (hB.below hb) hM h0
 generalize chkE rs l=E at *
 clear hA hB hM
 refine enterA [(0,.slice a rs.length c),(1,.slice b l.length d),(2,.bool false)] Tryz.func66 Tryz.ntmps66 ?_
 repeat' first|(refine gp ?_;and_intros<;>first|exact trivial|repeat first|intro(Bk:Nat)|intro h)|(apply G.cF (g:=64);rfl;rfl;rfl;exact fun w' hw=>he w' hw.below)|fail
 refine ret4 Tryz.func66 Tryz.results66 ?_
 intro w' hw
 exact ⟨rfl,hw.below⟩
set_option maxHeartbeats 8000000 in
theorem provefalse_ok (a:Option Addr) (rs:List Rn) (c:Nat) (b:Option Addr) (l:List Spn) (d:Nat) (w:World) (hA:RunsAt w a rs) (hB:SpansAt w b l) (hM:Mod rs l) (h0:chkE rs l=0) :
  Calls Tryz.prog 66 #[.slice a rs.length c,.slice b l.length d,.bool false] w fun e w'=>∃ x:PrvT false rs l,e=.returned (prvV x)/\PrvAt w w' x:=by
 obtain ⟨hio,hl4,hR,hrl,hok⟩:=chk_facts h0
 obtain ⟨eN,hcn⟩:=best_cn (chk_ok h0).1
 have htk:=tickN_le (chk_ok h0).1
 have htc:=tickN_cn hcn hok
 have he:=fun w' (hb:Below w.heap.size w w')=>least_ok a rs c b l d w' (hA.below hb) (hB.below hb) hM h0
 have hcl:=fun k (hk:k < rs.length) w' (hb:Below w.heap.size w w')=>vClasses_holds a rs c b l d k w' (hA.below hb) hM.tab (hB.below hb) hM.few h0 hk
 refine enterA [(0,.slice a rs.length c),(1,.slice b l.length d),(2,.bool false)] Tryz.func66 Tryz.ntmps66 ?_
 repeat' first|(refine gp ?_;and_intros<;>first|exact trivial|repeat first|intro(Bk:Nat)|intro h)|(refine G.cHf (g:=64) (sz:=1) (fun x=>.tuple #[qA (endQ x),endH x,.int .i64 0]) (fun x=>x.1.2) (fun x=>x.1.1.map isV) rfl rfl rfl (fun w' hw=>he w' hw.below) ?_;intro x hx1;generalize hq:endQ x=q;obtain ⟨n1,u1,d1⟩:=q;dsimp only [qA];unfold endH)|fail
 obtain ⟨⟨S,ha⟩,hbs⟩:=x
 dsimp only at hbs hx1 ⊢
 have hSl:S.length<=1000000:=by
  have:=hbs.ag.len hcn hok
  omega
 rename_i B6 B7 B11
 obtain ⟨B12,rfl⟩:∃ x,x=Bk:=⟨_,rfl⟩
 apply J.nilOwn (E:=63) (size:=2)
 refine J.loop (c:=_) ((0,.slice none 0 0,[]):Nat×Value×List Prf) (fun x=>rs.length-x.1) (fun x=>[(0,.slice a rs.length c),(1,.slice b l.length d),(2,.bool false),(6,.pointer (some ⟨B6,0,none⟩)),(7,.pointer (some ⟨B7,0,none⟩)),(11,.pointer (some ⟨B11,0,none⟩)),(12,.pointer (some ⟨B12,0,none⟩)),(14,x.2.1),(33,.slice a rs.length c),(34,.int .i64 rs.length),(35,.int .i64 x.1)]) (fun x=>.own 0 x.2.1 63 2 x.1 (flat prV x.2.2)::.blk B12 30 [.int .i64 (f0R rs),.slice ha S.length S.length] 2::.blk B11 25 [.bool n1,.string (bs u1),.string (bs d1)] 3::slRow w.heap.size ha 1 (S.map isV)::.blk B7 30 [.int .i64 0,.slice none 0 0] 2::.blk B6 25 [.bool false,.string (bs []),.string (bs [])] 3::(rws (prfRow w.heap.size) x.2.2++[])) (fun x=>x.1<=rs.length/\x.2.2.length=x.1/\(∀ p∈x.2.2,FrP w.heap.size p)/\∀ i (h1:i < rs.length) (h2:i < x.2.2.length),PrO false l (f0R rs) S rs[i] x.2.2[i]) ?_ sbT sbL ?_
 ·exact ⟨Nat.zero_le _,rfl,fun p hp=>absurd hp List.not_mem_nil,fun i _ h=>absurd h (Nat.not_lt_zero _)⟩
 intro ⟨k,v,ps⟩ ⟨hkn,hpl,hpf,hpo⟩ ihk
 dsimp only at hkn hpl hpf hpo ⊢
 by_cases hkk:k < rs.length
 ·obtain ⟨ba,oa,rfl,hra⟩:=SlAt.all hA.1 (by omega)
  have hrk:=hra k hkk
  have hmr:=List.getElem_mem hkk
  have hTk:=hA.2 _ hmr
  have hr:=hok _ hmr
  have hcl:=hcl k hkk
  have hnc:=hM.cls h0 _ hmr
  have htb:=hM.tab _ hmr
  have hf:=hM.few
  obtain ⟨A0,A,A1,hS,hbr,hfr⟩:=best_at hcn hok hbs hkk
  have hkl:=hM.len
  have ihN:=fun v' (p:Prf) (h1:FrP w.heap.size p) (h2:PrO false l (f0R rs) S rs[k] p)=>ihk (k+1,v',ps++[p]) ⟨hkk,by simp [hpl],fun q hq=>by
   rcases List.mem_append.1 hq with hq|hq
   ·exact hpf q hq
   ·rw [List.mem_singleton.1 hq];exact h1,fun i h3 h4=>by
   dsimp only at h4 ⊢
   by_cases e:i < ps.length
   ·rw [List.getElem_append_left e];exact hpo i h3 e
   ·rw [List.length_append,List.length_singleton] at h4
    obtain rfl:i=ps.length:=by omega
    rw [List.getElem_concat_length rfl]
    simp only [hpl];exact h2⟩ (by dsimp only;omega)
  dsimp only at ihN
  clear hra hmr hA hM hpf hpo ihk he hok
  generalize rs[k]=r at *
  dsimp only [rnV] at hrk
  have hcn0:=clsE_len hio hr.rng.2.1
  by_cases h0t:r.tab.length=0
  ·have ihN:=fun v'=>ihN v' prf0 ⟨fun q hq=>(by cases hq),fun q hq=>(by cases hq)⟩ ⟨fun _=>⟨rfl,rfl⟩,fun h=>absurd h0t h⟩
   have hcat:flat prV ps++[.slice none 0 0,.slice none 0 0]=flat prV (ps++[prf0]):=(flat_snoc1 (f:=prV) ps prf0).symm
   repeat' first|(refine gp ?_;and_intros<;>first|exact trivial|repeat first|intro(Bk:Nat)|intro h)|(apply G.sliceL;rfl;rfl;rfl;rfl;rfl;rfl;rfl;rfl;intro Bs)|(apply G.ap;rfl;rfl;rfl;(repeat (first|exact RAt.head|apply RAt.tail));exact SrcV.blk (by exact mm) rfl rfl;exact hcat;omega;omega;intro v2)|fail
   apply J.prf0
   refine J.sel (T:=prfRow w.heap.size prf0::(.own 0 v2 63 2 (k+1) (flat prV (ps++[prf0]))::.blk B12 30 [.int .i64 (f0R rs),.slice ha S.length S.length] 2::.blk B11 25 [.bool n1,.string (bs u1),.string (bs d1)] 3::slRow w.heap.size ha 1 (S.map isV)::.blk B7 30 [.int .i64 0,.slice none 0 0] 2::.blk B6 25 [.bool false,.string (bs []),.string (bs [])] 3::(rws (prfRow w.heap.size) ps++[]))) ?_
   refine J.tabSnoc (F:=prfRow w.heap.size) (T:=ps) (.own 0 v2 63 2 (k+1) (flat prV (ps++[prf0]))::.blk B12 30 [.int .i64 (f0R rs),.slice ha S.length S.length] 2::.blk B11 25 [.bool n1,.string (bs u1),.string (bs d1)] 3::slRow w.heap.size ha 1 (S.map isV)::.blk B7 30 [.int .i64 0,.slice none 0 0] 2::.blk B6 25 [.bool false,.string (bs []),.string (bs [])] 3::[]) prf0 ?_
   exact J.fin (ihN v2)
  ·have hdir:=fun w'=>dir_holds false w'
   have hpt:=fun kb ko kc (M:List Row) w' (hw':Sat w M w') (h1:slRow w.heap.size ha 1 (S.map isV)∈M) (h2:slRow w.heap.size (some ⟨kb,ko,none⟩) 2 ((clsE r l).map hoV)∈M)=>pot_holds false r b l d (some ⟨kb,ko,none⟩) kc (f0R rs) ha S S.length A0 A A1 w' (hB.below hw'.below) hf hR hio hl4 (hw'.sl h2) (hTk.below hw'.below) (hw'.sl h1) hS hfr hSl hr h0t hbr hnc htb
   have hpp:=fun (sa ca:Option Addr) (sc cc:Nat) vv pi (hP:PotS false r l A pi vv) (hE:PotE false r l A vv)=>pro_pot (rs:=rs) (f:=f0R rs) (sa:=sa) (sc:=sc) (ca:=ca) (cc:=cc) hf hR hio hr h0t hnc htb hS hfr hbr hP hE
   unfold rnA at hpt
   have hcat:∀ vv sa sc ca cc,flat prV ps++[.slice sa r.tab.length sc,.slice ca (clsE r l).length cc]=flat prV (ps++[potP false r l vv sa sc ca cc]):=fun vv sa sc ca cc=>by
    rw [flat_snoc1]
    congr 1
    unfold prV potP
    simp only [List.length_map,List.length_range]
   repeat' first|(refine gp ?_;and_intros<;>first|exact trivial|repeat first|intro(Bk:Nat)|intro h)|(refine G.cL (g:=37) (sz:=2) (f:=hoV) (fun v=>.tuple #[v,.int .i64 0]) (clsE r l) rfl rfl (fun w' hw=>(hcl w' hw.below).mono fun e w2 hh=>?_) ?_;exact hh;intro ka kc hp1 hp2;clear hp2;obtain ⟨kb,ko,rfl⟩:=hp1 hcn0)|(apply J.regA (.q 0 <| .q 1 <| .q 2 <| .q 3 <| .q 4 <| .q 5 <| .q 6 <| .r 7 <| .r 8 <| .r 9 <| .q 10 <| .nil);exact Tryz.mixed;decide +kernel)|(apply G.cV (g:=39);rfl;rfl;exact fun w' _=>hdir w')|(refine G.cPr (g:=112) (X:=PotT false r l A) potX (fun x=>prA (potX x)) rfl rfl (fun w' hw'=>hpt kb ko kc _ w' hw' mm mm) ?_;rintro ⟨⟨vv,⟨sa,sc⟩,⟨ca,cc⟩⟩,⟨pi,hPS⟩,hPE⟩ hfp;dsimp only [potX] at hPS hPE hfp ⊢;rw [potP_A])|(apply G.sliceL;rfl;rfl;rfl;rfl;rfl;rfl;rfl;rfl;intro Bs)|(apply G.ap;rfl;rfl;rfl;(repeat (first|exact RAt.head|apply RAt.tail));exact SrcV.blk (by exact mm) rfl rfl;exact hcat vv sa sc ca cc;omega;omega;intro v2)|fail
   refine J.sel (T:=prfRow w.heap.size (potP false r l vv sa sc ca cc)::(.own 0 v2 63 2 (k+1) (flat prV (ps++[potP false r l vv sa sc ca cc]))::.blk B12 30 [.int .i64 (f0R rs),.slice ha S.length S.length] 2::.blk B11 25 [.bool n1,.string (bs u1),.string (bs d1)] 3::slRow w.heap.size ha 1 (S.map isV)::.blk B7 30 [.int .i64 0,.slice none 0 0] 2::.blk B6 25 [.bool false,.string (bs []),.string (bs [])] 3::(rws (prfRow w.heap.size) ps++[]))) ?_
   refine J.tabSnoc (F:=prfRow w.heap.size) (T:=ps) (.own 0 v2 63 2 (k+1) (flat prV (ps++[potP false r l vv sa sc ca cc]))::.blk B12 30 [.int .i64 (f0R rs),.slice ha S.length S.length] 2::.blk B11 25 [.bool n1,.string (bs u1),.string (bs d1)] 3::slRow w.heap.size ha 1 (S.map isV)::.blk B7 30 [.int .i64 0,.slice none 0 0] 2::.blk B6 25 [.bool false,.string (bs []),.string (bs [])] 3::[]) (potP false r l vv sa sc ca cc) ?_
   exact J.fin (ihN v2 _ hfp (hpp sa ca sc cc vv pi hPS hPE))
 ·obtain rfl:k=rs.length:=by omega
  clear ihk
  all_goals (refine goR ?_;and_intros<;>(try exact trivial)<;>repeat (first|refine fun (Bk:Nat)=>?_|intro h))
  repeat' ((first|(refine J.regS _ (.q 0 <| .q 1 <| .q 2 <| .e 3 <| .r 4 <| .q 5 <| .q 6 <| .nil) Tryz.mixed (by decide +kernel) (List.Sublist.cons _ (List.Sublist.cons_cons _ (List.Sublist.cons_cons _ (List.nil_sublist _)))) ?_)|(apply G.sAS (vs:=[.bool n1,.string (bs u1),.string (bs d1)]) (out:=[.bool n1,.string (bs u1),.string (bs d1)]);rfl;rfl;rfl;rfl;(repeat (first|exact RAt.head|apply RAt.tail));rfl;rfl;(dsimp only [List.length_cons,List.length_nil];omega);rfl;(repeat' (first|exact List.nil_sublist _|exact List.Sublist.refl _|apply List.Sublist.cons_cons|apply List.Sublist.cons)))|fail|(apply J.regQ;exact Tryz.mixed;decide +kernel)|(apply J.regL';exact Tryz.mixed;decide +kernel))<;>(refine goR ?_;and_intros<;>(try exact trivial)<;>repeat (first|refine fun (Bk:Nat)=>?_|intro h)))
  refine ret4 Tryz.func66 Tryz.results66 ?_
  intro w' hw
  obtain ⟨pa,pc,hv⟩:=hw.ownForm (v:=v) mm
  subst hv
  refine ⟨⟨(⟨(S,ha),hbs⟩,(ps,pa,pc)),hpl,hpo⟩,?_,⟨hw.sl mm,hx1⟩,⟨⟨?_,fun p hp=>?_⟩,?_,hpf⟩,hw.below⟩
  ·unfold prvV
   rw [hq];rfl
  ·exact SlAt.ofOwn (f:=prV) (fun _=>rfl) (hw.hold (.own 0 (.slice pa rs.length pc) 63 2 rs.length (flat prV ps)) mm) hpl
  ·obtain ⟨i,hi,rfl⟩:=List.mem_iff_getElem.1 hp
   have hm:=rws_mem (F:=prfRow w.heap.size) (T:=ps) (M0:=[]) hi
   exact Sat.prf hw (by (repeat (first|exact hm|apply List.Mem.tail)))
  ·intro p hp
   exact ((hw.old (.own 0 (.slice pa rs.length pc) 63 2 rs.length (flat prV ps)) mm).2 p.block (by dsimp only at hp;subst hp;rfl)).1
theorem provetrue_bad (a:Option Addr) (rs:List Rn) (c:Nat) (b:Option Addr) (l:List Spn) (d:Nat) (w:World) (hA:RunsAt w a rs) (hB:SpansAt w b l) (hM:Mod rs l) (h0:chkE rs l≠0) :
  Calls Tryz.prog 66 #[.slice a rs.length c,.slice b l.length d,.bool true] w fun e w'=>e=.returned (.tuple #[.agg #[.bool false,.string (bs []),.string (bs [])],.agg #[.int .i64 0,.slice none 0 0],.slice none 0 0,.int .i64 (chkE rs l)])/\Below w.heap.size w w':=by
 have he:=fun w' (hb:Below w.heap.size w w')=>most_bad a rs c b l d w' (hA.below hb) (hB.below hb) hM h0
 generalize chkE rs l=E at *
 clear hA hB hM
 refine enterA [(0,.slice a rs.length c),(1,.slice b l.length d),(2,.bool true)] Tryz.func66 Tryz.ntmps66 ?_
 repeat' first|(refine gp ?_;and_intros<;>first|exact trivial|repeat first|intro(Bk:Nat)|intro h)|(apply G.cF (g:=65);rfl;rfl;rfl;exact fun w' hw=>he w' hw.below)|fail
 refine ret4 Tryz.func66 Tryz.results66 ?_
 intro w' hw
 exact ⟨rfl,hw.below⟩
set_option maxHeartbeats 8000000 in
theorem provetrue_ok (a:Option Addr) (rs:List Rn) (c:Nat) (b:Option Addr) (l:List Spn) (d:Nat) (w:World) (hA:RunsAt w a rs) (hB:SpansAt w b l) (hM:Mod rs l) (h0:chkE rs l=0) :
  Calls Tryz.prog 66 #[.slice a rs.length c,.slice b l.length d,.bool true] w fun e w'=>∃ x:PrvT true rs l,e=.returned (prvV x)/\PrvAt w w' x:=by
 obtain ⟨hio,hl4,hR,hrl,hok⟩:=chk_facts h0
 obtain ⟨eN,hcn⟩:=best_cn (chk_ok h0).1
 have htk:=tickN_le (chk_ok h0).1
 have htc:=tickN_cn hcn hok
 have he:=fun w' (hb:Below w.heap.size w w')=>most_ok a rs c b l d w' (hA.below hb) (hB.below hb) hM h0
 have hcl:=fun k (hk:k < rs.length) w' (hb:Below w.heap.size w w')=>vClasses_holds a rs c b l d k w' (hA.below hb) hM.tab (hB.below hb) hM.few h0 hk
 refine enterA [(0,.slice a rs.length c),(1,.slice b l.length d),(2,.bool true)] Tryz.func66 Tryz.ntmps66 ?_
 repeat' first|(refine gp ?_;and_intros<;>first|exact trivial|repeat first|intro(Bk:Nat)|intro h)|(refine G.cHf (g:=65) (sz:=1) (fun x=>.tuple #[qA (endQ x),endH x,.int .i64 0]) (fun x=>x.1.2) (fun x=>x.1.1.map isV) rfl rfl rfl (fun w' hw=>he w' hw.below) ?_;intro x hx1;generalize hq:endQ x=q;obtain ⟨n1,u1,d1⟩:=q;dsimp only [qA];unfold endH)|fail
 obtain ⟨⟨S,ha⟩,hbs⟩:=x
 dsimp only at hbs hx1 ⊢
 have hSl:S.length<=1000000:=by
  have:=hbs.ag.len hcn hok
  omega
 rename_i B6 B7 B11
 obtain ⟨B12,rfl⟩:∃ x,x=Bk:=⟨_,rfl⟩
 apply J.nilOwn (E:=63) (size:=2)
 refine J.loop (c:=_) ((0,.slice none 0 0,[]):Nat×Value×List Prf) (fun x=>rs.length-x.1) (fun x=>[(0,.slice a rs.length c),(1,.slice b l.length d),(2,.bool true),(6,.pointer (some ⟨B6,0,none⟩)),(7,.pointer (some ⟨B7,0,none⟩)),(11,.pointer (some ⟨B11,0,none⟩)),(12,.pointer (some ⟨B12,0,none⟩)),(14,x.2.1),(33,.slice a rs.length c),(34,.int .i64 rs.length),(35,.int .i64 x.1)]) (fun x=>.own 0 x.2.1 63 2 x.1 (flat prV x.2.2)::.blk B12 30 [.int .i64 (f0R rs),.slice ha S.length S.length] 2::.blk B11 25 [.bool n1,.string (bs u1),.string (bs d1)] 3::slRow w.heap.size ha 1 (S.map isV)::.blk B7 30 [.int .i64 0,.slice none 0 0] 2::.blk B6 25 [.bool false,.string (bs []),.string (bs [])] 3::(rws (prfRow w.heap.size) x.2.2++[])) (fun x=>x.1<=rs.length/\x.2.2.length=x.1/\(∀ p∈x.2.2,FrP w.heap.size p)/\∀ i (h1:i < rs.length) (h2:i < x.2.2.length),PrO true l (f0R rs) S rs[i] x.2.2[i]) ?_ sbT sbL ?_
 ·exact ⟨Nat.zero_le _,rfl,fun p hp=>absurd hp List.not_mem_nil,fun i _ h=>absurd h (Nat.not_lt_zero _)⟩
 intro ⟨k,v,ps⟩ ⟨hkn,hpl,hpf,hpo⟩ ihk
 dsimp only at hkn hpl hpf hpo ⊢
 by_cases hkk:k < rs.length
 ·obtain ⟨ba,oa,rfl,hra⟩:=SlAt.all hA.1 (by omega)
  have hrk:=hra k hkk
  have hmr:=List.getElem_mem hkk
  have hTk:=hA.2 _ hmr
  have hr:=hok _ hmr
  have hcl:=hcl k hkk
  have hnc:=hM.cls h0 _ hmr
  have htb:=hM.tab _ hmr
  have hf:=hM.few
  obtain ⟨A0,A,A1,hS,hbr,hfr⟩:=best_at hcn hok hbs hkk
  have hkl:=hM.len
  have ihN:=fun v' (p:Prf) (h1:FrP w.heap.size p) (h2:PrO true l (f0R rs) S rs[k] p)=>ihk (k+1,v',ps++[p]) ⟨hkk,by simp [hpl],fun q hq=>by
   rcases List.mem_append.1 hq with hq|hq
   ·exact hpf q hq
   ·rw [List.mem_singleton.1 hq];exact h1,fun i h3 h4=>by
   dsimp only at h4 ⊢
   by_cases e:i < ps.length
   ·rw [List.getElem_append_left e];exact hpo i h3 e
   ·rw [List.length_append,List.length_singleton] at h4
    obtain rfl:i=ps.length:=by omega
    rw [List.getElem_concat_length rfl]
    simp only [hpl];exact h2⟩ (by dsimp only;omega)
  dsimp only at ihN
  clear hra hmr hA hM hpf hpo ihk he hok
  generalize rs[k]=r at *
  dsimp only [rnV] at hrk
  have hcn0:=clsE_len hio hr.rng.2.1
  by_cases h0t:r.tab.length=0
  ·have ihN:=fun v'=>ihN v' prf0 ⟨fun q hq=>(by cases hq),fun q hq=>(by cases hq)⟩ ⟨fun _=>⟨rfl,rfl⟩,fun h=>absurd h0t h⟩
   have hcat:flat prV ps++[.slice none 0 0,.slice none 0 0]=flat prV (ps++[prf0]):=(flat_snoc1 (f:=prV) ps prf0).symm
   repeat' first|(refine gp ?_;and_intros<;>first|exact trivial|repeat first|intro(Bk:Nat)|intro h)|(apply G.sliceL;rfl;rfl;rfl;rfl;rfl;rfl;rfl;rfl;intro Bs)|(apply G.ap;rfl;rfl;rfl;(repeat (first|exact RAt.head|apply RAt.tail));exact SrcV.blk (by exact mm) rfl rfl;exact hcat;omega;omega;intro v2)|fail
   apply J.prf0
   refine J.sel (T:=prfRow w.heap.size prf0::(.own 0 v2 63 2 (k+1) (flat prV (ps++[prf0]))::.blk B12 30 [.int .i64 (f0R rs),.slice ha S.length S.length] 2::.blk B11 25 [.bool n1,.string (bs u1),.string (bs d1)] 3::slRow w.heap.size ha 1 (S.map isV)::.blk B7 30 [.int .i64 0,.slice none 0 0] 2::.blk B6 25 [.bool false,.string (bs []),.string (bs [])] 3::(rws (prfRow w.heap.size) ps++[]))) ?_
   refine J.tabSnoc (F:=prfRow w.heap.size) (T:=ps) (.own 0 v2 63 2 (k+1) (flat prV (ps++[prf0]))::.blk B12 30 [.int .i64 (f0R rs),.slice ha S.length S.length] 2::.blk B11 25 [.bool n1,.string (bs u1),.string (bs d1)] 3::slRow w.heap.size ha 1 (S.map isV)::.blk B7 30 [.int .i64 0,.slice none 0 0] 2::.blk B6 25 [.bool false,.string (bs []),.string (bs [])] 3::[]) prf0 ?_
   exact J.fin (ihN v2)
  ·have hdir:=fun w'=>dir_holds true w'
   have hpt:=fun kb ko kc (M:List Row) w' (hw':Sat w M w') (h1:slRow w.heap.size ha 1 (S.map isV)∈M) (h2:slRow w.heap.size (some ⟨kb,ko,none⟩) 2 ((clsE r l).map hoV)∈M)=>pot_holds true r b l d (some ⟨kb,ko,none⟩) kc (f0R rs) ha S S.length A0 A A1 w' (hB.below hw'.below) hf hR hio hl4 (hw'.sl h2) (hTk.below hw'.below) (hw'.sl h1) hS hfr hSl hr h0t hbr hnc htb
   have hpp:=fun (sa ca:Option Addr) (sc cc:Nat) vv pi (hP:PotS true r l A pi vv) (hE:PotE true r l A vv)=>pro_pot (rs:=rs) (f:=f0R rs) (sa:=sa) (sc:=sc) (ca:=ca) (cc:=cc) hf hR hio hr h0t hnc htb hS hfr hbr hP hE
   unfold rnA at hpt
   have hcat:∀ vv sa sc ca cc,flat prV ps++[.slice sa r.tab.length sc,.slice ca (clsE r l).length cc]=flat prV (ps++[potP true r l vv sa sc ca cc]):=fun vv sa sc ca cc=>by
    rw [flat_snoc1]
    congr 1
    unfold prV potP
    simp only [List.length_map,List.length_range]
   repeat' first|(refine gp ?_;and_intros<;>first|exact trivial|repeat first|intro(Bk:Nat)|intro h)|(refine G.cL (g:=37) (sz:=2) (f:=hoV) (fun v=>.tuple #[v,.int .i64 0]) (clsE r l) rfl rfl (fun w' hw=>(hcl w' hw.below).mono fun e w2 hh=>?_) ?_;exact hh;intro ka kc hp1 hp2;clear hp2;obtain ⟨kb,ko,rfl⟩:=hp1 hcn0)|(apply J.regA (.q 0 <| .q 1 <| .q 2 <| .q 3 <| .q 4 <| .q 5 <| .q 6 <| .r 7 <| .r 8 <| .r 9 <| .q 10 <| .nil);exact Tryz.mixed;decide +kernel)|(apply G.cV (g:=39);rfl;rfl;exact fun w' _=>hdir w')|(refine G.cPr (g:=112) (X:=PotT true r l A) potX (fun x=>prA (potX x)) rfl rfl (fun w' hw'=>hpt kb ko kc _ w' hw' mm mm) ?_;rintro ⟨⟨vv,⟨sa,sc⟩,⟨ca,cc⟩⟩,⟨pi,hPS⟩,hPE⟩ hfp;dsimp only [potX] at hPS hPE hfp ⊢;rw [potP_A])|(apply G.sliceL;rfl;rfl;rfl;rfl;rfl;rfl;rfl;rfl;intro Bs)|(apply G.ap;rfl;rfl;rfl;(repeat (first|exact RAt.head|apply RAt.tail));exact SrcV.blk (by exact mm) rfl rfl;exact hcat vv sa sc ca cc;omega;omega;intro v2)|fail
   refine J.sel (T:=prfRow w.heap.size (potP true r l vv sa sc ca cc)::(.own 0 v2 63 2 (k+1) (flat prV (ps++[potP true r l vv sa sc ca cc]))::.blk B12 30 [.int .i64 (f0R rs),.slice ha S.length S.length] 2::.blk B11 25 [.bool n1,.string (bs u1),.string (bs d1)] 3::slRow w.heap.size ha 1 (S.map isV)::.blk B7 30 [.int .i64 0,.slice none 0 0] 2::.blk B6 25 [.bool false,.string (bs []),.string (bs [])] 3::(rws (prfRow w.heap.size) ps++[]))) ?_
   refine J.tabSnoc (F:=prfRow w.heap.size) (T:=ps) (.own 0 v2 63 2 (k+1) (flat prV (ps++[potP true r l vv sa sc ca cc]))::.blk B12 30 [.int .i64 (f0R rs),.slice ha S.length S.length] 2::.blk B11 25 [.bool n1,.string (bs u1),.string (bs d1)] 3::slRow w.heap.size ha 1 (S.map isV)::.blk B7 30 [.int .i64 0,.slice none 0 0] 2::.blk B6 25 [.bool false,.string (bs []),.string (bs [])] 3::[]) (potP true r l vv sa sc ca cc) ?_
   exact J.fin (ihN v2 _ hfp (hpp sa ca sc cc vv pi hPS hPE))
 ·obtain rfl:k=rs.length:=by omega
  clear ihk
  all_goals (refine goR ?_;and_intros<;>(try exact trivial)<;>repeat (first|refine fun (Bk:Nat)=>?_|intro h))
  repeat' ((first|(refine J.regS _ (.q 0 <| .q 1 <| .q 2 <| .e 3 <| .r 4 <| .q 5 <| .q 6 <| .nil) Tryz.mixed (by decide +kernel) (List.Sublist.cons _ (List.Sublist.cons_cons _ (List.Sublist.cons_cons _ (List.nil_sublist _)))) ?_)|(apply G.sAS (vs:=[.bool n1,.string (bs u1),.string (bs d1)]) (out:=[.bool n1,.string (bs u1),.string (bs d1)]);rfl;rfl;rfl;rfl;(repeat (first|exact RAt.head|apply RAt.tail));rfl;rfl;(dsimp only [List.length_cons,List.length_nil];omega);rfl;(repeat' (first|exact List.nil_sublist _|exact List.Sublist.refl _|apply List.Sublist.cons_cons|apply List.Sublist.cons)))|fail|(apply J.regQ;exact Tryz.mixed;decide +kernel)|(apply J.regL';exact Tryz.mixed;decide +kernel))<;>(refine goR ?_;and_intros<;>(try exact trivial)<;>repeat (first|refine fun (Bk:Nat)=>?_|intro h)))
  refine ret4 Tryz.func66 Tryz.results66 ?_
  intro w' hw
  obtain ⟨pa,pc,hv⟩:=hw.ownForm (v:=v) mm
  subst hv
  refine ⟨⟨(⟨(S,ha),hbs⟩,(ps,pa,pc)),hpl,hpo⟩,?_,⟨hw.sl mm,hx1⟩,⟨⟨?_,fun p hp=>?_⟩,?_,hpf⟩,hw.below⟩
  ·unfold prvV
   rw [hq];rfl
  ·exact SlAt.ofOwn (f:=prV) (fun _=>rfl) (hw.hold (.own 0 (.slice pa rs.length pc) 63 2 rs.length (flat prV ps)) mm) hpl
  ·obtain ⟨i,hi,rfl⟩:=List.mem_iff_getElem.1 hp
   have hm:=rws_mem (F:=prfRow w.heap.size) (T:=ps) (M0:=[]) hi
   exact Sat.prf hw (by (repeat (first|exact hm|apply List.Mem.tail)))
  ·intro p hp
   exact ((hw.old (.own 0 (.slice pa rs.length pc) 63 2 rs.length (flat prV ps)) mm).2 p.block (by dsimp only at hp;subst hp;rfl)).1
theorem prove_bad (t:Bool) (a:Option Addr) (rs:List Rn) (c:Nat) (b:Option Addr) (l:List Spn) (d:Nat) (w:World) (hA:RunsAt w a rs) (hB:SpansAt w b l) (hM:Mod rs l) (h0:chkE rs l≠0) :
  Calls Tryz.prog 66 #[.slice a rs.length c,.slice b l.length d,.bool t] w fun e w'=>e=.returned (.tuple #[.agg #[.bool false,.string (bs []),.string (bs [])],.agg #[.int .i64 0,.slice none 0 0],.slice none 0 0,.int .i64 (chkE rs l)])/\Below w.heap.size w w':=by
 cases t
 ·exact provefalse_bad a rs c b l d w hA hB hM h0
 ·exact provetrue_bad a rs c b l d w hA hB hM h0
theorem prove_ok (t:Bool) (a:Option Addr) (rs:List Rn) (c:Nat) (b:Option Addr) (l:List Spn) (d:Nat) (w:World) (hA:RunsAt w a rs) (hB:SpansAt w b l) (hM:Mod rs l) (h0:chkE rs l=0) :
  Calls Tryz.prog 66 #[.slice a rs.length c,.slice b l.length d,.bool t] w fun e w'=>∃ x:PrvT t rs l,e=.returned (prvV x)/\PrvAt w w' x:=by
 cases t
 ·exact provefalse_ok a rs c b l d w hA hB hM h0
 ·exact provetrue_ok a rs c b l d w hA hB hM h0
theorem Prove_bad (t:Bool) (a:Option Addr) (rs:List Rn) (c:Nat) (b:Option Addr) (l:List Spn) (d:Nat) (w:World) (hA:RunsAt w a rs) (hB:SpansAt w b l) (hM:Mod rs l) (h0:chkE rs l≠0) :
  Calls Tryz.prog 24 #[.slice a rs.length c,.slice b l.length d,.bool t] w fun e w'=>e=.returned (.tuple #[.agg #[.bool false,.string (bs []),.string (bs [])],.slice none 0 0,.int .i64 (chkE rs l)])/\Below w.heap.size w w':=by
 have he:=fun w' (hb:Below w.heap.size w w')=>prove_bad t a rs c b l d w' (hA.below hb) (hB.below hb) hM h0
 generalize chkE rs l=E at *
 clear hA hB hM
 refine enterA [(0,.slice a rs.length c),(1,.slice b l.length d),(2,.bool t)] Tryz.func24 Tryz.ntmps24 ?_
 repeat' first|(refine gp ?_;and_intros<;>first|exact trivial|repeat first|intro(Bk:Nat)|intro h)|(apply G.cV (g:=66);rfl;rfl;exact fun w' hw=>he w' hw.below)|fail
 all_goals refine ret3b Tryz.func24 Tryz.results24 ?_
 all_goals rfl
theorem Prove_ok (t:Bool) (a:Option Addr) (rs:List Rn) (c:Nat) (b:Option Addr) (l:List Spn) (d:Nat) (w:World) (hA:RunsAt w a rs) (hB:SpansAt w b l) (hM:Mod rs l) (h0:chkE rs l=0) :
  Calls Tryz.prog 24 #[.slice a rs.length c,.slice b l.length d,.bool t] w fun e w'=>∃ x:PrvT t rs l,e=.returned (.tuple #[qA (endQ x.1.1),.slice x.1.2.2.1 rs.length x.1.2.2.2,.int .i64 0])/\PrvAt w w' x:=by
 have he:=fun w' (hb:Below w.heap.size w w')=>prove_ok t a rs c b l d w' (hA.below hb) (hB.below hb) hM h0
 clear hA hB hM h0
 refine enterA [(0,.slice a rs.length c),(1,.slice b l.length d),(2,.bool t)] Tryz.func24 Tryz.ntmps24 ?_
 repeat' first|(refine gp ?_;and_intros<;>first|exact trivial|repeat first|intro(Bk:Nat)|intro h)|(refine G.cPv (g:=66) (X:=PrvT t rs l) (fun x=>prvV x) (fun x=>x.1.1.1.2) (fun x=>x.1.1.1.1.map isV) (fun x=>x.1.2.2.1) (fun x=>x.1.2.1) rfl rfl (fun w' hw=>he w' hw.below) ?_;intro x hx1 hx2 hx3;unfold prvV;generalize hq:endQ x.1.1=q;obtain ⟨n1,u1,d1⟩:=q;dsimp only [qA];unfold endH)|fail
 (refine ret3 Tryz.func24 Tryz.results24 ?_;intro w' hw)
 refine ⟨x,?_,⟨hw.sl mm,hx1⟩,⟨Sat.prfs hw mm,hx2,hx3⟩,hw.below⟩
 rw [hq];rfl
def shpOf {rs:List Rn}{l:List Spn} (x:PrvT false rs l) (y:PrvT true rs l):Shp:=⟨endQ x.1.1,endQ y.1.1,f0R rs,x.1.1.1.1,f0R rs,y.1.1.1.1,x.1.2.1,y.1.2.1⟩
def shmOf {rs:List Rn}{l:List Spn} (x:PrvT false rs l) (y:PrvT true rs l):ShM:=⟨x.1.1.1.2,x.1.1.1.1.length,y.1.1.1.2,y.1.1.1.1.length,x.1.2.2.1,x.1.2.2.2,y.1.2.2.1,y.1.2.2.2⟩
theorem Whole_bad (a:Option Addr) (rs:List Rn) (c:Nat) (b:Option Addr) (l:List Spn) (d:Nat) (w:World) (hA:RunsAt w a rs) (hB:SpansAt w b l) (hM:Mod rs l) (h0:chkE rs l≠0) :
  Calls Tryz.prog 25 #[.slice a rs.length c,.slice b l.length d] w fun e w'=>e=.returned (.tuple #[.agg #[.bool false,.string (bs []),.string (bs []),.bool false,.string (bs []),.string (bs []),.int .i64 0,.slice none 0 0,.int .i64 0,.slice none 0 0,.slice none 0 0,.slice none 0 0],.int .i64 (chkE rs l)])/\Below w.heap.size w w':=by
 have he:=fun w' (hb:Below w.heap.size w w')=>prove_bad false a rs c b l d w' (hA.below hb) (hB.below hb) hM h0
 generalize chkE rs l=E at *
 clear hA hB hM
 refine enterA [(0,.slice a rs.length c),(1,.slice b l.length d)] Tryz.func25 Tryz.ntmps25 ?_
 repeat' first|(refine gp ?_;and_intros<;>first|exact trivial|repeat first|intro(Bk:Nat)|intro h)|(apply G.cV (g:=66);rfl;rfl;exact fun w' hw=>he w' hw.below)|fail
 all_goals refine ret2b Tryz.func25 Tryz.results25 ?_
 all_goals rfl
theorem Whole_ok (a:Option Addr) (rs:List Rn) (c:Nat) (b:Option Addr) (l:List Spn) (d:Nat) (w:World) (hA:RunsAt w a rs) (hB:SpansAt w b l) (hM:Mod rs l) (h0:chkE rs l=0) :
  Calls Tryz.prog 25 #[.slice a rs.length c,.slice b l.length d] w fun e w'=>∃ z:PrvT false rs l×PrvT true rs l,e=.returned (.tuple #[shA (shpOf z.1 z.2) (shmOf z.1 z.2),.int .i64 0])/\PrvAt w w' z.1/\PrvAt w w' z.2:=by
 have he:=fun w' (hb:Below w.heap.size w w')=>prove_ok false a rs c b l d w' (hA.below hb) (hB.below hb) hM h0
 have hf:=fun w' (hb:Below w.heap.size w w')=>prove_ok true a rs c b l d w' (hA.below hb) (hB.below hb) hM h0
 clear hA hB hM h0
 refine enterA [(0,.slice a rs.length c),(1,.slice b l.length d)] Tryz.func25 Tryz.ntmps25 ?_
 repeat' first|(refine gp ?_;and_intros<;>first|exact trivial|repeat first|intro(Bk:Nat)|intro h)|(refine G.cPv (g:=66) (d:=11) (X:=PrvT false rs l) (fun x=>prvV x) (fun x=>x.1.1.1.2) (fun x=>x.1.1.1.1.map isV) (fun x=>x.1.2.2.1) (fun x=>x.1.2.1) rfl rfl (fun w' hw=>he w' hw.below) ?_;intro x hx1 hx2 hx3;unfold prvV;generalize hq:endQ x.1.1=q;obtain ⟨n1,u1,d1⟩:=q;dsimp only [qA];unfold endH)|(refine G.cPv (g:=66) (d:=27) (X:=PrvT true rs l) (fun x=>prvV x) (fun x=>x.1.1.1.2) (fun x=>x.1.1.1.1.map isV) (fun x=>x.1.2.2.1) (fun x=>x.1.2.1) rfl rfl (fun w' hw=>hf w' hw.below) ?_;intro y hy1 hy2 hy3;unfold prvV;generalize hr:endQ y.1.1=q;obtain ⟨n2,u2,d2⟩:=q;dsimp only [qA];unfold endH)|fail
 (refine ret2 Tryz.func25 Tryz.results25 ?_;intro w' hw)
 refine ⟨(x,y),?_,⟨⟨hw.sl mm,hx1⟩,⟨Sat.prfs hw mm,hx2,hx3⟩,hw.below⟩,⟨⟨hw.sl mm,hy1⟩,⟨Sat.prfs hw mm,hy2,hy3⟩,hw.below⟩⟩
 unfold shA shpOf shmOf
 dsimp only
 rw [hq,hr,x.2.1,y.2.1];rfl
theorem Sat.addPrv {w0 w w':World}{M M2:List Row}{t:Bool}{rs:List Rn}{l:List Spn}{x:PrvT t rs l} (hw:Sat w0 M w) (hw2:Sat w0 M2 w') (hM:∀ r∈M2,r∈M∨∀ b,¬ r.lock b) (h:PrvAt w w' x):Sat w0 (slRow w0.heap.size x.1.1.1.2 1 (x.1.1.1.1.map isV)::prfsRow w0.heap.size x.1.2.2.1 x.1.2.1::M2) w':=by
 obtain ⟨⟨h1,h2⟩,⟨h3,h4,h5⟩,h6⟩:=h
 have up:∀ {sz:Nat}{a:Option Addr}{L:List (List Value)}{b:Nat},SlAt w' a sz L->(∀ p,a=some p->w.heap.size<=p.block)->slSup w0.heap.size a L b->w0.heap.size<=b/\b < w'.heap.size/\∀ r∈M2,¬ r.lock b:=fun s1 s2 s3=>by
  obtain ⟨a1,a2,a3⟩:=Sat.supN (C:=⟨Tryz.prog,default,fun _ _=>True,0,w0,[]⟩) hw s1 s2 s3
  refine ⟨a1,a2,fun r hr=>?_⟩
  rcases hM r hr with h|h
  ·exact a3 r h
  ·exact h _
 have k1:Sat w0 (prfsRow w0.heap.size x.1.2.2.1 x.1.2.1::M2) w':=hw2.addFact (Nat.le_refl _) h3 fun b hb=>by
  rcases hb with hb|⟨p,hp,hb|hb⟩
  ·exact up h3.1 h4 hb
  ·exact up (h3.2 p hp).1 (h5 p hp).1 hb
  ·exact up (h3.2 p hp).2 (h5 p hp).2 hb
 refine k1.addFact (Nat.le_refl _) h1 fun b hb=>?_
 obtain ⟨a1,a2,a3⟩:=up h1 h2 hb
 refine ⟨a1,a2,fun r hr=>?_⟩
 rcases List.mem_cons.1 hr with rfl|hr
 ·exact fun h=>h
 ·exact a3 r hr
section
variable {C:Ctx}{st:List (Nat×Value)}{M:List Row}{k:List Item}{q q':Md}{all rest:List Oper}{d:Nat}{ty:TypeId}{pos:String}{after:Array Edge}{gd:Option (Nat×Bool)}
theorem G.cPvT {t:Bool}{rs:List Rn}{l:List Spn}{g:FuncId}{args:List Operand}{vs:List Value}{at_:Array TypeId} (v:PrvT t rs l->Value) (ha:evL st args=some vs) (hs:sideB all st gd d C.N q.ext=some q') [hF:Fun C.P g]
  (hc:∀ w,Sat C.w0 M w->Calls C.P g vs.toArray w fun e w'=>∃ x,e=.returned (v x)/\PrvAt w w' x)
  (h:∀ x:PrvT t rs l,G q' C all ((d,v x)::st) (slRow C.w0.heap.size x.1.1.1.2 1 (x.1.1.1.1.map isV)::prfsRow C.w0.heap.size x.1.2.2.1 x.1.2.1::M) rest k) :
  G q C all st M ({ dst:=some d,op:=.call { callee:=.value (.func g),args:=args.toArray,argTypes:=at_ },type:=ty,pos,after,guard:=gd }::rest) k :=
 G.cPv v _ _ _ _ ha hs hc fun x _ _ _=>h x
theorem G.cWh {rs:List Rn}{l:List Spn}{g:FuncId}{args:List Operand}{vs:List Value}{at_:Array TypeId} (v:PrvT false rs l×PrvT true rs l->Value) (ha:evL st args=some vs) (hs:sideB all st gd d C.N q.ext=some q') [hF:Fun C.P g]
  (hc:∀ w,Sat C.w0 M w->Calls C.P g vs.toArray w fun e w'=>∃ z,e=.returned (v z)/\PrvAt w w' z.1/\PrvAt w w' z.2)
  (h:∀ x:PrvT false rs l,∀ y:PrvT true rs l,G q' C all ((d,v (x,y))::st) (slRow C.w0.heap.size x.1.1.1.2 1 (x.1.1.1.1.map isV)::prfsRow C.w0.heap.size x.1.2.2.1 x.1.2.1::slRow C.w0.heap.size y.1.1.1.2 1 (y.1.1.1.1.map isV)::prfsRow C.w0.heap.size y.1.2.2.1 y.1.2.1::M) rest k) :
  G q C all st M ({ dst:=some d,op:=.call { callee:=.value (.func g),args:=args.toArray,argTypes:=at_ },type:=ty,pos,after,guard:=gd }::rest) k:=by
 obtain ⟨g1,g2,g3⟩:=sideB_ok hs
 refine G.call0 (v:=v) (Mn:=fun z=>[slRow C.w0.heap.size z.1.1.1.1.2 1 (z.1.1.1.1.1.map isV),prfsRow C.w0.heap.size z.1.1.2.2.1 z.1.1.2.1,slRow C.w0.heap.size z.2.1.1.1.2 1 (z.2.1.1.1.1.map isV),prfsRow C.w0.heap.size z.2.1.2.2.1 z.2.1.2.1]) g1 g2 g3 ha (fun w hw=>(hc w hw).mono fun e w' he=>?_) fun z=>h z.1 z.2
 obtain ⟨z,rfl,h1,h2⟩:=he
 have k1:=Sat.addPrv hw (hw.ext h2.2.2) (fun r hr=>.inl hr) h2
 refine ⟨z,rfl,Sat.addPrv hw k1 (fun r hr=>?_) h1⟩
 rcases List.mem_cons.1 hr with rfl|hr
 ·exact .inr fun b h=>h
 rcases List.mem_cons.1 hr with rfl|hr
 ·exact .inr fun b h=>h
 ·exact .inl hr
end
end Go.Proofs.YtjcecdmbfmccoaaGreatDoor
/-
 Contracts of proofs: the values of small proofs,intervals in memory,few runs and spans.
-/
namespace Go.Proofs.YtjcecdmbfmccoaaGreatDoor
open Go.RowKit Go.Sl Go.Num
structure Smp (t:Bool) (rs:List Rn) (l:List Spn) (ps:List Prf):Prop where
 few:∀ p∈ps,fewF 20000000 p/\p.st.length<=1000000/\p.cl.length<=1000000
 den:∃ D B K,chkE rs l=0->ps.length=rs.length->(∀ x∈rs.zip ps,wellB l x.1 x.2=true)->DenK D B K/\∀ y∈rs.zip ps,DenR t l D B y.1 y.2
def shrt (k:Nat) (ps:List Prf):Prop:=∀ p∈ps,(p.st++p.cl).length<=30/\∀ q∈p.st++p.cl,fewQ k q
theorem shortL.shrt {ps:List Prf} (h:shortL ps):shrt 40 ps:=fun p hp=>h.2 p hp
theorem smp_short {t:Bool}{rs:List Rn}{l:List Spn}{ps:List Prf}{k:Nat} (hk:k<=140) (hM:Mod rs l) (hs:shrt k ps):Smp t rs l ps:=by
 refine ⟨fun p hp=>?_,?_⟩
 ·obtain ⟨h1,h2⟩:=hs p hp
  rw [List.length_append] at h1
  exact ⟨⟨fun a ha=>fewQ_le (h2 a (List.mem_append_left _ ha)) (by omega),fun a ha=>fewQ_le (h2 a (List.mem_append_right _ ha)) (by omega)⟩,by omega,by omega⟩
 ·by_cases h:chkE rs l=0/\∀ x∈rs.zip ps,wellB l x.1 x.2=true
  ·obtain ⟨D,B,K,h1⟩:=den_short (t:=t) hk hM h.1 h.2 hs
   exact ⟨D,B,K,fun _ _ _=>h1⟩
  ·exact ⟨0,0,0,fun a _ b=>absurd ⟨a,b⟩ h⟩
theorem smp_prv {t:Bool}{rs:List Rn}{l:List Spn}{ps:List Prf}{f:Int}{S:List Int} (hM:Mod rs l) (h0:chkE rs l=0) (hl:ps.length=rs.length) (hP:∀ i (h1:i < rs.length) (h2:i < ps.length),PrO t l f S rs[i] ps[i]):Smp t rs l ps:=by
 refine ⟨fun p hp=>?_,?_⟩
 ·obtain ⟨i,hi,rfl⟩:=List.mem_iff_getElem.1 hp
  have hm:=List.getElem_mem (show i < rs.length by omega)
  have hp:=hP i (by omega) hi
  by_cases h0t:rs[i].tab.length=0
  ·obtain ⟨e1,e2⟩:=hp.1 h0t
   unfold fewF
   rw [e1,e2]
   exact ⟨⟨fun a ha=>absurd ha List.not_mem_nil,fun a ha=>absurd ha List.not_mem_nil⟩,Nat.zero_le _,Nat.zero_le _⟩
  ·obtain ⟨w1,_,_,hd⟩:=hp.2 h0t
   obtain ⟨D,_,_,hd⟩:=hd _ _ rfl rfl
   obtain ⟨l1,l2,_⟩:=(well_iff h0t).1 w1
   have:=hM.tab _ hm
   have:=hM.cls h0 _ hm
   exact ⟨hd.f,by omega,by omega⟩
 ·obtain ⟨D,B,K,h⟩:=prv_den hM h0 hl hP
  exact ⟨D,B,K,fun _ _ _=>h⟩
theorem smp_few {t:Bool}{rs:List Rn}{l:List Spn}{ps:List Prf} (hs:Smp t rs l ps):fewQ 60000000 (valE t rs l ps).1:=by
 obtain ⟨D,B,K,h⟩:=hs.den
 exact valE_few h
section
variable {rs:List Rn}{l:List Spn}
theorem vval {ps:List Prf} (t:Bool) (a:Option Addr) (c:Nat) (b:Option Addr) (d:Nat) (pa:Option Addr) (pc:Nat) (w:World) (hA:RunsAt w a rs) (hB:SpansAt w b l) (hM:Mod rs l) (hP:PrfsAt w pa ps) (hs:Smp t rs l ps) :
  Calls Tryz.prog 11 #[.slice a rs.length c,.slice b l.length d,.slice pa ps.length pc,.bool t] w fun e w'=>e=.returned (.tuple #[qA (valE t rs l ps).1,.int .i64 (valE t rs l ps).2])/\Below w.heap.size w w':=by
 obtain ⟨D,B,K,h⟩:=hs.den
 exact pval_holds t a rs c b l d pa ps pc w hA hB hM hP hs.few D B K h
structure ShAt (w:World) (s:Shp) (m:ShM):Prop where
 l:SlAt w m.la 1 (s.ls.map isV)
 lc:s.ls.length<=m.lc
 ll:s.ls.length<=1000
 h:SlAt w m.ha 1 (s.hs.map isV)
 hc:s.hs.length<=m.hc
 hl:s.hs.length<=1000
 p:PrfsAt w m.pa s.lp
 q:PrfsAt w m.qa s.hp
theorem ShAt.below {w w':World}{s:Shp}{m:ShM} (h:ShAt w s m) (hb:Below w.heap.size w w'):ShAt w' s m:=⟨h.l.below hb,h.lc,h.ll,h.h.below hb,h.hc,h.hl,h.p.below hb,h.q.below hb⟩
structure ShOk (rs:List Rn) (l:List Spn) (s:Shp):Prop where
 p:Smp false rs l s.lp
 q:Smp true rs l s.hp
 lo:fewQ 60000000 s.lo
 hi:fewQ 60000000 s.hi
variable {s:Shp}{m:ShM}
theorem vhold (a:Option Addr) (c:Nat) (b:Option Addr) (d:Nat) (w:World) (hA:RunsAt w a rs) (hB:SpansAt w b l) (hM:Mod rs l) (hS:ShAt w s m) (hO:ShOk rs l s) :
  Calls Tryz.prog 13 #[.slice a rs.length c,.slice b l.length d,shA s m] w fun e w'=>e=.returned (.bool (holdB rs l s))/\Below w.heap.size w w' :=
 pholds_holds a rs c b l d s m w (fun w' hb=>vval false a c b d m.pa m.pc w' (hA.below hb) (hB.below hb) hM (hS.p.below hb) hO.p) (fun w' hb=>vval true a c b d m.qa m.qc w' (hA.below hb) (hB.below hb) hM (hS.q.below hb) hO.q) (smp_few hO.p) (smp_few hO.q) hO.lo hO.hi
theorem vatt (a:Option Addr) (c:Nat) (b:Option Addr) (d:Nat) (w:World) (hA:RunsAt w a rs) (hB:SpansAt w b l) (hM:Mod rs l) (hS:ShAt w s m) :
  Calls Tryz.prog 15 #[.slice a rs.length c,.slice b l.length d,shA s m] w fun e w'=>e=.returned (.bool (attB rs l s))/\Below w.heap.size w w':=by
 have h1:=hS.ll
 have h2:=hS.hl
 exact patt_holds a rs c b l d s m w (fun w' hb=>bChk_holds a rs c b l d w' (hA.below hb) hM.tab (hB.below hb) hM.few) (fun w' hb=>agree_holds a m.la rs s.lf s.ls c m.lc w' (hA.below hb) (hS.l.below hb) hM.tab hS.lc (by omega)) (fun w' hb=>agree_holds a m.ha rs s.hf s.hs c m.hc w' (hA.below hb) (hS.h.below hb) hM.tab hS.hc (by omega)) (fun w' hb=>val_holds s.lf m.la b s.ls l m.lc d w' (hS.l.below hb) (hB.below hb) hM.few h1 hS.lc) (fun w' hb=>val_holds s.hf m.ha b s.hs l m.hc d w' (hS.h.below hb) (hB.below hb) hM.few h2 hS.hc)
theorem vacc (a:Option Addr) (c:Nat) (b:Option Addr) (d:Nat) (w:World) (hA:RunsAt w a rs) (hB:SpansAt w b l) (hM:Mod rs l) (hS:ShAt w s m) (hO:ShOk rs l s) :
  Calls Tryz.prog 17 #[.slice a rs.length c,.slice b l.length d,shA s m] w fun e w'=>e=.returned (.bool (accB rs l s))/\Below w.heap.size w w' :=
 paccept_holds a rs c b l d s m w (fun w' hb=>vhold a c b d w' (hA.below hb) (hB.below hb) hM (hS.below hb) hO) fun w' hb=>vatt a c b d w' (hA.below hb) (hB.below hb) hM (hS.below hb)
end
theorem few22_holds (a:Option Addr) (rs:List Rn) (c:Nat) (b:Option Addr) (l:List Spn) (d t:Nat) (w:World) (hA:RunsAt w a rs) (hB:SpansAt w b l) :
  Calls Tryz.prog 9 #[.slice a rs.length c,.slice b l.length d,.int .i64 t] w fun e w'=>e=.returned (.bool (decide (fewR 12 t rs) && decide (fewL 8 l)))/\Below w.heap.size w w':=by
 have h1:=fun w' (hb:Below w.heap.size w w')=>rFew_holds a rs c 12 t w' (hA.below hb) (by decide)
 have h2:=fun w' (hb:Below w.heap.size w w')=>few_holds b l d 8 w' (hB.below hb)
 clear hA hB
 generalize decide (fewR 12 t rs)=g1 at *
 generalize decide (fewL 8 l)=g2 at *
 refine enterA [(0,.slice a rs.length c),(1,.slice b l.length d),(2,.int .i64 t)] Tryz.func9 Tryz.ntmps9 ?_
 cases g1
 all_goals cases g2
 all_goals
  repeat' first|(refine gp ?_;and_intros<;>first|exact trivial|repeat first|intro(Bk:Nat)|intro h)|(apply G.cV (g:=31);rfl;rfl;exact fun w' hw=>h1 w' hw.below)|(apply G.cV (g:=32);rfl;rfl;exact fun w' hw=>h2 w' hw.below)
  all_goals refine ret1b Tryz.func9 Tryz.results9 ?_
  all_goals rfl
theorem few_mod {t:Nat}{rs:List Rn}{l:List Spn} (h1:fewR 12 t rs) (h2:fewL 8 l):Mod rs l:=by
 refine ⟨fun r hr=>Nat.le_trans (h1.2.1 r hr) (by decide),h2.ok,fun h0 r _=>?_,Nat.le_trans h1.1 (by decide)⟩
 obtain ⟨_,h4,_⟩:=chk_facts h0
 have:=h2.1
 have:=clsE_le r l
 omega
theorem few_ticks {t:Nat}{rs:List Rn}{l:List Spn}{S:List Int} (h1:fewR 12 t rs) (h0:chkE rs l=0) (ha:AgS rs S):S.length<=t:=by
 have hr:=(chk_ok h0).1
 rcases h1.2.2 with h|h|h
 ·exact absurd hr h
 ·have:rs=[]:=List.length_eq_zero_iff.1 h
  subst this
  rw [show S=[] from ha];exact Nat.zero_le _
 ·by_cases hne:rs=[]
  ·subst hne
   rw [show S=[] from ha];exact Nat.zero_le _
  ·have h3:=(right_of hr hne ha).2
   rw [lenT_eq hne] at h
   omega
def i22 (n:Int):Q3:=rQ ((n:Int):Rat)
def x22R (a1:Option Addr) (c1:Nat):List Rn:=[⟨0,4,[(1,2),(5,1),(9,1)],a1,c1,0,0⟩,⟨4,6,[],none,0,2,3⟩]
def x22Q:List Pnt:=[(0,zero3),(10,i22 10)]
def x22S (x:Option Addr) (y:Nat):List Spn:=[⟨0,2,i22 1,0,x22Q,x,y⟩,⟨3,5,i22 2,0,x22Q,x,y⟩]
def x22P (u1 u2 u3 v1 v2 v3:Int) (sa:Option Addr) (sc:Nat) (ca:Option Addr) (cc:Nat):List Prf:=[⟨[i22 u1,i22 u2,i22 u3],[i22 v1,i22 v2,i22 v3],sa,sc,ca,cc⟩,prf0]
theorem ex22_c (a1:Option Addr) (c1:Nat) (x:Option Addr) (y:Nat):chkE (x22R a1 c1) (x22S x y)=0:=by kernel_rfl
theorem ex22_1 (a1:Option Addr) (c1:Nat) (x:Option Addr) (y:Nat) (sa:Option Addr) (sc:Nat) (ca:Option Addr) (cc:Nat):valE false (x22R a1 c1) (x22S x y) (x22P 1 5 5 0 1 (-5) sa sc ca cc)=(i22 12,0):=by kernel_rfl
theorem ex22_2 (a1:Option Addr) (c1:Nat) (x:Option Addr) (y:Nat) (sa:Option Addr) (sc:Nat) (ca:Option Addr) (cc:Nat):valE false (x22R a1 c1) (x22S x y) (x22P 1 6 5 0 1 (-5) sa sc ca cc)=(zero3,22):=by kernel_rfl
theorem ex22_3 (a1:Option Addr) (c1:Nat) (x:Option Addr) (y:Nat) (sa:Option Addr) (sc:Nat) (ca:Option Addr) (cc:Nat):valE false (x22R a1 c1) (x22S x y) (x22P 0 0 0 1 2 0 sa sc ca cc)=(i22 8,0):=by kernel_rfl
theorem ex22_4 (a1:Option Addr) (c1:Nat) (x:Option Addr) (y:Nat) (sa:Option Addr) (sc:Nat) (ca:Option Addr) (cc:Nat):valE true (x22R a1 c1) (x22S x y) (x22P 0 4 8 1 10 0 sa sc ca cc)=(i22 30,0):=by kernel_rfl
theorem ex22_5 (x:Option Addr) (y:Nat):volSum (x22S x y) 0 [1,5,9,1,2,2]=((12:Int):Rat):=by kernel_rfl
theorem ex22_6 (x:Option Addr) (y:Nat):volSum (x22S x y) 0 [1,5,1,9,3,3]=((30:Int):Rat):=by kernel_rfl
theorem ex22_a (a1:Option Addr) (c1:Nat):agreeB (x22R a1 c1) 0 [1,5,9,1,2,2]=true:=by kernel_rfl
theorem ex22_b (a1:Option Addr) (c1:Nat):agreeB (x22R a1 c1) 0 [1,5,1,9,3,3]=true:=by kernel_rfl
end Go.Proofs.YtjcecdmbfmccoaaGreatDoor
/-
 Contracts: bounds that are compared;the law's numbers and example.
-/
namespace Go.Proofs.YtjcecdmbfmccoaaGreatDoor
open Go.RowKit Go.Sl Go.Num
theorem eqB_run (s1 t1 s2 t2:Bool) (x1 y1 u1 v1 x2 y2 u2 v2:ByteArray) (w:World):(Op.equal 27 (.agg #[.bool s1,.string x1,.string u1,.bool s2,.string x2,.string u2]) (.agg #[.bool t1,.string y1,.string v1,.bool t2,.string y2,.string v2])).run Tryz.prog w=.ok ((s1 == t1 && (x1.toList == y1.toList && u1.toList == v1.toList)) && (s2 == t2 && (x2.toList == y2.toList && u2.toList == v2.toList))) w:=by
 simp [go_sem,Op.equal,Op.maxDepth]
 by_cases h1:s1=t1<;>by_cases h2:x1.toList=y1.toList<;>by_cases h3:u1.toList=v1.toList<;>by_cases h4:s2=t2<;>by_cases h5:x2.toList=y2.toList<;>by_cases h6:u2.toList=v2.toList<;>simp [h1,h2,h3,h4,h5,h6]
theorem eqB_guard:(Tryz.prog).eqGuardType (Tryz.prog).depth 27=false:=by kernel_rfl
section
variable {C:Ctx}{st:List (Nat×Value)}{M:List Row}{k:List Item}{q q':Md}{all rest:List Oper}{d:Nat}{ty:TypeId}{pos:String}{after:Array Edge}{gd:Option (Nat×Bool)}
theorem G.eqB {x y:Operand}{yt:TypeId} (a b c e:Q3) (hx:evS st x=some (bndA a b)) (hy:evS st y=some (bndA c e)) (hs:sideB all st gd d C.N q.calm=some q') (h1:a=c/\b=e->G q' C all ((d,.bool true)::st) M rest k) (h2:¬ (a=c/\b=e)->G q' C all ((d,.bool false)::st) M rest k) (hP:C.P=Tryz.prog:=by rfl) :
  G q C all st M ({ dst:=some d,op:=.binOp .eql 27 x y yt,type:=ty,pos,after,guard:=gd }::rest) k:=by
 obtain ⟨P,b0,PHI,N0,w0,D⟩:=C
 dsimp only at hP;subst hP
 obtain ⟨g1,g2,g3⟩:=sideB_ok hs
 refine G.opDec (p:=a=c/\b=e) (OpV.of fun ac w hf _ dst pos after guard=>?_) g1 rfl g2 g3 h1 h2
 have e1:(binOp .eql 27 (bndA a b) (bndA c e)).run Tryz.prog w=.ok (.bool (decide (a=c/\b=e))) w:=by
  show ((Op.equal 27 _ _).bind fun b=>Sem.pure (Value.bool b)).run Tryz.prog w=_
  unfold bndA
  rw [Sem.run_bind',eqB_run,eqR_bool,eqR_bool,<- Bool.decide_and];rfl
 have e2:(eqGuard .eql 27 x y (bndA a b) (bndA c e)).run Tryz.prog w=.ok () w:=run_eqGuard_agg w .eql 27 x y _ _ eqB_guard
 simp only [execOp,hf.eval hx,hf.eval hy,Sem.run_bind,e2,e1,Result.andThen_ok];rfl
end
attribute [local irreducible] i22
theorem vI (n:Int) (h1:-999999999999999<=n) (h2:n<=999999999999999) (w:World):Calls Tryz.prog 35 #[.int .i64 n] w fun e w'=>e=.returned (qA (i22 n))/\Below w.heap.size w w':=by
 have h:=vInt h1 h2 w
 unfold i22
 exact h
set_option maxHeartbeats 4000000 in
theorem nums_holds (a:Option Addr) (L:List Int) (c:Nat) (w:World) (hA:SlAt w a 1 (L.map isV)) (hl:L.length<=1000) (hb:∀ n∈L,-999999999999999<=n/\n<=999999999999999) :
  Calls Tryz.prog 34 #[.slice a L.length c] w (NwL 3 qV (fun v=>v) w (L.map i22)):=by
 refine enterA [(0,.slice a L.length c)] Tryz.func34 Tryz.ntmps34 ?_
 all_goals (refine go ?_;and_intros<;>first|exact trivial|repeat first|intro(Bk:Nat)|intro h)
 apply J.nilOwn (E:=25) (size:=3)
 refine J.loop (c:=_) ((0,.slice none 0 0):Nat×Value) (fun x=>L.length-x.1) (fun x=>[(3,x.2),(6,.slice a L.length c),(7,.int .i64 L.length),(8,.int .i64 x.1)]) (fun x=>.own 0 x.2 25 3 x.1 (flat qV ((L.take x.1).map i22))::[]) (fun x=>x.1<=L.length) ?_ sbT sbL ?_
 ·exact Nat.zero_le _
 intro ⟨k,v⟩ hk ih
 dsimp only at hk ⊢
 by_cases hkk:k < L.length
 ·obtain ⟨ba,oa,rfl,hra⟩:=SlAt.all hA (by omega)
  have hr:=hra k hkk
  have hn:=hb _ (List.getElem_mem hkk)
  have hi:=vI L[k] hn.1 hn.2
  have hcat:flat qV ((L.take k).map i22)++[.bool (i22 L[k]).neg,.string (bs (i22 L[k]).num),.string (bs (i22 L[k]).den)]=flat qV ((L.take (k+1)).map i22):=by
   rw [take_snoc hkk,List.map_append,flat_append];rfl
  have ih:=fun v'=>ih (k+1,v') hkk (by dsimp only;omega)
  dsimp only at ih
  clear hra hb
  generalize (L.take (k+1)).map i22=X at *
  generalize L[k]=n at *
  dsimp only [isV] at hr
  repeat' first|(refine gp ?_;and_intros<;>first|exact trivial|repeat first|intro(Bk:Nat)|intro h)|(apply G.cV (g:=35);rfl;rfl;exact fun w' _=>hi w')|(apply G.sliceL;rfl;rfl;rfl;rfl;rfl;rfl;rfl;rfl;intro Bs)|(apply G.ap;rfl;rfl;rfl;(repeat (first|exact RAt.head|apply RAt.tail));exact SrcV.blk (by exact mm) rfl rfl;exact hcat;omega;omega;intro v2)
  exact J.finS (ih v2)
 ·obtain rfl:k=L.length:=by omega
  rw [List.take_length]
  clear ih
  all_goals (refine go ?_;and_intros<;>first|exact trivial|repeat first|intro(Bk:Nat)|intro h)
  (refine ret1 Tryz.func34 Tryz.results34 ?_;intro w' hw)
  exact satO (l:=L.map i22) (n:=L.length) (i:=0) (f:=qV) (fun _=>rfl) hw rfl (List.length_map ..) (fun v=>v)
theorem blkSlD {w0 w:World}{M:List Row}{A:Type}{f:A->List Value}{sz b tot:Nat}{e:TypeId}{l:List A}{cs:List Value} (hw:Sat w0 M w) (hf:∀ x,(f x).length=sz) (hm:Row.blk b e cs tot∈M) (hcs:cs=flat f l):SlAt w (some ⟨b,0,none⟩) sz (l.map f)/\w0.heap.size<=b:=by
 subst hcs
 exact blkSlA hw hf hm
set_option maxHeartbeats 4000000 in
theorem ex22_holds (w:World):Calls Tryz.prog 33 #[] w fun e w'=>∃ x:(Nat×Nat)×(Nat×Nat),e=.returned (.tuple #[.slice (some ⟨x.1.2,0,none⟩) 2 2,.slice (some ⟨x.2.1,0,none⟩) 2 2])/\RunsAt w' (some ⟨x.1.2,0,none⟩) (x22R (some ⟨x.1.1,0,none⟩) 3)/\SpansAt w' (some ⟨x.2.1,0,none⟩) (x22S (some ⟨x.2.2,0,none⟩) 2)/\(w.heap.size<=x.1.1/\w.heap.size<=x.1.2/\w.heap.size<=x.2.1/\w.heap.size<=x.2.2)/\Below w.heap.size w w':=by
 refine enterA [] Tryz.func33 Tryz.ntmps33 ?_
 repeat' first|(refine gp ?_;and_intros<;>first|exact trivial|repeat first|intro(Bk:Nat)|intro h)|(apply G.cV (g:=35) (vs:=[.int .i64 10]);rfl;rfl;exact fun w' _=>vI 10 (by decide) (by decide) w')|(apply G.cV (g:=35) (vs:=[.int .i64 1]);rfl;rfl;exact fun w' _=>vI 1 (by decide) (by decide) w')|(apply G.cV (g:=35) (vs:=[.int .i64 2]);rfl;rfl;exact fun w' _=>vI 2 (by decide) (by decide) w')|(apply G.sliceL;rfl;rfl;rfl;rfl;rfl;rfl;rfl;rfl;intro Bs)|(apply J.regA (.q 0 <| .q 1 <| .q 2 <| .q 3 <| .q 4 <| .q 5 <| .q 6 <| .q 7 <| .q 8 <| .r 9 <| .q 10 <| .nil);exact Tryz.mixed;decide +kernel)|(apply J.regA (.q 0 <| .q 1 <| .q 2 <| .q 3 <| .q 4 <| .q 5 <| .q 6 <| .q 8 <| .r 7 <| .q 9 <| .nil);exact Tryz.mixed;decide +kernel)
 rename_i Bl B1 B2
 refine ret2 Tryz.func33 Tryz.results33 ?_
 intro w' hw
 have k1:=blkSlD (b:=Bl) (f:=ptV) (sz:=4) (l:=x22Q) hw (fun _=>rfl) (by exact mm) rfl
 have k2:=blkSlD (b:=B1) (f:=hoV) (sz:=2) (l:=[((1:Int),(2:Int)),(5,1),(9,1)]) hw (fun _=>rfl) (by exact mm) rfl
 have k3:=blkSlD (b:=B2) (f:=rnV) (sz:=5) (l:=x22R (some ⟨B1,0,none⟩) 3) hw (fun _=>rfl) (by exact mm) rfl
 have k4:=blkSlD (b:=Bs) (f:=spV) (sz:=7) (l:=x22S (some ⟨Bl,0,none⟩) 2) hw (fun _=>rfl) (by exact mm) rfl
 refine ⟨((B1,B2),(Bs,Bl)),rfl,⟨k3.1,fun r hr=>?_⟩,⟨k4.1,fun s hs=>?_⟩,⟨k2.2,k3.2,k4.2,k1.2⟩,hw.below⟩
 ·simp only [x22R,List.mem_cons,List.not_mem_nil,or_false] at hr
  rcases hr with rfl|rfl
  ·exact k2.1
  ·exact SlAt.nil
 ·simp only [x22S,List.mem_cons,List.not_mem_nil,or_false] at hs
  rcases hs with rfl|rfl
  ·exact k1.1
  ·exact k1.1
end Go.Proofs.YtjcecdmbfmccoaaGreatDoor
