/-
  Contracts of bounds: a first assignment.
-/
import Derived.Test.YtjcecdmbfmccoaaGreatDoorWA9
set_option linter.unusedVariables false
set_option linter.unusedSimpArgs false
set_option linter.unusedSectionVars false
namespace Go.Proofs.YtjcecdmbfmccoaaGreatDoor
open Go.RowKit Go.Sl Go.Num
structure ON where
 bt:Nat
 bc:Nat
 bx:Nat
 tc:Nat
 tx:Nat
 kc:Nat
 kx:Nat
 ca:Option Addr
 cc:Nat
 CT:List (Nat×Nat×List Rat)
 XT:List (Nat×List Int)
abbrev NX (r:Rn) (n S:Nat) (x:ON):List Value:=[.int .i64 r.from_,.int .i64 r.to_,.slice r.adr r.tab.length r.cap,.int .i64 r.lo,.int .i64 r.hi,.slice x.ca n x.cc,.slice (some ⟨x.bc,0,none⟩) S x.kc,.slice (some ⟨x.bx,0,none⟩) S x.kx]
def gX (t:Bool) (l:List Spn) (r:Rn) (s c:Nat):Rat:=sgR t (gT l r s c)
theorem NY {LF:List Int}{a:Nat} (h:a < LF.length) (k:Int):(fun c=>(LF.set a (LF.getD a 0-k)).getD c 0)=yB (fun c=>LF.getD c 0) a k:=funext fun c=>by
 unfold yB;simp only [gD];by_cases e:c=a
 ·subst e
  rw [if_pos rfl,List.getElem?_set_self h];show _-k=_+-k
  rw [Int.sub_eq_add_neg]
 ·rw [if_neg e,List.getElem?_set_ne fun e2=>e e2.symm,Int.add_zero]
theorem OO {S n:Nat}{XT:List (Nat×List Int)} (h:kJ S n XT) {s a:Nat} (hs:s < S) (ha:a < n) (k:Int):xOf (wU XT s a (xOf XT s a+k))=D2 (xOf XT) s a k:=funext fun t=>funext fun d=>by
 rw [Gd h hs ha];unfold D2;by_cases e:t=s
 ·subst e
  rw [if_pos rfl,if_pos rfl];by_cases e2:d=a
  ·subst e2;rw [if_pos rfl,if_pos rfl]
  ·rw [if_neg e2,if_neg e2,Int.add_zero]
 ·rw [if_neg e,if_neg e]
theorem NZ {XT:List (Nat×List Int)}{b n:Nat}:xOf (XT++[(b,List.replicate n 0)])=xOf XT:=funext fun t=>funext fun d=>by
 unfold xOf;simp only [gD];by_cases e:t < XT.length
 ·rw [List.getElem?_append_left e]
 ·rw [List.getElem?_append_right om,List.getElem?_eq_none (l:=XT) om]
  cases h:t-XT.length with
  | zero =>
   show (List.replicate n (0:Int))[d]?.getD 0=([]:List Int)[d]?.getD 0
   rw [List.getElem?_replicate];split<;>rfl
  | succ k=>rfl
theorem kJ.snoc {S n:Nat}{XT:List (Nat×List Int)} (h:kJ S n XT) {b:Nat}{L:List Int} (hl:L.length=n):kJ (S+1) n (XT++[(b,L)]):=by
 refine ⟨by rw [List.length_append,h.len];rfl,fun s hs=>?_⟩
 rw [List.length_append,List.length_singleton] at hs;by_cases e:s < XT.length
 ·rw [List.getElem_append_left e];exact h.row s e
 ·obtain rfl:s=XT.length:=by omega
  rw [List.getElem_concat_length rfl];exact hl
theorem I0.snoc {S n:Nat}{g:Nat->Nat->Rat}{CT:List (Nat×Nat×List Rat)} (h:I0 S n g CT) {b c:Nat}{L:List Rat} (hl:L.length=n) (hg:∀ c,c < n->L[c]?=some (g S c)):I0 (S+1) n g (CT++[(b,c,L)]):=by
 refine ⟨by rw [List.length_append,h.len];rfl,fun s hs=>?_⟩
 rw [List.length_append,List.length_singleton] at hs;by_cases e:s < CT.length
 ·rw [List.getElem_append_left e];exact h.row s e
 ·obtain rfl:s=CT.length:=by omega
  rw [List.getElem_concat_length rfl,h.len];exact ⟨hl,hg⟩
theorem eJ {A:Type}{f:A->List Value} (l:List A) (x:A):flat f (l++[x])=flat f l++f x:=by
 rw [flat,flat,List.map_append,List.flatten_append];simp
theorem DA {r:Rn}{l:List Spn}{c:Nat} (h:c < (aD r l).length):(aD r l)[c]?=some (aG r l c,aT r l c):=by
 rw [aG,aT,gD,gE h];rfl
theorem EQ {r:Rn}{l:List Spn}{c:Nat} (h:c < (aD r l).length):aG r l c < l.length:=by
 have h1:=List.mem_of_getElem? (DA h);rcases lT.1 h1 with ⟨i,s,h2,_,h3⟩|⟨_,h3⟩
 ·have h4:=(List.getElem?_eq_some_iff.1 h2).1
  have:aG r l c=(i:Int):=congrArg Prod.fst h3;omega
 ·have:aG r l c=-1:=congrArg Prod.fst h3
  omega
theorem ER {r:Rn}{l:List Spn}{c:Nat} (h:c < (aD r l).length):0 < aT r l c:=vD _ (List.mem_of_getElem? (DA h))
structure LpT where
 k:Nat
 a:Nat
 LF:List Int
 CT:List (Nat×Nat×List Rat)
 XT:List (Nat×List Int)
 vc:Value
 vx:Value
theorem NH.congr {S n:Nat}{row col:Nat->Int}{s a:Nat}{lf lf':Nat->Int}{x:Nat->Nat->Int} (h:NH S n row col s a lf x) (he:∀ c,c < n->lf' c=lf c):NH S n row col s a lf' x :=
 ⟨h.nn,fun c hc=>by rw [he c hc];exact h.lnn c hc,h.done,h.later,fun c hc=>by rw [he c hc];exact h.col c hc,fun c hc hn=>by rw [he c hn];exact h.zero c hc hn,by rw [eI he];exact h.tot⟩
set_option maxHeartbeats 8000000 in
theorem ES (w0:World) (M0:List Row) (w:World) (r:Rn) (t:Bool) (B1 B2 e1 e2 t1 t2 d:Nat) (b:Option Addr) (l:List Spn) (hw:Sat w0 M0 w) (hm1:Row.blk B1 e1 [.slice b l.length d] t1∈M0) (hm2:Row.blk B2 e2 [.bool t] t2∈M0) (hB:aN w0 b l) (hf:∀ s∈l,fewS s) (hR:∀ s∈l,aQ s) (hl:aR 0 l) (hn:l.length<=400) (hT:aE w0 r.adr 2 (r.tab.map hoV)) (hr:OkR r) (h0:r.tab.length≠0) (hS:r.tab.length<=64) (hc:(aD r l).length<=31) :
  Calls Tryz.prog 146 #[rnA r,.slice b l.length d,.func (.func 144) #[] #[.pointer (some ⟨B1,0,none⟩),.pointer (some ⟨B2,0,none⟩)]] w fun e w'=>∃ x:{ x:ON // I0 r.tab.length (aD r l).length (gX t l r) x.CT/\kJ r.tab.length (aD r l).length x.XT/\kX r.tab.length (aD r l).length (tbT r) (aT r l) (xOf x.XT)/\(∃ b o,x.ca=some ⟨b,o,none⟩) },
   e=.returned (.pointer (some ⟨x.1.bt,0,none⟩))/\Sat w0 (.blk x.1.bt 200 (NX r (aD r l).length r.tab.length x.1) 8::.blk x.1.bc 61 (flat (cY (aD r l).length) x.1.CT) x.1.tc::.blk x.1.bx 28 (flat (eD (aD r l).length) x.1.XT) x.1.tx::(rws eM x.1.CT++(rws (fO (aD r l).length) x.1.XT++(aL w0.heap.size x.1.ca 2 ((aD r l).map hoV)::M0)))) w':=by
 have hrate:∀ (p st:Int) w',bG w' B1 0 [.slice b l.length d]->bG w' B2 0 [.bool t]->Below w0.heap.size w0 w'->p < l.length->0<=st/\st<=1000->CR 144 #[.int .i64 p,.int .i64 st,.pointer (some ⟨B1,0,none⟩),.pointer (some ⟨B2,0,none⟩)] w' (qA (rQ (sgR t (aS l p st)))):=fun p st w' h1 h2 hb hp hs=>AZ p st t B1 B2 b l d w' h1 h2 (hB.below hb) hf hR hp hs
 have hcl:=fun w' (hb:Below w0.heap.size w0 w')=>tO r b l d w' (hB.1.below hb) hl hn hr.rng hR
 have hcat:=fun c h=>DA (r:=r) (l:=l) (c:=c) h
 have hclt:=fun c h=>EQ (r:=r) (l:=l) (c:=c) h
 have hcps:=fun c h=>ER (r:=r) (l:=l) (c:=c) h
 have htab:=hr.tab h0;have hn0:=iB hl hr.rng.2.1;have hst:iS (aT r l) (aD r l).length=iS (tbT r) r.tab.length:=by rw [mN,kY,kB hl hr.rng.2.1,htab.2.2.1]
 have hgX:∀ s c,s < r.tab.length->gX t l r s c=sgR t (aS l (aG r l c) (tbS r s)):=fun _ _ _=>rfl
 have htb:∀ s (h:s < r.tab.length),r.tab[s]=(tbS r s,tbT r s):=fun s h=>by
  rw [tbS,tbT,gD,gE h];rfl
 have htr:∀ s,s < r.tab.length->(0<=tbS r s/\tbS r s<=1000)/\1<=tbT r s/\tbT r s<=1402560:=fun s h=>by
  have hm:=eZ h;have a:=htab.2.2.2 _ hm;have b:=htab.2.1 _ hm;have c:=kY r;have hle:=fZ (f:=tbT r) (n:=r.tab.length) (fun i hi=>by
   have:=htab.2.1 _ (eZ hi);dsimp only at this;omega) s h
  have:=hr.rng;rw [c,htab.2.2.1] at hle;dsimp only at a b;omega
 have hr0:∀ s,0<=tbT r s:=fun s=>by
  by_cases h:s < r.tab.length
  ·have:=htr s h;omega
  ·rw [tbT,gD,List.getElem?_eq_none om];exact Int.le_refl _
 have hcolb:∀ c,c < (aD r l).length->aT r l c<=1402560:=fun c h=>by
  have h1:=fZ (f:=aT r l) (n:=(aD r l).length) (fun i hi=>Int.le_of_lt (hcps i hi)) c h
  rw [mN,kB hl hr.rng.2.1] at h1;have:=hr.rng;omega
 obtain ⟨ba,oa,hadr,hra0⟩:=aE.all hT om;have hra:∀ s,s < r.tab.length->bG w0 ba (oa+s*2) [.int .i64 (tbS r s),.int .i64 (tbT r s)]:=fun s h=>by
  have:=hra0 s h;rw [htb s h] at this;exact this
 clear hra0 htb;unfold rnA at hcl ⊢;have hfg:∀ s c,s < r.tab.length->aH 140 (rQ (gX t l r s c)):=fun s c hs=>by
  rw [hgX s c hs];exact nS (dH hf hR (htr s hs).1)
 generalize hnn:(aD r l).length=n at *;generalize gX t l r=g at *;generalize aD r l=X at *;generalize aG r l=cA at *;generalize aT r l=col at *;generalize tbT r=row at *;generalize tbS r=tb at *;dsimp only [NX];clear hT htab hr hB;obtain ⟨rf,rt,tab,adr,cap,lo,hi⟩:=r;dsimp only at hadr hcl h0 hS hst hgX htr hra hfg ⊢;subst hadr;generalize hSS:tab.length=S at *;clear hSS;refine vZ [(0,.agg #[.int .i64 rf,.int .i64 rt,.slice (some ⟨ba,oa,none⟩) S cap,.int .i64 lo,.int .i64 hi]),(1,.slice b l.length d),(2,.func (.func 144) #[] #[.pointer (some ⟨B1,0,none⟩),.pointer (some ⟨B2,0,none⟩)])] hw Tryz.func146 Tryz.ntmps146 ?_;repeat' first|(refine gp ?_;and_intros<;>first|exact trivial|repeat first|intro(Bk:Nat)|intro h)|(apply J.Py (.q 0 <| .q 1 <| .q 2 <| .e 3 <| .q 4 <| .r 5 <| .q 6 <| .nil);exact Tryz.Pr;decide +kernel)|(refine G.cL (g:=76) (sz:=2) (f:=hoV) (fun v=>v) X rfl rfl (fun w' hw=>(hcl w' hw.below).mono fun e w2 hh=>?_) ?_;exact hh;intro ca cc hp1 hp2;clear hp2;rw [hnn];obtain ⟨bca,oca,rfl⟩:=hp1 om)|(apply G.PD (n:=n) [.int .i64 0];rfl;rfl;rfl;rfl;rfl;rfl;rfl;rfl;omega;omega;intro Bl)
 rw [AP];rename_i Br;obtain ⟨Bt,rfl⟩:∃ x,x=Bk:=⟨_,rfl⟩;clear hcl hp1;refine J.loop (c:=_) ((0,List.replicate n 0):Nat×List Int) (fun s=>n-s.1) (fun s=>[(2,.func (.func 144) #[] #[.pointer (some ⟨B1,0,none⟩),.pointer (some ⟨B2,0,none⟩)]),(7,.pointer (some ⟨Bt,0,none⟩)),(3,.pointer (some ⟨Br,0,none⟩)),(8,.slice (some ⟨Bl,0,none⟩) n n),(33,.slice (some ⟨bca,oca,none⟩) n cc),(34,.int .i64 n),(35,.int .i64 s.1)]) (fun s=>.blk Bl 3 (flat isV s.2) (n*1)::.blk Bt 200 [.int .i64 rf,.int .i64 rt,.slice (some ⟨ba,oa,none⟩) S cap,.int .i64 lo,.int .i64 hi,.slice (some ⟨bca,oca,none⟩) n cc,.slice none 0 0,.slice none 0 0] 8::aL w0.heap.size (some ⟨bca,oca,none⟩) 2 (X.map hoV)::.blk Br 67 [.int .i64 rf,.int .i64 rt,.slice (some ⟨ba,oa,none⟩) S cap,.int .i64 lo,.int .i64 hi] 5::M0) (fun s=>s.1<=n/\s.2.length=n/\∀ j,j < s.1->s.2[j]?=some (col j)) ?_ sbT sbL ?_
 ·exact ⟨Nat.zero_le _,by simp,fun j h=>absurd h (Nat.not_lt_zero _)⟩
 intro ⟨c,LF⟩ ⟨hcn,hll,hlf⟩ ihc;dsimp only at hcn hll hlf ⊢;by_cases hcc:c < n
 ·have ihc:=ihc (c+1,LF.set c (col c)) ⟨hcc,by rw [List.length_set];exact hll,fun j h=>by
   dsimp only at h ⊢
   by_cases e:j=c
   ·subst e;exact List.getElem?_set_self om
   ·rw [List.getElem?_set_ne fun e2=>e e2.symm];exact hlf j om⟩ (by dsimp only;omega)
  have hx:=hcat c hcc;have hset:=rX (l:=LF) (b:=c) om (col c);repeat' first|(refine gp ?_;and_intros<;>first|exact trivial|repeat first|intro(Bk:Nat)|intro h)|(apply G.ld;rfl;exact LdV.Qw (f:=hoV) (N:=w0.heap.size) (.agg #[.int .i64 (cA c),.int .i64 (col c)]) hx mm rfl rfl;rfl)|(apply G.s1;rfl;rfl;rfl;(repeat (first|exact RAt.head|apply RAt.tail));exact ⟨rfl,rfl⟩;(rw [aO dE];omega);exact hset)
  exact J.fin ihc
 ·obtain rfl:n=c:=by omega
  clear ihc;have hlf0:(fun c=>LF.getD c 0)=fun c=>if c < n then col c else 0:=funext fun c=>by
   rw [gD];split
   ·rename_i h;rw [hlf c h];rfl
   ·rw [List.getElem?_eq_none om];rfl
  have hNH0:NH S n row col 0 0 (fun c=>LF.getD c 0) (xOf []):=by
   have h1:=NH.start hst fun c hc=>Int.le_of_lt (hcps c hc)
   have h2:xOf []=fun _ _=>0:=funext fun s=>funext fun c=>by unfold xOf;simp
   rw [h2];exact h1.congr fun c hc=>by rw [gD,hlf c hc];rfl
  clear hlf hcps hst;all_goals (refine go ?_;and_intros<;>first|exact trivial|repeat first|intro(Bk:Nat)|intro h)
  apply J.nilOwn (E:=61) (size:=1);apply J.nilOwn (E:=28) (size:=1);refine J.loop (c:=_) (⟨0,0,LF,[],[],.slice none 0 0,.slice none 0 0⟩:LpT) (fun s=>S-s.k) (fun s=>[(2,.func (.func 144) #[] #[.pointer (some ⟨B1,0,none⟩),.pointer (some ⟨B2,0,none⟩)]),(7,.pointer (some ⟨Bt,0,none⟩)),(8,.slice (some ⟨Bl,0,none⟩) n n),(11,.int .i64 s.a),(47,.slice (some ⟨ba,oa,none⟩) S cap),(48,.int .i64 S),(49,.int .i64 s.k)]) (fun s=>.own 0 s.vx 28 1 s.k (flat (eD n) s.XT)::.own 0 s.vc 61 1 s.k (flat (cY n) s.CT)::.blk Bl 3 (flat isV s.LF) (n*1)::.blk Bt 200 [.int .i64 rf,.int .i64 rt,.slice (some ⟨ba,oa,none⟩) S cap,.int .i64 lo,.int .i64 hi,.slice (some ⟨bca,oca,none⟩) n cc,s.vc,s.vx] 8::(rws eM s.CT++(rws (fO n) s.XT++(aL w0.heap.size (some ⟨bca,oca,none⟩) 2 (X.map hoV)::M0)))) (fun s=>s.k<=S/\I0 s.k n g s.CT/\kJ s.k n s.XT/\s.LF.length=n/\NH S n row col s.k s.a (fun c=>s.LF.getD c 0) (xOf s.XT)) ?_ sbT sbL ?_
  ·exact ⟨Nat.zero_le _,⟨rfl,fun s h=>absurd h (Nat.not_lt_zero _)⟩,⟨rfl,fun s h=>absurd h (Nat.not_lt_zero _)⟩,hll,hNH0⟩
  clear hll hNH0;intro ⟨s,a,LF,CT,XT,vc,vx⟩ ⟨hs,hCT,hXT,hll,hNH⟩ ihs;dsimp only at hs hCT hXT hll hNH ⊢;by_cases hsS:s < S
  ·have hrs:=hra s hsS
   have hts:=htr s hsS;have hcl:=hCT.len;have hxl:=hXT.len;all_goals (refine goR ?_;and_intros<;>(try exact trivial)<;>repeat (first|refine fun (Bk:Nat)=>?_|intro h))
   obtain ⟨Bh,rfl⟩:∃ x,x=Bk:=⟨_,rfl⟩;refine J.QG (X:=Value×Value×Nat) (fun x=>[(2,.func (.func 144) #[] #[.pointer (some ⟨B1,0,none⟩),.pointer (some ⟨B2,0,none⟩)]),(7,.pointer (some ⟨Bt,0,none⟩)),(8,.slice (some ⟨Bl,0,none⟩) n n),(11,.int .i64 a),(12,.int .i64 s),(13,.pointer (some ⟨Bh,0,none⟩)),(47,.slice (some ⟨ba,oa,none⟩) S cap),(48,.int .i64 S),(49,.int .i64 s)]) (fun x=>.blk x.2.2 3 (flat isV (List.replicate n 0)) (n*1)::.own 0 x.2.1 28 1 (s+1) (flat (eD n) XT++[.slice (some ⟨x.2.2,0,none⟩) n n])::.own 0 x.1 61 1 (s+1) (flat (cY n) CT++[.slice none 0 0])::.blk Bl 3 (flat isV LF) (n*1)::.blk Bt 200 [.int .i64 rf,.int .i64 rt,.slice (some ⟨ba,oa,none⟩) S cap,.int .i64 lo,.int .i64 hi,.slice (some ⟨bca,oca,none⟩) n cc,x.1,x.2.1] 8::.blk Bh 95 [.int .i64 (tb s),.int .i64 (row s)] 2::(rws eM CT++(rws (fO n) XT++(aL w0.heap.size (some ⟨bca,oca,none⟩) 2 (X.map hoV)::M0)))) ?_ ?_
   ·
    intro hk2;all_goals (refine goG ?_;and_intros<;>(try exact trivial)<;>repeat (first|refine fun (Bk:Nat)=>?_|intro h))
    repeat' ((first|(apply G.QR)|(apply G.Pu;rfl;rfl;rfl;rfl;rfl;rfl;rfl;rfl;intro Bs)|(apply G.PD (n:=n) [.int .i64 0];rfl;rfl;rfl;rfl;rfl;rfl;rfl;rfl;omega;omega;intro Bx)|(apply G.QW;rfl;rfl;rfl;(repeat (first|exact RAt.head|apply RAt.tail));exact cB.blk (by exact mm) rfl rfl;exact rfl;omega;omega;(intro v';(repeat' (first|exact List.nil_sublist _|exact List.Sublist.refl _|apply List.Sublist.cons_cons|apply List.Sublist.cons)));(intro v';exact mm);intro a2 c2)|(apply G.PY;rfl;rfl;rfl;(repeat (first|exact RAt.head|apply RAt.tail));exact cB.blk (by exact mm) rfl rfl;exact rfl;omega;omega;(intro v';(repeat' (first|exact List.nil_sublist _|exact List.Sublist.refl _|apply List.Sublist.cons_cons|apply List.Sublist.cons)));(intro v';exact mm);intro a2 c2)|(apply G.ap;rfl;rfl;rfl;(repeat (first|exact RAt.head|apply RAt.tail));exact cB.blk (by exact mm) rfl rfl;exact rfl;omega;omega;intro v2;apply G.PR (by exact mm);intro a2 c2 hv2;subst hv2)|(apply J.PB [.blk Bt 200 [.int .i64 rf,.int .i64 rt,.slice (some ⟨ba,oa,none⟩) S cap,.int .i64 lo,.int .i64 hi,.slice (some ⟨bca,oca,none⟩) n cc,vc,vx] 8] (.q 0 <| .q 1 <| .q 2 <| .q 3 <| .q 4 <| .q 5 <| .q 8 <| .q 9 <| .q 10 <| .q 11 <| .q 12 <| .q 13 <| .q 14 <| .q 15 <| .q 16 <| .f 6 (.f 7 (.e 17 <| .e 18 <| .r 19 <| .q 20 <| .q 21 <| .r 22 <| .q 23 <| .q 24 <| .r 25 <| .nil) 17 (.f 7 (.e 18 <| .r 19 <| .q 20 <| .q 21 <| .r 22 <| .q 23 <| .q 24 <| .r 25 <| .nil) 18 (.e 7 <| .r 19 <| .q 20 <| .q 21 <| .r 22 <| .q 23 <| .q 24 <| .r 25 <| .nil))) 17 (.f 6 (.f 7 (.e 18 <| .r 19 <| .q 20 <| .q 21 <| .r 22 <| .q 23 <| .q 24 <| .r 25 <| .nil) 18 (.e 7 <| .r 19 <| .q 20 <| .q 21 <| .r 22 <| .q 23 <| .q 24 <| .r 25 <| .nil)) 18 (.e 6 <| .e 7 <| .r 19 <| .q 20 <| .q 21 <| .r 22 <| .q 23 <| .q 24 <| .r 25 <| .nil)));exact Tryz.Pr;decide +kernel;(repeat' (first|exact List.nil_sublist _|exact List.Sublist.refl _|apply List.Sublist.cons_cons|apply List.Sublist.cons))))<;>(refine goG ?_;and_intros<;>(try exact trivial)<;>repeat (first|refine fun (Bk:Nat)=>?_|intro h)))
    all_goals
     rw [AP];exact J.P1 (hk2 (_,_,_))
   intro ⟨vc1,vx1,Bx⟩
   try dsimp only
   refine J.ownOpen (RAt.tail RAt.head) om ?_;intro gx kx hkx1 hkx2 ex;subst ex;refine J.ownOpen (RAt.tail (RAt.tail RAt.head)) om ?_;intro gc kc hkc1 hkc2 ec;subst ec
   try dsimp only
   all_goals (refine go ?_;and_intros<;>first|exact trivial|repeat first|intro(Bk:Nat)|intro h)
   apply J.nilOwn (E:=25) (size:=3);have hlen1:(flat (cY n) CT).length=s:=by
    rw [aO (f:=cY n) (fun _=>rfl),Nat.mul_one];exact hcl
   have hcell:∀ v:Value,(flat (cY n) CT++[v])[0+s*1]?=some v:=fun v=>by
    rw [Nat.zero_add,Nat.mul_one,List.getElem?_append_right om,hlen1,Nat.sub_self];rfl
   have hcset:∀ v v':Value,dU (flat (cY n) CT++[v]) (0+s*1) [v']=flat (cY n) CT++[v']:=fun v v'=>by
    rw [EJ,Nat.zero_add,Nat.mul_one,List.set_append_right _ _ om,hlen1,Nat.sub_self];rfl
   have hclen:∀ v:Value,0+s*1 < (flat (cY n) CT++[v]).length:=fun v=>by
    rw [List.length_append,hlen1];show 0+s*1 < s+1
    omega
   refine J.loop (c:=_) ((0,.slice none 0 0,[]):Nat×Value×List Rat) (fun x=>n-x.1) (fun x=>[(2,.func (.func 144) #[] #[.pointer (some ⟨B1,0,none⟩),.pointer (some ⟨B2,0,none⟩)]),(7,.pointer (some ⟨Bt,0,none⟩)),(8,.slice (some ⟨Bl,0,none⟩) n n),(11,.int .i64 a),(12,.int .i64 s),(13,.pointer (some ⟨Bh,0,none⟩)),(47,.slice (some ⟨ba,oa,none⟩) S cap),(48,.int .i64 S),(49,.int .i64 s),(81,.slice (some ⟨bca,oca,none⟩) n cc),(82,.int .i64 n),(83,.int .i64 x.1)]) (fun x=>.own 0 x.2.1 25 3 x.1 (flat qW x.2.2)::.blk Bx 3 (flat isV (List.replicate n 0)) (n*1)::.blk gx 28 (flat (eD n) XT++[.slice (some ⟨Bx,0,none⟩) n n]) (kx*1)::.blk gc 61 (flat (cY n) CT++[x.2.1]) (kc*1)::.blk Bl 3 (flat isV LF) (n*1)::.blk Bt 200 [.int .i64 rf,.int .i64 rt,.slice (some ⟨ba,oa,none⟩) S cap,.int .i64 lo,.int .i64 hi,.slice (some ⟨bca,oca,none⟩) n cc,.slice (some ⟨gc,0,none⟩) (s+1) kc,.slice (some ⟨gx,0,none⟩) (s+1) kx] 8::.blk Bh 95 [.int .i64 (tb s),.int .i64 (row s)] 2::(rws eM CT++(rws (fO n) XT++(aL w0.heap.size (some ⟨bca,oca,none⟩) 2 (X.map hoV)::M0)))) (fun x=>x.1<=n/\x.2.2.length=x.1/\∀ j,j < x.1->x.2.2[j]?=some (g s j)) ?_ sbT sbL ?_
   ·exact ⟨Nat.zero_le _,rfl,fun j h=>absurd h (Nat.not_lt_zero _)⟩
   intro ⟨c,v,L⟩ ⟨hcn,hLl,hLg⟩ ihc;dsimp only at hcn hLl hLg ⊢;by_cases hcc:c < n
   ·
    have ihc:=fun v'=>ihc (c+1,v',L++[g s c]) ⟨hcc,by simp [hLl],fun j h=>by
     dsimp only at h ⊢
     by_cases e:j=c
     ·subst e;rw [List.getElem?_append_right om,hLl,Nat.sub_self];rfl
     ·rw [List.getElem?_append_left om];exact hLg j om⟩ (by dsimp only;omega)
    dsimp only at ihc;have hx:=hcat c hcc;have hrt:=fun w' a b c'=>hrate (cA c) (tb s) w' a b c' (hclt c hcc) hts.1
    rw [<- hgX s c hsS] at hrt;have hap:flat qW L++[.bool (rQ (g s c)).neg,.string (bs (rQ (g s c)).num),.string (bs (rQ (g s c)).den)]=flat qW (L++[g s c]):=(eJ L _).symm;have hv0:=hcell v;have hs0:=hcset v;have hl0:=hclen v;generalize hq:rQ (g s c)=q at hap hrt;clear hq hLg hNH ihs;obtain ⟨n1,u1,d1⟩:=q;dsimp only [qA] at hap hrt;repeat' first|(refine gp ?_;and_intros<;>first|exact trivial|repeat first|intro(Bk:Nat)|intro h)|(apply G.ld;rfl;exact LdV.Qw (f:=hoV) (N:=w0.heap.size) (.agg #[.int .i64 (cA c),.int .i64 (col c)]) hx (by (repeat (first|exact List.Mem.head _|apply List.Mem.tail|apply List.mem_append_right))) rfl rfl;rfl)|(apply G.ld;rfl;(apply LdV.one;apply aC.blk;exact mm;exact hv0);rfl)|(apply G.cF (g:=144);rfl;rfl;rfl;exact fun w' hw'=>hrt w' (hw'.rowAt (by (repeat (first|exact hm1|apply List.Mem.tail|apply List.mem_append_right)))) (hw'.rowAt (by (repeat (first|exact hm2|apply List.Mem.tail|apply List.mem_append_right)))) hw'.below)|(refine J.PB _ (.q 0 <| .q 1 <| .q 2 <| .q 3 <| .q 4 <| .q 5 <| .q 6 <| .q 7 <| .q 8 <| .q 9 <| .q 10 <| .q 11 <| .q 12 <| .q 13 <| .q 14 <| .q 15 <| .q 16 <| .q 17 <| .e 18 <| .e 19 <| .q 20 <| .r 21 <| .nil) Tryz.Pr (by decide +kernel) (List.Sublist.cons_cons _ (List.Sublist.cons _ (List.Sublist.refl _))) ?_)|(apply G.Pu;rfl;rfl;rfl;rfl;rfl;rfl;rfl;rfl;intro Bs)|(apply G.PY;rfl;rfl;rfl;(repeat (first|exact RAt.head|apply RAt.tail));exact cB.blk (by exact mm) rfl rfl;exact hap;omega;omega;(intro v';exact List.Sublist.cons _ (List.Sublist.cons_cons _ (List.Sublist.cons _ (List.Sublist.refl _))));(intro v';exact mm);intro a2 c2)|(apply G.s1;rfl;rfl;rfl;(repeat (first|exact RAt.head|apply RAt.tail));exact ⟨rfl,rfl⟩;exact hl0;exact hs0 _)
    exact J.P1 (ihc _)
   ·obtain rfl:n=c:=by omega
    clear ihc;refine J.ownOpen RAt.head om ?_;intro gv kv hkv1 hkv2 ev;subst ev
    try dsimp only
    have hCT1:=hCT.snoc (b:=gv) (c:=kv) (L:=L) hLl hLg;have hXT1:=hXT.snoc (b:=Bx) (L:=List.replicate n 0) (by simp)
    rw [show flat (cY n) CT++[.slice (some ⟨gv,0,none⟩) n kv]=flat (cY n) (CT++[(gv,kv,L)]) from (eJ (f:=cY n) CT (gv,kv,L)).symm,show flat (eD n) XT++[.slice (some ⟨Bx,0,none⟩) n n]=flat (eD n) (XT++[(Bx,List.replicate n 0)]) from (eJ (f:=eD n) XT (Bx,List.replicate n 0)).symm]
    refine J.P7 (F:=eM) (T:=CT) [.blk Bx 3 (flat isV (List.replicate n 0)) (n*1),.blk gx 28 (flat (eD n) (XT++[(Bx,List.replicate n 0)])) (kx*1),.blk gc 61 (flat (cY n) (CT++[(gv,kv,L)])) (kc*1),.blk Bl 3 (flat isV LF) (n*1),.blk Bt 200 [.int .i64 rf,.int .i64 rt,.slice (some ⟨ba,oa,none⟩) S cap,.int .i64 lo,.int .i64 hi,.slice (some ⟨bca,oca,none⟩) n cc,.slice (some ⟨gc,0,none⟩) (s+1) kc,.slice (some ⟨gx,0,none⟩) (s+1) kx] 8,.blk Bh 95 [.int .i64 (tb s),.int .i64 (row s)] 2] (gv,kv,L) ?_;refine J.P7 (F:=fO n) (T:=XT) ([.blk gx 28 (flat (eD n) (XT++[(Bx,List.replicate n 0)])) (kx*1),.blk gc 61 (flat (cY n) (CT++[(gv,kv,L)])) (kc*1),.blk Bl 3 (flat isV LF) (n*1),.blk Bt 200 [.int .i64 rf,.int .i64 rt,.slice (some ⟨ba,oa,none⟩) S cap,.int .i64 lo,.int .i64 hi,.slice (some ⟨bca,oca,none⟩) n cc,.slice (some ⟨gc,0,none⟩) (s+1) kc,.slice (some ⟨gx,0,none⟩) (s+1) kx] 8,.blk Bh 95 [.int .i64 (tb s),.int .i64 (row s)] 2]++rws eM (CT++[(gv,kv,L)])) (Bx,List.replicate n 0) ?_;have hxe:xOf (XT++[(Bx,List.replicate n 0)])=xOf XT:=NZ;have hcl1:(flat (cY n) (CT++[(gv,kv,L)])).length=s+1:=by rw [aO (f:=cY n) (fun _=>rfl),Nat.mul_one,List.length_append,hcl];rfl
    generalize CT++[(gv,kv,L)]=CT1 at *;generalize XT++[(Bx,List.replicate n 0)]=XT1 at *;have hNI0:=hNH.inner (hr0 s);rw [<- hxe] at hNI0;clear hNH hxe hCT hXT hcell hcset hclen hLg hcl hxl;all_goals (refine go ?_;and_intros<;>first|exact trivial|repeat first|intro(Bk:Nat)|intro h)
    refine J.loop (c:=_) ((row s,a,LF,XT1):Int×Nat×List Int×List (Nat×List Int)) (fun x=>(n-x.2.1)+x.1.toNat) (fun x=>[(2,.func (.func 144) #[] #[.pointer (some ⟨B1,0,none⟩),.pointer (some ⟨B2,0,none⟩)]),(7,.pointer (some ⟨Bt,0,none⟩)),(8,.slice (some ⟨Bl,0,none⟩) n n),(11,.int .i64 x.2.1),(12,.int .i64 s),(16,.int .i64 x.1),(47,.slice (some ⟨ba,oa,none⟩) S cap),(48,.int .i64 S),(49,.int .i64 s)]) (fun x=>.blk gx 28 (flat (eD n) XT1) (kx*1)::.blk gc 61 (flat (cY n) CT1) (kc*1)::.blk Bl 3 (flat isV x.2.2.1) (n*1)::.blk Bt 200 [.int .i64 rf,.int .i64 rt,.slice (some ⟨ba,oa,none⟩) S cap,.int .i64 lo,.int .i64 hi,.slice (some ⟨bca,oca,none⟩) n cc,.slice (some ⟨gc,0,none⟩) (s+1) kc,.slice (some ⟨gx,0,none⟩) (s+1) kx] 8::(rws eM CT1++(rws (fO n) x.2.2.2++(aL w0.heap.size (some ⟨bca,oca,none⟩) 2 (X.map hoV)::M0)))) (fun x=>NI S n row col s x.1 x.2.1 (fun c=>x.2.2.1.getD c 0) (xOf x.2.2.2)/\kJ (s+1) n x.2.2.2/\flat (eD n) x.2.2.2=flat (eD n) XT1/\x.2.2.1.length=n) ?_ sbT sbL ?_
    ·exact ⟨hNI0,hXT1,rfl,hll⟩
    clear hNI0 hXT1 hll;intro ⟨m,a,LF,XU⟩ ⟨hNI,hXU,hfx,hll⟩ ihm;dsimp only at hNI hXU hfx hll ⊢;have hs1:s < s+1:=Nat.lt_succ_self s;by_cases hm:0 < m
    ·have ha:=hNI.lt hsS hr0 hm
     have hlf:(flat isV LF)[0+a*1]?=some (.int .i64 (LF.getD a 0)):=by
      refine gA (f:=isV) dE (i:=a) om ?_;rw [gD,gE om];rfl
     have hl1:0<=LF.getD a 0:=hNI.lnn a ha;have hl2:LF.getD a 0<=1402560:=by
      have h1:=hNI.col a ha;have h2:=qI (f:=fun t=>xOf XU t a) (n:=S) fun i _=>hNI.nn i a
      have h3:=hcolb a ha
      try dsimp only at h1
      omega
     have hx0:∀ c,0<=xOf XU s c:=fun c=>hNI.nn s c
     have hx1:xOf XU s a<=1402560:=by
      have h1:=fZ (f:=xOf XU s) (n:=n) (fun c _=>hx0 c) a ha
      rw [hNI.cur] at h1;have:=hts.2.2;omega
     have hm2:m<=1402560:=by
      have h1:=qI (f:=xOf XU s) (n:=n) fun c _=>hx0 c
      rw [hNI.cur] at h1;have:=hts.2.2;omega
     have hx0a:=hx0 a;by_cases hz:LF.getD a 0=0
     ·have ihm:=ihm (m,a+1,LF,XU) ⟨hNI.skip hz,hXU,hfx,hll⟩ (by dsimp only;omega)
      clear hNI hx0 ihs;generalize LF.getD a 0=lfa at *;repeat' first|(refine gp ?_;and_intros<;>first|exact trivial|repeat first|intro(Bk:Nat)|intro h)|(apply G.ld;rfl;(apply LdV.one;apply aC.blk;exact mm;exact hlf);rfl)
      exact J.P1 ihm
     ·have hNI2:=hNI.take hsS ha (k:=min m (LF.getD a 0)) om (Int.min_le_left _ _) (Int.min_le_right _ _)
      have hal:a < LF.length:=by omega
      rw [<- OO hXU hs1 ha] at hNI2;have e1:=NY hal (min m (LF.getD a 0));rw [<- e1] at hNI2;have hpos:0 < min m (LF.getD a 0):=by omega
      have hrat:=Ge hXU hs1 (aL w0.heap.size (some ⟨bca,oca,none⟩) 2 (X.map hoV)::M0);have hhd:=H5 hXU hs1;rw [hfx] at hhd;have hce:=vJ hXU hs1 ha;have hme:=AU hXU hs1 (aL w0.heap.size (some ⟨bca,oca,none⟩) 2 (X.map hoV)::M0);have hxl:=AV hXU hs1;have hpr:=AR (n:=n) (XT:=XU) (s:=s) (c:=a) (xOf XU s a+min m (LF.getD a 0));have ihm:=ihm (m-min m (LF.getD a 0),a,LF.set a (LF.getD a 0-min m (LF.getD a 0)),wU XU s a (xOf XU s a+min m (LF.getD a 0))) ⟨hNI2,D8 hXU hs1 _,by dsimp only;rw [rY hXU hs1];exact hfx,by dsimp only;rw [List.length_set];exact hll⟩ (by dsimp only;omega)
      dsimp only at ihm;rw [<- hpr] at ihm;have hset2:=rX hal (LF.getD a 0-min m (LF.getD a 0));clear hNI hNI2 hx0 ihs e1 hpr hXU;have hk1:min m (LF.getD a 0)<=m:=Int.min_le_left _ _;have hk2:min m (LF.getD a 0)<=LF.getD a 0:=Int.min_le_right _ _;generalize XU.getD s (0,[])=xe at *;generalize xOf XU s a=xv at *;generalize LF.getD a 0=lfa at *;obtain ⟨bxe,Lxe⟩:=xe;dsimp only [fO] at hrat hhd hce hme hxl ihm;have hset1:=rX (l:=Lxe) (b:=a) om (xv+min m lfa);repeat' first|(refine gp ?_;and_intros<;>first|exact trivial|repeat first|intro(Bk:Nat)|intro h)|(apply G.ld;rfl;(apply LdV.one;apply aC.blk;exact mm;exact hlf);rfl)|(apply G.ld;rfl;(apply LdV.one;apply aC.blk;exact mm;exact hhd);rfl)|(apply G.ld;rfl;(apply LdV.one;apply aC.blk;((repeat (first|exact List.mem_append_right _ hme|apply List.Mem.tail)));exact hce);rfl)|(apply G.s1;rfl;rfl;rfl;exact RAt.tail (RAt.tail (RAt.tail (RAt.tail (RAt.app hrat _))));exact ⟨rfl,rfl⟩;(rw [aO dE];omega);exact hset1)|(apply G.s1;rfl;rfl;rfl;(repeat (first|exact RAt.head|apply RAt.tail));exact ⟨rfl,rfl⟩;(rw [aO dE];omega);exact hset2)
      exact J.P1 ihm
    ·obtain rfl:m=0:=by have:=hNI.mn;omega
     clear ihm;have hxl1:(flat (eD n) XT1).length=s+1:=by rw [<- hfx,aO (f:=eD n) (fun _=>rfl),Nat.mul_one];exact hXU.len
     refine J.PZ (s+1) RAt.head hkx1 hkx2 om (List.take_of_length_le om) ?_;refine J.PZ (s+1) (RAt.tail RAt.head) hkc1 hkc2 om (List.take_of_length_le om) ?_;have ihs:=ihs ⟨s+1,a,LF,CT1,XU,.slice (some ⟨gc,0,none⟩) (s+1) kc,.slice (some ⟨gx,0,none⟩) (s+1) kx⟩ ⟨hsS,hCT1,hXU,hll,hNI.next⟩ (by dsimp only;omega)
     dsimp only at ihs;rw [hfx] at ihs;clear hNI;all_goals (refine go ?_;and_intros<;>first|exact trivial|repeat first|intro(Bk:Nat)|intro h)
     exact J.P1 ihs
  ·obtain rfl:S=s:=by omega
   clear ihs;have hfe:=hNH.feas;refine J.ownOpen RAt.head om ?_;intro gx kx hkx1 hkx2 ex;subst ex;refine J.ownOpen (RAt.tail RAt.head) om ?_;intro gc kc hkc1 hkc2 ec;subst ec
   try dsimp only
   all_goals (refine go ?_;and_intros<;>first|exact trivial|repeat first|intro(Bk:Nat)|intro h)
   (refine kE Tryz.func146 Tryz.results146 ?_;intro w' hw)
   exact ⟨⟨⟨Bt,gc,gx,kc*1,kx*1,kc,kx,some ⟨bca,oca,none⟩,cc,CT,XT⟩,hCT,hXT,hfe,⟨_,_,rfl⟩⟩,rfl,hw.sel⟩
def kT (l:List Spn) (x:Int):Nat:=k0C (mkR x 0 0) l
theorem C1 (l:List Spn) (x:Int):kT l x<=l.length:=Cy _ _
theorem ET {l:List Spn}{x:Int} (hl:aR 0 l) (h:kT l x < l.length) (hx:l[kT l x].from_<=x):bO l x=(kT l x:Int):=by
 have h1:=EM (r:=mkR x 0 0) hl (Nat.le_refl _) h;have h2:inS x l[kT l x]=true:=by
  simp only [inS,Bool.and_eq_true,decide_eq_true_eq];exact ⟨hx,h1⟩
 have h3:=(hl.at (t:=x) h).2 h2;rw [bO,if_pos om,h3]
theorem rZ {l:List Spn}{x:Int} (hl:aR 0 l) (h:∀ h:kT l x < l.length,x < l[kT l x].from_):bO l x=-1:=by
 rw [bO,if_neg];intro h1;have h2:=wI h1;simp only [inS,Bool.and_eq_true,decide_eq_true_eq] at h2;by_cases e:bW l x < kT l x
 ·have h3:=EL (r:=mkR x 0 0) e
  have h4:(mkR x 0 0).from_=x:=rfl;omega
 ·have hk:kT l x < l.length:=by omega
  have h5:=h hk;by_cases e2:kT l x=bW l x
  ·have:l[kT l x].from_=l[bW l x].from_:=by simp only [e2]
   omega
  ·have h6:=hl.sep (i:=kT l x) (j:=bW l x) om h1
   have h7:=hl.lt hk;omega
theorem I3 {w0 w:World}{M:List Row}{B1 B3 e1 e3 t1 t3 d:Nat}{b:Option Addr}{l:List Spn}{x:Int} (hA:aE w0 b 7 (l.map spV)) (hl:aR 0 l) (hn:l.length<=400) (hw:Sat w0 M w) (hm1:Row.blk B1 e1 [.slice b l.length d] t1∈M) (hm3:Row.blk B3 e3 [.int .i64 x] t3∈M) :
  CR 124 #[.int .i64 l.length,.func (.func 148) #[] #[.pointer (some ⟨B1,0,none⟩),.pointer (some ⟨B3,0,none⟩)]] w (.int .i64 (kT l x)):=by
 refine kW 148 _ l.length (kT l x) (fun i=>match l[i]? with|none=>true|some s=>decide (x < s.to_)) w om (C1 l x) (fun i hi=>?_) (fun i h1 h2=>?_) fun k hk w' hb=>?_
 ·have h1:=EL (r:=mkR x 0 0) hi
  have h4:(mkR x 0 0).from_=x:=rfl;rw [gE (Nat.lt_of_lt_of_le hi (C1 l x))];exact dF om
 ·rw [gE h2]
  exact dT (EM (r:=mkR x 0 0) hl h1 h2)
 ·rw [gE hk]
  obtain ⟨bb,ob,rfl,hrow⟩:=aE.all hA om;exact I2 k x B1 B3 bb ob d l w' hk ((hw.rowAt hm1).below hb) ((hw.rowAt hm3).below hb) (((hrow k hk).below hw.below).below hb)
theorem EU:∀ (K:List Nat) (q:Nat->List Int) (j c:Nat),K[j]?=some c->(qP K q)[j]?=some (((q c).drop ((K.take j).count c)).headD 0)
 | [],_,_,_,h=>by simp at h
 | k::K,q,0,c,h=>by
  rw [List.getElem?_cons_zero] at h
  cases h;rw [qP,List.getElem?_cons_zero,List.take_zero,List.count_nil,List.drop_zero]
 | k::K,q,j+1,c,h=>by
  rw [List.getElem?_cons_succ] at h
  rw [qP,List.getElem?_cons_succ,EU K (tlI q k) j c h,List.take_succ_cons,List.count_cons];unfold tlI;by_cases e:c=k
  ·subst e
   rw [if_pos rfl,if_pos (by simp),List.drop_tail]
  ·rw [if_neg e,if_neg (by simpa using fun e2=>e e2.symm),Nat.add_zero]
def gN (r:Rn) (l:List Spn) (j c:Nat):Nat:=((kL r l).take j).count c
theorem C2 (r:Rn) (l:List Spn) (c:Nat):gN r l 0 c=0:=by rw [gN,List.take_zero,List.count_nil]
theorem wV {r:Rn}{l:List Spn}{j k:Nat} (h:(kL r l)[j]?=some k) (c:Nat):gN r l (j+1) c=gN r l j c+if c=k then 1 else 0:=by
 have hj:j < (kL r l).length:=(List.getElem?_eq_some_iff.1 h).1;rw [gN,gN,List.take_add_one,h,List.count_append];show _+([k]:List Nat).count c=_
 rw [List.count_singleton];by_cases e:c=k
 ·subst e;rw [if_pos (by simp),if_pos rfl]
 ·rw [if_neg (by simpa using fun e2=>e e2.symm),if_neg e]
theorem Mm (r:Rn) (l:List Spn) (j c:Nat):gN r l j c<=(kL r l).count c:=(List.take_sublist j (kL r l)).count_le c
theorem Oa {t:Bool}{r:Rn}{l:List Spn}{X:Nat->Nat->Int}{j k:Nat} (h:(kL r l)[j]?=some k) (hq:(kL r l).count k<=(jL t l r X k).length):gN r l j k < (jL t l r X k).length/\(sM t l r X)[j]?=(jL t l r X k)[gN r l j k]?:=by
 have h1:=Mm r l (j+1) k;rw [wV h,if_pos rfl] at h1;have h2:gN r l j k < (jL t l r X k).length:=by omega
 refine ⟨h2,?_⟩;rw [sM,EU _ _ _ _ h,show ((kL r l).take j).count k=gN r l j k from rfl]
 rw [gE h2,List.drop_eq_getElem_cons h2];rfl
theorem MS {r:Rn}{l:List Spn}{j:Nat} (h:j < (r.to_-r.from_).toNat):(kL r l)[j]?=some (dG r l (r.from_+j)):=FW _ h
theorem Mo {t:Bool}{r:Rn}{l:List Spn}{X:Nat->Nat->Int}:(sM t l r X).length=(r.to_-r.from_).toNat:=by rw [sM,Cw,FX]
theorem iR.snoc {t:Bool}{l:List Spn}:∀ {rs:List Rn}{r:Rn}{A B:List Int},iR t l rs A->nR t l r B->iR t l (rs++[r]) (A++B)
 | [],r,A,B,h,hb=>by
  rw [show A=[] from h,List.nil_append,List.nil_append]
  exact ⟨B,[],by rw [List.append_nil],hb,rfl⟩
 | x::rs,r,A,B,⟨A1,A2,e,h1,h2⟩,hb=>by
  subst e;exact ⟨A1,A2++B,by rw [List.append_assoc],h1,h2.snoc hb⟩
theorem sB {α:Type}{l:List α}{k:Nat} (h:k < l.length):l.take (k+1)=l.take k++[l[k]]:=by
 rw [List.take_add_one,gE h];rfl
theorem Kw:∀ {rs:List Rn}{f e:Int}{A:List Int}{k:Nat} (_:Cn f rs e) (_:∀ r∈rs,OkR r) (hk:k < rs.length) (_:AgS (rs.take k) A),rs[k].from_=f+A.length/\rs[k].to_<=e
 | [],_,_,_,k,_,_,hk,_=>absurd hk (Nat.not_lt_zero _)
 | r::rs,f,e,A,0,hc,ho,_,ha=>by
  rw [List.take_zero] at ha;rw [show A=[] from ha]
  obtain ⟨h1,h2⟩:=hc;have h3:=h2.le fun x hx=>ho x (mC _ hx)
  exact ⟨by rw [List.getElem_cons_zero,h1];simp,by rw [List.getElem_cons_zero];omega⟩
 | r::rs,f,e,A,k+1,hc,ho,hk,ha=>by
  rw [List.take_succ_cons] at ha;obtain ⟨A1,A2,e1,h1,h2⟩:=ha;obtain ⟨hc1,hc2⟩:=hc;have hr:=ho r (List.mem_cons_self ..);have ih:=Kw hc2 (fun x hx=>ho x (mC _ hx)) (by simpa using hk) h2
  have hl:=h1.len hr;rw [List.getElem_cons_succ,e1,List.length_append];refine ⟨?_,ih.2⟩;have:=ih.1;omega
theorem Mp {rs:List Rn}{f e:Int}{A:List Int} (hc:Cn f rs e) (ho:∀ r∈rs,OkR r) (ha:AgS rs A):(A.length:Int)=e-f:=by
 induction rs generalizing f A with
 | nil=>rw [show A=[] from ha];have:f=e:=hc;simp;omega
 | cons r rs ih =>
  obtain ⟨A1,A2,e1,h1,h2⟩:=ha;obtain ⟨hc1,hc2⟩:=hc;have hr:=ho r (List.mem_cons_self ..);have:=ih hc2 (fun x hx=>ho x (mC _ hx)) h2
  have hl:=h1.len hr;rw [e1,List.length_append];omega
def owF (p:Value×List Int):Row:=.own 0 p.1 3 1 p.2.length (flat isV p.2)
def opF (p:Nat×Nat×List Int):Row:=.blk p.1 3 (flat isV p.2.2) (p.2.1*1)
theorem iH {r:Rn}{l:List Spn}{c:Nat} (h:c < (aD r l).length):(aD r l)[c]?=some (aG r l c,aT r l c):=by
 rw [aG,aT,gD,gE h];rfl
theorem C3 (X:Nat->Nat->Int) (c:Nat):∀ {S s:Nat},s<=S->(gR X c s).length<=(gR X c S).length
 | 0,s,h=>by rw [Nat.le_zero.1 h];exact Nat.le_refl _
 | S+1,s,h=>by
  by_cases e:s=S+1
  ·rw [e];exact Nat.le_refl _
  ·have:=C3 X c (S:=S) (s:=s) om
   rw [gR,List.length_append];omega
def dW:Value×List Int:=(.slice none 0 0,[])
theorem DB {V:List (Value×List Int)}{c:Nat} (h:c < V.length):V.getD c dW=V[c]:=by
 rw [gD,gE h];rfl
theorem MU {V:List (Value×List Int)}{c:Nat} (h:c < V.length) (R:List Row):RAt (owF (V.getD c dW)) (rws owF V++R) (fun r'=>(rws owF V).set c r'++R):=by
 rw [DB h];exact FZ h
theorem MV {V:List (Value×List Int)}{c:Nat} (h:c < V.length) (r:Row) (R:List Row):r∈(rws owF V).set c r++R:=List.mem_append_left _ (List.mem_set (by rw [rws,List.length_map];exact h) r)
theorem Kx (V:List (Value×List Int)) (c:Nat) (v:Value) (xs:List Int) (x:Int):(rws owF V).set c (.own 0 v 3 1 (xs.length+1) (flat isV (xs++[x])))=rws owF (V.set c (v,xs++[x])):=by
 rw [<- D4,owF,List.length_append];rfl
structure QOk (r:Rn) (l:List Spn) (n:Nat) (V:List (Value×List Int)) (es:Array MapEntry) (ck:Nat) (L:List (Int×Value)) (Q:Nat->List Int):Prop where
 len:V.length=n
 q:∀ i,i < n->(V.getD i dW).2=Q i
 mp:dQ (Value.int .i64) es ck L
 g:∀ i,i < n->(jP (aG r l i) L).getD (.slice none 0 0)=(V.getD i dW).1
theorem QOk.congr {r:Rn}{l:List Spn}{n:Nat}{V:List (Value×List Int)}{es:Array MapEntry}{ck:Nat}{L:List (Int×Value)}{Q Q':Nat->List Int} (h:QOk r l n V es ck L Q) (he:∀ i,i < n->Q' i=Q i):QOk r l n V es ck L Q' :=
 ⟨h.len,fun i hi=>by rw [he i hi];exact h.q i hi,h.mp,h.g⟩
theorem QOk.start (r:Rn) (l:List Spn) (n:Nat):QOk r l n (List.replicate n dW) #[] 0 [] (fun _=>[]) :=
 ⟨by simp,fun i hi=>by rw [gD,List.getElem?_replicate,if_pos hi];rfl,dQ.nil,fun i hi=>by rw [gD,List.getElem?_replicate,if_pos hi];rfl⟩
theorem QOk.push {r:Rn}{l:List Spn}{n:Nat}{V:List (Value×List Int)}{es es':Array MapEntry}{ck ck':Nat}{L:List (Int×Value)}{Q:Nat->List Int} (h:QOk r l n V es ck L Q) (hn:n=(aD r l).length) {c:Nat} (hc:c < n) (x:Int) (v:Value) (hI:dQ (Value.int .i64) es' ck' (gH (aG r l c) v L)) :
  QOk r l n (V.set c (v,(V.getD c dW).2++[x])) es' ck' (gH (aG r l c) v L) (fun i=>if i=c then Q c++[x] else Q i):=by
 have hl:=h.len;have hg:∀ i,i < n->(V.set c (v,(V.getD c dW).2++[x])).getD i dW=if i=c then (v,(V.getD c dW).2++[x]) else V.getD i dW:=fun i hi=>by
  simp only [gD (l:=V.set c _)];by_cases e:i=c
  ·subst e;rw [if_pos rfl,List.getElem?_set_self om];rfl
  ·rw [if_neg e,List.getElem?_set_ne fun e2=>e e2.symm,gD]
 refine ⟨by rw [List.length_set];exact hl,fun i hi=>?_,hI,fun i hi=>?_⟩
 ·rw [hg i hi]
  by_cases e:i=c
  ·subst e;rw [if_pos rfl,if_pos rfl,h.q i hi]
  ·rw [if_neg e,if_neg e];exact h.q i hi
 ·rw [hg i hi,uF]
  by_cases e:i=c
  ·subst e;rw [if_pos rfl,if_pos rfl];rfl
  ·rw [if_neg e,if_neg fun e2=>e (Dz om om e2)];exact h.g i hi
def pF (Q:Nat->List Int) (c i:Nat) (x:Int):Nat->List Int:=fun j=>if j=c then Q c++List.replicate i x else Q j
theorem C4 (Q:Nat->List Int) (c:Nat) (x:Int):pF Q c 0 x=Q:=funext fun j=>by
 unfold pF;split
 ·rename_i e;rw [e,List.replicate_zero,List.append_nil]
 ·rfl
theorem I4 (Q:Nat->List Int) (c i:Nat) (x:Int):(fun j=>if j=c then pF Q c i x c++[x] else pF Q c i x j)=pF Q c (i+1) x:=funext fun j=>by
 unfold pF;by_cases e:j=c
 ·rw [if_pos e,if_pos rfl,if_pos e,List.append_assoc,List.replicate_succ']
 ·rw [if_neg e,if_neg e,if_neg e]
instance:BG Tryz.prog 194 3 28 (.slice none 0 0):=⟨by kernel_rfl,fun w=>Tryz.zeroValue28 w⟩
def dZ:Nat×Nat×List Int:=(0,0,[])
structure Gg (r:Rn) (l:List Spn) (n:Nat) (W:List (Nat×Nat×List Int)) (q:Nat->List Int) (j:Nat) (es:Array MapEntry) (ck:Nat) (L:List (Int×Value)):Prop where
 mp:dQ (Value.int .i64) es ck L
 g:∀ c,c < n->∃ o,jP (aG r l c) L=some (.slice (some ⟨(W.getD c dZ).1,o,none⟩) ((q c).length-gN r l j c) ((W.getD c dZ).2.1-gN r l j c))/\(gN r l j c < (q c).length->o=gN r l j c)
theorem Gg.start {r:Rn}{l:List Spn}{n:Nat}{V:List (Value×List Int)}{W:List (Nat×Nat×List Int)}{q:Nat->List Int}{es:Array MapEntry}{ck:Nat}{L:List (Int×Value)} (h:QOk r l n V es ck L q) (hl:W.length=V.length)
  (hW:∀ i (h1:i < W.length) (h2:i < V.length),V[i].1=.slice (some ⟨W[i].1,0,none⟩) V[i].2.length W[i].2.1/\W[i].2.2=V[i].2/\V[i].2.length<=W[i].2.1) :
  Gg r l n W q 0 es ck L/\∀ c,c < n->(W.getD c dZ).2.2=q c/\(q c).length<=(W.getD c dZ).2.1:=by
 have hn:=h.len;have hd:∀ c,c < n->V.getD c dW=V.getD c dW/\(V.getD c dW).1=.slice (some ⟨(W.getD c dZ).1,0,none⟩) (q c).length (W.getD c dZ).2.1/\(W.getD c dZ).2.2=q c/\(q c).length<=(W.getD c dZ).2.1:=fun c hc=>by
  have h1:=hW c om om;have h2:=h.q c hc;have e1:V.getD c dW=V[c]'om:=DB om;have e2:W.getD c dZ=W[c]'om:=by rw [gD,gE om];rfl
  rw [e1] at h2;refine ⟨rfl,?_⟩;rw [e1,e2,<- h2];exact h1
 refine ⟨⟨h.mp,fun c hc=>⟨0,?_,fun _=>(C2 r l c).symm⟩⟩,fun c hc=>(hd c hc).2.2⟩
 have h1:=h.g c hc;rw [(hd c hc).2.1] at h1;rw [C2,Nat.sub_zero,Nat.sub_zero];cases hg:jP (aG r l c) L with
 | none=>rw [hg] at h1;cases h1
 | some v=>rw [hg] at h1;exact congrArg some h1
theorem Gg.step {r:Rn}{l:List Spn}{n:Nat}{W:List (Nat×Nat×List Int)}{q:Nat->List Int}{j:Nat}{es es':Array MapEntry}{ck ck':Nat}{L:List (Int×Value)} (h:Gg r l n W q j es ck L) (hn:n=(aD r l).length) {k:Nat} (hk:(kL r l)[j]?=some k) (hkn:k < n) (hc:gN r l j k < (q k).length) (hcap:(q k).length<=(W.getD k dZ).2.1) {p:Int} (hp:aG r l k=p)
  (hI:dQ (Value.int .i64) es' ck' (gH p (.slice (oZ (some ⟨(W.getD k dZ).1,gN r l j k,none⟩) ((W.getD k dZ).2.1-gN r l j k) 1 1) ((q k).length-gN r l j k-1) ((W.getD k dZ).2.1-gN r l j k-1)) L)) :
  Gg r l n W q (j+1) es' ck' (gH p (.slice (oZ (some ⟨(W.getD k dZ).1,gN r l j k,none⟩) ((W.getD k dZ).2.1-gN r l j k) 1 1) ((q k).length-gN r l j k-1) ((W.getD k dZ).2.1-gN r l j k-1)) L):=by
 subst hp;refine ⟨hI,fun c hcn=>?_⟩
 rw [uF];by_cases e:c=k
 ·subst e
  rw [if_pos rfl,wV hk,if_pos rfl];by_cases h1:(W.getD c dZ).2.1-gN r l j c=1
  ·refine ⟨gN r l j c,?_,fun h2=>by omega⟩
   rw [oZ,if_pos h1,Nat.sub_sub,Nat.sub_sub]
  ·refine ⟨gN r l j c+1,?_,fun _=>rfl⟩
   rw [oZ,if_neg h1,Option.map_some,dS,dV,Nat.sub_sub,Nat.sub_sub]
 ·rw [if_neg fun e2=>e (Dz om om e2),wV hk,if_neg e,Nat.add_zero]
  exact h.g c hcn
end Go.Proofs.YtjcecdmbfmccoaaGreatDoor
namespace Go.Sl
open Go.RowKit Go.Proofs.YtjcecdmbfmccoaaGreatDoor
variable {C:Ctx}{M:List Row}{st:List (Nat×Value)}{k:List Item}{q q':Md}{all rest:List Oper}{d:Nat}{ty:TypeId}{pos:String}{after:Array Edge}{gd:Option (Nat×Bool)}
theorem G.Qu {T n:TypeId}{x y:Operand}{vs:List Value}{b j tot:Nat}{e:TypeId}{cs out:List Value}{F:Row->List Row}{M0:List Row} (hg:wnB all st gd=true) (hq:q.sto=some (M0,q'))
  (hx:evS st x=some (.pointer (some ⟨b,j,none⟩))) (hy:evS st y=some (.agg vs.toArray)) (hm:RAt (.blk b e cs tot) M F) [hT:cP C.P T n] (hn:vs.length=n) (h1:vs.all (·.oneCell')=true) (hj:j+vs.length<=cs.length) (ho:dU cs j vs=out)
  (hsub:M0.Sublist (F (.blk b e out tot))) (h:G q' C all st (F (.blk b e out tot)) rest k) :
  G q C all st M ({ dst:=none,op:=.store T x y,type:=ty,pos,after,guard:=gd }::rest) k:=by
 obtain ⟨i,h5,h6⟩:=hm.idx;rw [<- h6] at h hsub
 exact G.Q7 (vs:=vs) hg hq hx h5 hy rfl h1 ho hj hn hsub h
theorem aC.cls {r:Rn}{l:List Spn}{N b off c:Nat} (hm:aL N (some ⟨b,off,none⟩) 2 ((aD r l).map hoV)∈M) (h:c < (aD r l).length):aC C M ⟨b,off+c*2,none⟩ (.int .i64 (aG r l c)) :=
 aC.QJ (f:=hoV) hm h (by
  have h1:=(List.getElem?_eq_some_iff.1 (iH h)).2;rw [h1];rfl)
theorem G.R6 {T E sz:Nat}{x y:Operand}{a:Option Addr}{b o n c:Nat}{ki:IntKind}{i:Nat}{e:Int} (hx:evS st x=some (.slice a n c)) (hy:evS st y=some (.int ki e)) (ha:a=some ⟨b,o,none⟩) (he:e=(i:Int)) (hi:i < n) [hT:bN C.P T E sz] (hs:bA all st gd d C.N q.calm=some q') (h:G q' C all ((d,.pointer (some ⟨b,o+i*sz,none⟩))::st) M rest k) :
  G q C all st M ({ dst:=some d,op:=.indexAddr T x y,type:=ty,pos,after,guard:=gd }::rest) k:=by
 subst ha;exact G.ix hx hy he hi hs h
theorem OP {A:Type} (a b c d e:List A):(a++(b++(c++(d++e)))).Perm (d++(a++(b++(c++e)))):=by
 have h:=IV [a,b,c,d,e] [0,1,2,3,4] [3,0,1,2,4] rfl;exact h
theorem J.Qo {v v':Value} (t:Nat) (e:v=v') (h:J C ((t,v')::st) M k) (hg:kM st t=some v:=by rfl):J C st M k:=.mk fun a w hf hd hw =>
 h.go a w ⟨hf.size,fun u x hu=>by
  subst e;rw [kM.eq_def] at hu;dsimp only at hu;split at hu
  ·rename_i e
   cases hu;exact (Nat.eq_of_beq_eq_true e) ▸ hf.get t v hg
  ·exact hf.get u x hu⟩ hd hw
theorem J.Rf {k2:List Item}{X:Type} (stF:X->List (Nat×Value)) (MF:X->List Row) (h:(∀ x,J C (stF x) (MF x) k2)->J C st M k) (hk:∀ x,J C (stF x) (MF x) k2):J C st M k:=h hk
theorem J.Qf:∀ (n:Nat),J C st (rws owF (List.replicate n (.slice none 0 0,[]))++M) k->J C st M k
 | 0,h=>h
 | n+1,h=>J.Qf n (J.nilOwn (E:=3) (size:=1) h)
theorem J.Qe {R:List Row}:∀ (V:List (Value×List Int)) (pre:List Row) (_:∀ p∈V,0 < p.2.length)
  (_:∀ W:List (Nat×Nat×List Int),W.length=V.length->(∀ i (h1:i < W.length) (h2:i < V.length),V[i].1=.slice (some ⟨W[i].1,0,none⟩) V[i].2.length W[i].2.1/\W[i].2.2=V[i].2/\V[i].2.length<=W[i].2.1)->J C st (pre++(rws opF W++R)) k),J C st (pre++(rws owF V++R)) k
 | [],pre,_,h=>h [] rfl fun i h1=>absurd h1 (Nat.not_lt_zero _)
 | p::V,pre,hV,h=>by
  refine J.ownOpen (F:=fun r'=>pre++(r'::(rws owF V++R))) (RAt.app RAt.head pre) (hV p (List.mem_cons_self ..)) ?_
  intro g cap h1 _ h2;have e:pre++(Row.blk g 3 (flat isV p.2) (cap*1)::(rws owF V++R))=(pre++[opF (g,cap,p.2)])++(rws owF V++R):=by rw [List.append_assoc];rfl
  show J C st (pre++(Row.blk g 3 (flat isV p.2) (cap*1)::(rws owF V++R))) k
  rw [e];refine J.Qe V (pre++[opF (g,cap,p.2)]) (fun q hq=>hV q (mC _ hq)) fun W hW hWW=>?_
  have h3:=h ((g,cap,p.2)::W) (by simp [hW]) fun i h4 h5=>by
   cases i with
   | zero=>exact ⟨h2,rfl,h1⟩
   | succ i=>exact hWW i (by simpa using h4) (by simpa using h5)
  have e2:(pre++[opF (g,cap,p.2)])++(rws opF W++R)=pre++(rws opF ((g,cap,p.2)::W)++R):=by rw [List.append_assoc];rfl
  rw [e2];exact h3
end Go.Sl
/-
 Contracts of bounds: the least volume,and a history that has it.
-/
namespace Go.Proofs.YtjcecdmbfmccoaaGreatDoor
open Go.RowKit Go.Sl Go.Num
structure OQ where
 V:List (Value×List Int)
 es:Array MapEntry
 ck:Nat
 L:List (Int×Value)
 s:Rat
 B:Nat
 B12:Nat
 Bm:Nat
 X:Nat->Nat->Int
def Ky (t:Bool) (l:List Spn) (r:Rn) (s0:Rat) (k:Nat) (x:OQ):Prop:=QOk r l (aD r l).length x.V x.es x.ck x.L (jL t l r x.X)/\(∀ c,c < (aD r l).length->(kL r l).count c<=(jL t l r x.X c).length/\0 < (jL t l r x.X c).length)/\nR t l r (sM t l r x.X)/\x.s=s0+sgR t (aI l r.from_ (sM t l r x.X))/\aH (8+600000*(k+1)) (rQ x.s)
theorem H7 {Q:Nat->List Int}{r:Rn}{l:List Spn}{n:Nat}{V:List (Value×List Int)}{es es':Array MapEntry}{ck ck':Nat}{L:List (Int×Value)}{c i:Nat}{x:Int} (h:QOk r l n V es ck L (pF Q c i x)) (hn:n=(aD r l).length) (hc:c < n) (v:Value) (hI:dQ (Value.int .i64) es' ck' (gH (aG r l c) v L)):QOk r l n (V.set c (v,(V.getD c dW).2++[x])) es' ck' (gH (aG r l c) v L) (pF Q c (i+1) x):=by
 rw [<- I4];exact h.push hn hc x v hI
set_option maxHeartbeats 16000000 in
theorem Kz (ba oa:Nat) (rs:List Rn) (c:Nat) (b:Option Addr) (l:List Spn) (d:Nat) (t:Bool) (w:World) (hA:aW w (some ⟨ba,oa,none⟩) rs) (hf:∀ r∈rs,r.tab.length<=64) (hB:aN w b l) (hg:∀ s∈l,fewS s) (h0:cU rs l=0) (hcn:∀ r∈rs,(aD r l).length<=31) (hn:rs.length<=64) (hne:rs≠[]) :
  Calls Tryz.prog 111 #[.slice (some ⟨ba,oa,none⟩) rs.length c,.slice b l.length d,.bool t] w fun e w'=>∃ x:{ x:List Int×Option Addr // iR t l rs x.1 },e=.returned (.tuple #[qA (rQ (aI l (f0R rs) x.1.1)),.agg #[.int .i64 (f0R rs),.slice x.1.2 x.1.1.length x.1.1.length]])/\aE w' x.1.2 1 (x.1.1.map isV)/\(∀ p,x.1.2=some p->w.heap.size<=p.block)/\Below w.heap.size w w':=by
 have hr0:=(fB h0).1;obtain ⟨hio,hl4,hR,_,hok⟩:=dY h0;obtain ⟨hrok,_,hcn0⟩:=gK hr0;obtain ⟨hchn,htot⟩:=hcn0 hne;have hlen0:0 < rs.length:=List.length_pos_iff.2 hne;have hrate:∀ (B1 B2:Nat) (p st:Int) w',bG w' B1 0 [.slice b l.length d]->bG w' B2 0 [.bool t]->Below w.heap.size w w'->p < l.length->0<=st/\st<=1000->CR 144 #[.int .i64 p,.int .i64 st,.pointer (some ⟨B1,0,none⟩),.pointer (some ⟨B2,0,none⟩)] w' (qA (rQ (sgR t (aS l p st)))):=fun B1 B2 p st w' h1 h2 hb hp hs=>AZ p st t B1 B2 b l d w' h1 h2 (hB.below hb) hg hR hp hs
 obtain ⟨N,hN⟩:∃ N:Nat,(bX rs).to_-(bI rs).from_=N:=⟨((bX rs).to_-(bI rs).from_).toNat,by
  have:=hchn.le hrok;omega⟩
 have hf0:f0R rs=(bI rs).from_:=rfl;obtain ⟨ba',oa',eb,hra⟩:=aE.all hA.1 hlen0;cases eb;have hx0:bI rs=rs[0]:=by cases rs with
  | nil=>exact absurd rfl hne
  | cons a b=>rfl
 have hx1:bX rs=rs[rs.length-1]:=by rw [bX,List.getLast?_eq_getElem?,gE om,Option.getD_some]
 have r0:=hra 0 hlen0;have r1:=hra (rs.length-1) om;rw [<- hx0] at r0;rw [<- hx1] at r1;have hrn0:=(hrok _ (hx0 ▸ gM hlen0)).rng;have hrn1:=(hrok (bX rs) (by rw [hx1];exact gM _)).rng
 clear hx0 hx1;rw [hf0];dsimp only [rnV] at r0 r1;generalize hfe:(bI rs).from_=f0 at *;refine aB [(0,.slice (some ⟨ba,oa,none⟩) rs.length c),(1,.slice b l.length d),(2,.bool t)] Tryz.func111 Tryz.ntmps111 ?_;repeat' first|(refine gp ?_;and_intros<;>first|exact trivial|repeat first|intro(Bk:Nat)|intro h)|(apply G.ix (i:=rs.length-1);rfl;rfl;omega;omega;rfl)|(apply J.Py (.q 0 <| .q 1 <| .q 2 <| .q 3 <| .q 4 <| .q 5 <| .q 6 <| .q 7 <| .q 8 <| .q 9 <| .q 10 <| .q 11 <| .q 12 <| .q 13 <| .q 14 <| .q 15 <| .e 16 <| .q 17 <| .r 18 <| .nil);exact Tryz.Pr;decide +kernel)|(apply G.PD (n:=N) [.int .i64 0];rfl;rfl;rfl;rfl;rfl;omega;omega;rfl;omega;omega;intro Bst)
 rename_i B1 B2 B6 B7 B9;obtain ⟨B10,rfl⟩:∃ x,x=Bk:=⟨_,rfl⟩;rw [AP];refine J.loop (c:=_) ((0,List.replicate N 0,[],0):Nat×List Int×List Int×Rat) (fun x=>rs.length-x.1) (fun x=>[(4,.pointer (some ⟨B1,0,none⟩)),(5,.pointer (some ⟨B2,0,none⟩)),(6,.pointer (some ⟨B6,0,none⟩)),(7,.pointer (some ⟨B7,0,none⟩)),(8,.func (.func 144) #[] #[.pointer (some ⟨B1,0,none⟩),.pointer (some ⟨B2,0,none⟩)]),(9,.pointer (some ⟨B9,0,none⟩)),(10,.pointer (some ⟨B10,0,none⟩)),(46,.slice (some ⟨ba,oa,none⟩) rs.length c),(47,.int .i64 rs.length),(48,.int .i64 x.1)]) (fun x=>.blk Bst 3 (flat isV x.2.1) (N*1)::.blk B10 30 [.int .i64 f0,.slice (some ⟨Bst,0,none⟩) N N] 2::.blk B9 25 (qW x.2.2.2) 3::.blk B7 30 [.int .i64 0,.slice none 0 0] 2::.blk B6 25 [.bool false,.string (bs []),.string (bs [])] 3::.blk B2 4 [.bool t] 1::.blk B1 23 [.slice b l.length d] 1::[]) (fun x=>x.1<=rs.length/\x.2.1.length=N/\iR t l (rs.take x.1) x.2.2.1/\(∀ i,i < x.2.2.1.length->x.2.1[i]?=x.2.2.1[i]?)/\x.2.2.2=sgR t (aI l f0 x.2.2.1)/\aH (8+600000*x.1) (rQ x.2.2.2)) ?_ sbT sbL ?_
 ·exact ⟨Nat.zero_le _,by simp,rfl,fun i h=>absurd h (Nat.not_lt_zero _),(lU t).symm,dX⟩
 intro ⟨k,ST,A,s⟩ ⟨hk,hSl,hbe,hSA,hsv,hsf⟩ ihk;dsimp only at hk hSl hbe hSA hsv hsf ⊢;by_cases hkk:k < rs.length
 ·have hrk:=hra k hkk
  have hm:=gM hkk;have hr:=hrok _ hm;have hag:=hbe.ag;obtain ⟨hfr,hto⟩:=Kw hchn hrok hkk hag;have htk:=sB hkk;have htab:=hA.2 _ hm;have htl:=hf _ hm;have hnc:=hcn _ hm;have ihk:=fun (ST' H:List Int) (s':Rat) (h1:nR t l rs[k] H) h2 h3 h4 h5=>ihk (k+1,ST',A++H,s') ⟨hkk,h2,by dsimp only;rw [htk];exact hbe.snoc h1,h3,h4,h5⟩ (by dsimp only;omega)
  clear hrok hchn htk hbe hm hcn hf hA hra hag r0 r1 hrn0 hrn1;generalize rs[k]=r at *;dsimp only [rnV] at hrk;have hn0:=iB hio hr.rng.2.1;refine J.Qf (aD r l).length (J.perm List.perm_append_comm ?_);simp only [List.cons_append,List.nil_append];rw [show rws owF (List.replicate (aD r l).length (.slice none 0 0,[]))=rws owF (List.replicate (aD r l).length dW)++[] from (List.append_nil _).symm]
  have hgap:=Kh (t:=t) (X:=fun _ _=>0) hr (l:=l) (x:=0)
  have hcat:=fun c h=>DA (r:=r) (l:=l) (c:=c) h
  have hclt:=fun c h=>EQ (r:=r) (l:=l) (c:=c) h
  have hcps:=fun c h=>ER (r:=r) (l:=l) (c:=c) h
  have hQ0:=QOk.start r l (aD r l).length;have hcl:=fun w' (hb:Below w.heap.size w w')=>tO r b l d w' (hB.1.below hb) hio hl4 hr.rng hR
  have hrg:=hr.rng;have hsz:∀ i,(k:Int) < 64->i<=600000->8+600000*k+i<=60000000:=fun i _ hi=>by omega
  unfold rnA at hcl;generalize hnn:(aD r l).length=n at *;apply J.Rf (X:={ x:OQ // Ky t l r s k x }) (fun x=>[(4,.pointer (some ⟨B1,0,none⟩)),(5,.pointer (some ⟨B2,0,none⟩)),(6,.pointer (some ⟨B6,0,none⟩)),(7,.pointer (some ⟨B7,0,none⟩)),(8,.func (.func 144) #[] #[.pointer (some ⟨B1,0,none⟩),.pointer (some ⟨B2,0,none⟩)]),(9,.pointer (some ⟨B9,0,none⟩)),(10,.pointer (some ⟨B10,0,none⟩)),(12,.pointer (some ⟨x.1.B12,0,none⟩)),(13,.map (some x.1.Bm)),(22,.pointer (some ⟨x.1.B,0,none⟩)),(46,.slice (some ⟨ba,oa,none⟩) rs.length c),(47,.int .i64 rs.length),(48,.int .i64 k)]) (fun x=>.blk x.1.B 3 [.int .i64 r.from_] 1::.obj x.1.Bm (.map x.1.es x.1.ck)::.blk x.1.B12 67 [.int .i64 r.from_,.int .i64 r.to_,.slice r.adr r.tab.length r.cap,.int .i64 r.lo,.int .i64 r.hi] 5::.blk Bst 3 (flat isV ST) (N*1)::.blk B10 30 [.int .i64 f0,.slice (some ⟨Bst,0,none⟩) N N] 2::.blk B9 25 (qW x.1.s) 3::.blk B7 30 [.int .i64 0,.slice none 0 0] 2::.blk B6 25 [.bool false,.string (bs []),.string (bs [])] 3::.blk B2 4 [.bool t] 1::.blk B1 23 [.slice b l.length d] 1::(rws owF x.1.V++[]))
  ·intro hk2
   by_cases h0t:r.tab.length=0
   ·
    have hgp:=hr.gap h0t;obtain ⟨hgb,hgv⟩:=hgap h0t hio;have hqr:∀ c,jL t l r (fun _ _=>0) c=List.replicate (aT r l c).toNat (fN t l r c):=fun c=>by unfold jL;rw [if_pos h0t]
    have hkc:=fun c (h:c < n)=>wP (c:=c) hio hr.rng.2.1 (by rw [hnn];exact h)
    have hT:∀ c,c < n->aT r l c<=1402560:=fun c h=>by
     have h1:=fZ (f:=aT r l) (n:=n) (fun i hi=>Int.le_of_lt (hcps i hi)) c h
     rw [<- hnn,mN,kB hio hr.rng.2.1] at h1;omega
    have hgs:sgR t (sL t l r)=rS' (fun c=>(aT r l c:Rat)*sgR t (gV t l r c)) n:=by
     rw [sL,<- rT,hnn];exact aU fun c _=>yV t _ _
    all_goals (refine goR ?_;and_intros<;>(try exact trivial)<;>repeat (first|refine fun (Bk:Nat)=>?_|intro h))
    repeat' ((first|(apply G.Qv;rfl;intro Bm)|(refine G.cL (g:=76) (sz:=2) (f:=hoV) (fun v=>v) (aD r l) rfl rfl (fun w' hw=>(hcl w' hw.below).mono fun e w2 hh=>?_) ?_;exact hh;intro ca cc hp1 hp2;clear hp2;rw [hnn];obtain ⟨bca,oca,rfl⟩:=hp1 om)|(apply J.Pz;exact Tryz.Pr;decide +kernel)|(apply J.P3;exact Tryz.Pr;decide +kernel))<;>(refine goR ?_;and_intros<;>(try exact trivial)<;>repeat (first|refine fun (Bk:Nat)=>?_|intro h)))
    obtain ⟨B12,rfl⟩:∃ x,x=Bk:=⟨_,rfl⟩;refine J.loop (c:=_) ((0,List.replicate n dW,#[],0,[],s):Nat×List (Value×List Int)×Array MapEntry×Nat×List (Int×Value)×Rat) (fun x=>n-x.1) (fun x=>[(4,.pointer (some ⟨B1,0,none⟩)),(5,.pointer (some ⟨B2,0,none⟩)),(6,.pointer (some ⟨B6,0,none⟩)),(7,.pointer (some ⟨B7,0,none⟩)),(8,.func (.func 144) #[] #[.pointer (some ⟨B1,0,none⟩),.pointer (some ⟨B2,0,none⟩)]),(9,.pointer (some ⟨B9,0,none⟩)),(10,.pointer (some ⟨B10,0,none⟩)),(12,.pointer (some ⟨B12,0,none⟩)),(13,.map (some Bm)),(46,.slice (some ⟨ba,oa,none⟩) rs.length c),(47,.int .i64 rs.length),(48,.int .i64 k),(59,.slice (some ⟨bca,oca,none⟩) n cc),(60,.int .i64 n),(61,.int .i64 x.1)]) (fun x=>aL w.heap.size (some ⟨bca,oca,none⟩) 2 ((aD r l).map hoV)::.obj Bm (.map x.2.2.1 x.2.2.2.1)::.blk B12 67 [.int .i64 r.from_,.int .i64 r.to_,.slice r.adr r.tab.length r.cap,.int .i64 r.lo,.int .i64 r.hi] 5::.blk Bst 3 (flat isV ST) (N*1)::.blk B10 30 [.int .i64 f0,.slice (some ⟨Bst,0,none⟩) N N] 2::.blk B9 25 (qW x.2.2.2.2.2) 3::.blk B7 30 [.int .i64 0,.slice none 0 0] 2::.blk B6 25 [.bool false,.string (bs []),.string (bs [])] 3::.blk B2 4 [.bool t] 1::.blk B1 23 [.slice b l.length d] 1::(rws owF x.2.1++[])) (fun x=>x.1<=n/\QOk r l n x.2.1 x.2.2.1 x.2.2.2.1 x.2.2.2.2.1 (fun j=>if j < x.1 then jL t l r (fun _ _=>0) j else [])/\x.2.2.2.2.2=s+rS' (fun c=>(aT r l c:Rat)*sgR t (gV t l r c)) x.1/\aH (8+600000*k+300*x.1) (rQ x.2.2.2.2.2)) ?_ sbT sbL ?_
    ·exact ⟨Nat.zero_le _,hQ0.congr fun i _=>if_neg (Nat.not_lt_zero _),(Rat.add_zero s).symm,hsf⟩
    intro ⟨u,V,es,ck,L,s2⟩ ⟨hcn,hQ,hs2,hf2⟩ ihc;dsimp only at hcn hQ hs2 hf2 ⊢;by_cases hcc:u < n
    ·have hsp:=hclt u hcc
     have hx:=hcat u hcc;have hTu:=hT u hcc;have hTp:=hcps u hcc;have hbe:aS l (aG r l u) (fN t l r u)=gV t l r u:=EH t l r u;have hbv:fN t l r u=if sgR t (aS l (aG r l u) r.hi) < sgR t (aS l (aG r l u) r.lo) then r.hi else r.lo:=rfl
     have hfw:∀ st,0<=st/\st<=1000->aH 140 (rQ (sgR t (aS l (aG r l u) st))):=fun st h=>nS (dH hg hR h)
     have hrt:=fun st w' a b c' hst=>hrate B1 B2 (aG r l u) st w' a b c' hsp hst
     have hbb:0<=fN t l r u/\fN t l r u<=1000:=by rw [hbv];split<;>omega
     obtain ⟨m,hm⟩:∃ m:Nat,aT r l u=m:=⟨(aT r l u).toNat,by omega⟩
     have hQe:(fun j=>if j < u+1 then jL t l r (fun _ _=>0) j else [])=pF (fun j=>if j < u then jL t l r (fun _ _=>0) j else []) u m (fN t l r u):=funext fun j=>by
      unfold pF;dsimp only;by_cases e:j=u
      ·subst e
       rw [if_pos rfl,if_pos om,if_neg om,hqr,hm,Int.toNat_natCast,List.nil_append]
      ·rw [if_neg e]
       by_cases e2:j < u
       ·rw [if_pos e2,if_pos om]
       ·rw [if_neg e2,if_neg om]
     have ihc:=fun V' es' ck' L' h=>ihc (u+1,V',es',ck',L',s2+(aT r l u:Rat)*sgR t (gV t l r u)) ⟨hcc,by dsimp only;rw [hQe];exact h,by dsimp only;rw [hs2,rS',Rat.add_assoc],by
      have h1:=jC (n:=aT r l u) om om;have h2:=fY h1 (hbe ▸ hfw _ hbb) dc dc;exact aF (eT hf2 h2 om dc) (by dsimp only;omega)⟩ (by dsimp only;omega)
     dsimp only at ihc;rw [hm] at ihc hx;have hpl:∀ i,i<=m->(pF (fun j=>if j < u then jL t l r (fun _ _=>0) j else []) u i (fN t l r u) u).length=i:=fun i _=>by
      unfold pF;dsimp only;rw [if_pos rfl,if_neg (Nat.lt_irrefl _),List.nil_append,List.length_replicate]
     generalize (fun j=>if j < u then jL t l r (fun _ _=>0) j else [])=Q at *
     clear hQe hgb hgv hgs hqr hkc hT hs2;have hc1:=LZ (aH.big (hfw r.hi om) dc) (aH.big (hfw r.lo om) dc);have hhi:=fun w' a b c'=>hrt r.hi w' a b c' om
     have hlo:=fun w' a b c'=>hrt r.lo w' a b c' om
     have hch:(dR (sgR t (aS l (aG r l u) r.hi)-sgR t (aS l (aG r l u) r.lo)) < 0/\r.hi=fN t l r u)∨(0<=dR (sgR t (aS l (aG r l u) r.hi)-sgR t (aS l (aG r l u) r.lo))/\r.lo=fN t l r u):=by
      by_cases hlt:sgR t (aS l (aG r l u) r.hi) < sgR t (aS l (aG r l u) r.lo)
      ·exact .inl ⟨Int.not_le.1 fun h=>(oS.1 h) hlt,by rw [hbv,if_pos hlt]⟩
      ·exact .inr ⟨oS.2 hlt,by rw [hbv,if_neg hlt]⟩
     generalize sgR t (aS l (aG r l u) r.hi)=xh at hc1 hhi hch;generalize sgR t (aS l (aG r l u) r.lo)=xl at hc1 hlo hch;generalize dR (xh-xl)=sg at hc1 hch;generalize rQ xh=qh at hc1 hhi;generalize rQ xl=ql at hc1 hlo;obtain ⟨n1,u1,d1⟩:=qh;obtain ⟨n2,u2,d2⟩:=ql;dsimp only [qA] at hc1 hhi hlo;have hsp0:=hrt (fN t l r u);have hfb:=hfw _ hbb;clear hrt hfw;rw [hbe] at hsp0 hfb;clear hbe hbv;generalize fN t l r u=best at *;generalize hgc:sgR t (gV t l r u)=gc at *;clear hgc;rcases hch with ⟨hsg,hbq⟩|⟨hsg,hbq⟩
     all_goals
      repeat' first|(refine gp ?_;and_intros<;>first|exact trivial|repeat first|intro(Bk:Nat)|intro h)|(apply G.ld;rfl;exact LdV.Qw (f:=hoV) (N:=w.heap.size) (.agg #[.int .i64 (aG r l u),.int .i64 (m:Nat)]) hx mm rfl rfl;rfl)|(apply G.cF (g:=144) (d:=72);rfl;rfl;rfl;exact fun w' hw'=>hhi w' (hw'.rowAt (e:=23) (tot:=1) (by (repeat (first|exact List.Mem.head _|apply List.Mem.tail|apply List.mem_append_right)))) (hw'.rowAt (e:=4) (tot:=1) (by (repeat (first|exact List.Mem.head _|apply List.Mem.tail|apply List.mem_append_right)))) hw'.below)|(apply G.cF (g:=144) (d:=78);rfl;rfl;rfl;exact fun w' hw'=>hlo w' (hw'.rowAt (e:=23) (tot:=1) (by (repeat (first|exact List.Mem.head _|apply List.Mem.tail|apply List.mem_append_right)))) (hw'.rowAt (e:=4) (tot:=1) (by (repeat (first|exact List.Mem.head _|apply List.Mem.tail|apply List.mem_append_right)))) hw'.below)|(apply G.cV (g:=22);rfl;rfl;exact fun w' _=>hc1 w')
      refine J.Qo 16 (congrArg (Value.int .i64) hbq) ?_;obtain ⟨B15,rfl⟩:∃ x,x=Bk:=⟨_,rfl⟩;clear hc1 hhi hlo hsg hbq;refine J.loop (c:=_) ((0,V,es,ck,L):Nat×List (Value×List Int)×Array MapEntry×Nat×List (Int×Value)) (fun x=>m-x.1) (fun x=>[(4,.pointer (some ⟨B1,0,none⟩)),(5,.pointer (some ⟨B2,0,none⟩)),(6,.pointer (some ⟨B6,0,none⟩)),(7,.pointer (some ⟨B7,0,none⟩)),(8,.func (.func 144) #[] #[.pointer (some ⟨B1,0,none⟩),.pointer (some ⟨B2,0,none⟩)]),(9,.pointer (some ⟨B9,0,none⟩)),(10,.pointer (some ⟨B10,0,none⟩)),(12,.pointer (some ⟨B12,0,none⟩)),(13,.map (some Bm)),(46,.slice (some ⟨ba,oa,none⟩) rs.length c),(47,.int .i64 rs.length),(48,.int .i64 k),(59,.slice (some ⟨bca,oca,none⟩) n cc),(60,.int .i64 n),(61,.int .i64 u),(15,.pointer (some ⟨B15,0,none⟩)),(16,.int .i64 best),(84,.int .i64 (m:Nat)),(85,.int .i64 x.1)]) (fun x=>.blk B15 90 [.int .i64 (aG r l u),.int .i64 (m:Nat)] 2::aL w.heap.size (some ⟨bca,oca,none⟩) 2 ((aD r l).map hoV)::.obj Bm (.map x.2.2.1 x.2.2.2.1)::.blk B12 67 [.int .i64 r.from_,.int .i64 r.to_,.slice r.adr r.tab.length r.cap,.int .i64 r.lo,.int .i64 r.hi] 5::.blk Bst 3 (flat isV ST) (N*1)::.blk B10 30 [.int .i64 f0,.slice (some ⟨Bst,0,none⟩) N N] 2::.blk B9 25 (qW s2) 3::.blk B7 30 [.int .i64 0,.slice none 0 0] 2::.blk B6 25 [.bool false,.string (bs []),.string (bs [])] 3::.blk B2 4 [.bool t] 1::.blk B1 23 [.slice b l.length d] 1::(rws owF x.2.1++[])) (fun x=>x.1<=m/\QOk r l n x.2.1 x.2.2.1 x.2.2.2.1 x.2.2.2.2 (pF Q u x.1 best)) ?_ sbT sbL ?_
      ·exact ⟨Nat.zero_le _,by dsimp only;rw [C4];exact hQ⟩
      clear hQ;intro ⟨i,V,es,ck,L⟩ ⟨him,hQ⟩ ihi;dsimp only at him hQ ⊢;by_cases hin:i < m
      ·clear ihc
       have ihi:=fun v es' ck' hI=>ihi (i+1,V.set u (v,(V.getD u dW).2++[best]),es',ck',gH (aG r l u) v L) ⟨hin,H7 hQ hnn.symm hcc v hI⟩ (by dsimp only;omega)
       have hVl:=hQ.len;have hgl:=hQ.g u hcc;have hmp:=hQ.mp;have hpx:=hQ.q u hcc;have hoa:=MU (V:=V) (c:=u) om [];have hin2:=fun r'=>MV (V:=V) (c:=u) om r' []
       have hst:=Kx V u;have hpl2:(V.getD u dW).2.length<=1402560:=by rw [hpx,hpl i om];omega
       clear hQ hpx hpl;generalize V.getD u dW=pv at *;obtain ⟨pv,px⟩:=pv;dsimp only [owF] at hoa hgl ihi hpl2;repeat' first|(refine gp ?_;and_intros<;>first|exact trivial|repeat first|intro(Bk:Nat)|intro h)|(apply J.PB [.blk B15 90 [.int .i64 (aG r l u),.int .i64 (m:Nat)] 2,.obj Bm (.map es ck)] (.q 0 <| .q 1 <| .q 2 <| .q 3 <| .q 4 <| .q 5 <| .q 6 <| .q 7 <| .e 8 <| .e 9 <| .r 10 <| .nil);exact Tryz.Pr;decide +kernel;(repeat' (first|exact List.nil_sublist _|exact List.Sublist.refl _|apply List.Sublist.cons_cons|apply List.Sublist.cons)))|(apply G.lk (kf:=Value.int .i64) (a:=aG r l u) hmp;rfl;rfl;exact mm;exact hgl;rfl)|(apply G.Pu;rfl;rfl;rfl;rfl;rfl;rfl;rfl;rfl;intro Bs)|(apply G.PY;rfl;rfl;rfl;(repeat (first|exact hoa|apply RAt.tail));exact cB.blk (by exact mm) rfl rfl;exact (eJ (f:=isV) px best).symm;omega;omega;(intro v';(repeat' (first|exact List.nil_sublist _|exact List.Sublist.refl _|apply List.Sublist.cons_cons|apply List.Sublist.cons)));(intro v';(repeat (first|exact hin2 _|apply List.Mem.tail)));intro a2 c2)|(apply G.mu (kf:=Value.int .i64) (a:=aG r l u) hmp rfl;rfl;rfl;rfl;rfl;(repeat (first|exact RAt.head|apply RAt.tail));intro es2 ck2 hI2)
       rw [hst];exact J.P1 (ihi _ _ _ hI2)
      ·obtain rfl:m=i:=by omega
       have ihc:=ihc V es ck L hQ;clear ihi hQ;have hi1:=Mb (n:=(m:Int)) om om;have hfi:=jC (n:=(m:Int)) om om;have hmu:=NT (aH.big hfi dc) (aH.big hfb dc);have hfm:=fY hfi hfb dc dc;have had:=LY (aH.big hf2 om) (aH.big hfm dc);have hsp:=fun w' a b c'=>hsp0 w' a b c' hbb
       clear hsp0 hfi hfb hfm hf2 hpl;dsimp only [qW,qV] at ihc ⊢;generalize rQ (s2+((m:Int):Rat)*gc)=q1 at *;generalize rQ s2=q2 at *;generalize rQ (((m:Int):Rat)*gc)=q3 at *;generalize rQ ((m:Int):Rat)=q4 at *;generalize rQ gc=q5 at *;obtain ⟨n1,u1,d1⟩:=q1;obtain ⟨n2,u2,d2⟩:=q2;obtain ⟨n3,u3,d3⟩:=q3;obtain ⟨n4,u4,d4⟩:=q4;obtain ⟨n5,u5,d5⟩:=q5;dsimp only [qA] at *;repeat' first|(refine gp ?_;and_intros<;>first|exact trivial|repeat first|intro(Bk:Nat)|intro h)|(apply G.cF (g:=144);rfl;rfl;rfl;exact fun w' hw'=>hsp w' (hw'.rowAt (e:=23) (tot:=1) (by (repeat (first|exact List.Mem.head _|apply List.Mem.tail|apply List.mem_append_right)))) (hw'.rowAt (e:=4) (tot:=1) (by (repeat (first|exact List.Mem.head _|apply List.Mem.tail|apply List.mem_append_right)))) hw'.below)|(apply G.cV (g:=35);rfl;rfl;exact fun w' _=>hi1 w')|(apply G.cV (g:=83);rfl;rfl;exact fun w' _=>hmu w')|(apply G.cV (g:=27);rfl;rfl;exact fun w' _=>had w')
       exact J.P1 ihc
    ·obtain rfl:n=u:=by omega
     clear ihc;have hQ:=hQ.congr (Q':=jL t l r (fun _ _=>0)) fun i hi=>(if_pos hi).symm
     all_goals (refine go ?_;and_intros<;>first|exact trivial|repeat first|intro(Bk:Nat)|intro h)
     exact J.P1 (hk2 ⟨⟨V,es,ck,L,s2,Bk,B12,Bm,fun _ _=>0⟩,by
      unfold Ky;rw [hnn];refine ⟨hQ,fun c h=>?_,hgb,?_,aF hf2 om⟩
      ·have h1:=hkc c h
       have h2:=hcps c h;dsimp only;rw [hqr,List.length_replicate];omega
      ·dsimp only
       rw [hs2,hgv,hgs]⟩)
   ·
    have htb:=hr.tab h0t;obtain ⟨bq,oq,hadr,hrq0⟩:=aE.all htab om;have hrq:∀ s,s < r.tab.length->bG w bq (oq+s*2) [.int .i64 (tbS r s),.int .i64 (tbT r s)]:=fun s h=>by
     have h1:=hrq0 s h;rw [show r.tab[s]=(tbS r s,tbT r s) from by rw [tbS,tbT,gD,gE h];rfl] at h1
     exact h1
    clear hrq0;have htr:∀ s,s < r.tab.length->(0<=tbS r s/\tbS r s<=1000)/\1<=tbT r s/\tbT r s<=1402560:=fun s h=>by
     have a:=htb.2.2.2 _ (eZ h);have b:=htb.2.1 _ (eZ h);have c:=kY r;have hle:=fZ (f:=tbT r) (n:=r.tab.length) (fun i hi=>by
      have:=htb.2.1 _ (eZ hi);dsimp only at this;omega) s h
     rw [c,htb.2.2.1] at hle;dsimp only at a b;omega
    have hT:∀ c,c < n->aT r l c<=1402560:=fun c h=>by
     have h1:=fZ (f:=aT r l) (n:=n) (fun i hi=>Int.le_of_lt (hcps i hi)) c h
     rw [<- hnn,mN,kB hio hr.rng.2.1] at h1;omega
    have hgf:∀ s c,s < r.tab.length->c < n->aH 141 (rQ (gX t l r s c)):=fun s c hs _=>aF (nS (dH hg hR (htr s hs).1)) dc
    have hbg:=fun M' w' (hw':Sat w M' w') h1 h2=>ES w M' w' r t B1 B2 23 4 1 1 d b l hw' h1 h2 hB hg hR hio hl4 htab hr h0t htl (by rw [hnn];exact hnc)
    unfold rnA at hbg;simp only [hnn] at hbg;have him:=fun M' w' bt bc bx tc tx kc kx cc ca CT XT hw' hC hX hF=>I1 w M' w' bt bc bx tc tx n r.tab.length kc kx r.tab.length r.cap cc r.from_ r.to_ r.lo r.hi r.adr ca (gX t l r) (tbT r) (aT r l) CT XT hw' hC hX hF hgf hn0 hnc om om (fun s hs=>(htr s hs).2.2)
    all_goals (refine goR ?_;and_intros<;>(try exact trivial)<;>repeat (first|refine fun (Bk:Nat)=>?_|intro h))
    repeat' ((first|(apply G.Qv;rfl;intro Bm)|(refine G.cM (g:=146) _ _ rfl rfl (fun w' hw'=>hbg _ w' hw' (by (repeat (first|exact List.Mem.head _|apply List.Mem.tail|apply List.mem_append_right))) (by (repeat (first|exact List.Mem.head _|apply List.Mem.tail|apply List.mem_append_right)))) ?_;rintro ⟨⟨bt,bc,bx,tc,tx,kc,kx,ca,cc,CT,XT0⟩,hCT,hXT0,hFe0,⟨bca,oca,hca⟩⟩;dsimp only [NX] at hCT hXT0 hFe0 hca ⊢;subst hca;rw [hnn] at hCT hXT0 hFe0)|(refine G.cM (g:=147) (fun _=>.tuple #[]) _ rfl rfl (fun w' hw'=>him _ w' bt bc bx tc tx kc kx cc _ CT XT0 hw' hCT hXT0 hFe0) ?_;rintro ⟨XT,hXT,_,hFe,hpi⟩;dsimp only)|(apply J.Pz;exact Tryz.Pr;decide +kernel)|(apply J.P3;exact Tryz.Pr;decide +kernel))<;>(refine goR ?_;and_intros<;>(try exact trivial)<;>repeat (first|refine fun (Bk:Nat)=>?_|intro h)))
    obtain ⟨B12,rfl⟩:∃ x,x=Bk:=⟨_,rfl⟩;have hXr:∀ s c,s < r.tab.length->c < n->0<=xOf XT s c/\xOf XT s c<=1402560:=fun s c hs hc=>⟨hFe.nn s c hs hc,by
     have h1:=fZ (f:=xOf XT s) (fun c hc=>hFe.nn s c hs hc) c hc
     rw [hFe.row s hs] at h1;have:=(htr s hs).2.2;omega⟩
    have hcL:∀ s c,s<=r.tab.length->c < n->(gR (xOf XT) c s).length<=1402560:=fun s c hs hc=>by
     have h1:=C3 (xOf XT) c hs;have h2:=nM (xOf XT) c r.tab.length fun s hs=>hFe.nn s c hs hc
     rw [hFe.col c hc] at h2;have:=hT c hc;omega
    have hQ0:QOk r l n (List.replicate n dW) #[] 0 [] (fun j=>(gR (xOf XT) j 0).map (tbS r)):=hQ0
    refine J.perm (OP [.blk bt 200 [.int .i64 r.from_,.int .i64 r.to_,.slice r.adr r.tab.length r.cap,.int .i64 r.lo,.int .i64 r.hi,.slice (some ⟨bca,oca,none⟩) n cc,.slice (some ⟨bc,0,none⟩) r.tab.length kc,.slice (some ⟨bx,0,none⟩) r.tab.length kx] 8,.blk bc 61 (flat (cY n) CT) tc,.blk bx 28 (flat (eD n) XT) tx] (rws eM CT) (rws (fO n) XT) [aL w.heap.size (some ⟨bca,oca,none⟩) 2 ((aD r l).map hoV),.obj Bm (.map #[] 0),.blk B12 67 [.int .i64 r.from_,.int .i64 r.to_,.slice r.adr r.tab.length r.cap,.int .i64 r.lo,.int .i64 r.hi] 5,.blk Bst 3 (flat isV ST) (N*1),.blk B10 30 [.int .i64 f0,.slice (some ⟨Bst,0,none⟩) N N] 2,.blk B9 25 (qW s) 3,.blk B7 30 [.int .i64 0,.slice none 0 0] 2,.blk B6 25 [.bool false,.string (bs []),.string (bs [])] 3,.blk B2 4 [.bool t] 1,.blk B1 23 [.slice b l.length d] 1] (rws owF (List.replicate n dW)++[])) ?_;simp only [List.cons_append,List.nil_append];refine J.loop (c:=_) ((0,List.replicate n dW,#[],0,[],s):Nat×List (Value×List Int)×Array MapEntry×Nat×List (Int×Value)×Rat) (fun x=>r.tab.length-x.1) (fun x=>[(4,.pointer (some ⟨B1,0,none⟩)),(5,.pointer (some ⟨B2,0,none⟩)),(6,.pointer (some ⟨B6,0,none⟩)),(7,.pointer (some ⟨B7,0,none⟩)),(8,.func (.func 144) #[] #[.pointer (some ⟨B1,0,none⟩),.pointer (some ⟨B2,0,none⟩)]),(9,.pointer (some ⟨B9,0,none⟩)),(10,.pointer (some ⟨B10,0,none⟩)),(12,.pointer (some ⟨B12,0,none⟩)),(13,.map (some Bm)),(17,.pointer (some ⟨bt,0,none⟩)),(46,.slice (some ⟨ba,oa,none⟩) rs.length c),(47,.int .i64 rs.length),(48,.int .i64 k),(119,.slice (some ⟨bx,0,none⟩) r.tab.length kx),(120,.int .i64 r.tab.length),(121,.int .i64 x.1)]) (fun x=>aL w.heap.size (some ⟨bca,oca,none⟩) 2 ((aD r l).map hoV)::.obj Bm (.map x.2.2.1 x.2.2.2.1)::.blk B12 67 [.int .i64 r.from_,.int .i64 r.to_,.slice r.adr r.tab.length r.cap,.int .i64 r.lo,.int .i64 r.hi] 5::.blk Bst 3 (flat isV ST) (N*1)::.blk B10 30 [.int .i64 f0,.slice (some ⟨Bst,0,none⟩) N N] 2::.blk B9 25 (qW x.2.2.2.2.2) 3::.blk B7 30 [.int .i64 0,.slice none 0 0] 2::.blk B6 25 [.bool false,.string (bs []),.string (bs [])] 3::.blk B2 4 [.bool t] 1::.blk B1 23 [.slice b l.length d] 1::.blk bt 200 [.int .i64 r.from_,.int .i64 r.to_,.slice r.adr r.tab.length r.cap,.int .i64 r.lo,.int .i64 r.hi,.slice (some ⟨bca,oca,none⟩) n cc,.slice (some ⟨bc,0,none⟩) r.tab.length kc,.slice (some ⟨bx,0,none⟩) r.tab.length kx] 8::.blk bc 61 (flat (cY n) CT) tc::.blk bx 28 (flat (eD n) XT) tx::(rws eM CT++(rws (fO n) XT++(rws owF x.2.1++[])))) (fun x=>x.1<=r.tab.length/\QOk r l n x.2.1 x.2.2.1 x.2.2.2.1 x.2.2.2.2.1 (fun j=>(gR (xOf XT) j x.1).map (tbS r))/\x.2.2.2.2.2=s+rS' (fun i=>rS' (fun c=>(xOf XT i c:Rat)*gX t l r i c) n) x.1/\aH (8+600000*k+300*(x.1*31)) (rQ x.2.2.2.2.2)) ?_ sbT sbL ?_
    ·exact ⟨Nat.zero_le _,hQ0,(Rat.add_zero s).symm,hsf⟩
    clear hQ0;intro ⟨i,V,es,ck,L,s2⟩ ⟨hin,hQ,hs2,hf2⟩ ihs;dsimp only at hin hQ hs2 hf2 ⊢;by_cases hii:i < r.tab.length
    ·have hrqi:=hrq i hii
     have htri:=htr i hii;have hhd:=H5 hXT hii;have hme:=AU hXT hii;have hCl:i < CT.length:=by rw [hCT.len];exact hii
     have hmC:=fun R=>iG (F:=eM) (M0:=R) hCl
     have hc1:(flat (cY n) CT)[0+i*1]?=some (.slice (some ⟨CT[i].1,0,none⟩) n CT[i].2.1):=gA (f:=cY n) (fun _=>rfl) hCl rfl
     have hcr:=(hCT.row i hCl).2;repeat' first|(refine gp ?_;and_intros<;>first|exact trivial|repeat first|intro(Bk:Nat)|intro h)|(apply G.ld;rfl;(apply LdV.one;apply aC.blk;exact mm;exact hhd);rfl)
     refine J.loop (c:=_) ((0,V,es,ck,L,s2):Nat×List (Value×List Int)×Array MapEntry×Nat×List (Int×Value)×Rat) (fun x=>n-x.1) (fun x=>[(4,.pointer (some ⟨B1,0,none⟩)),(5,.pointer (some ⟨B2,0,none⟩)),(6,.pointer (some ⟨B6,0,none⟩)),(7,.pointer (some ⟨B7,0,none⟩)),(8,.func (.func 144) #[] #[.pointer (some ⟨B1,0,none⟩),.pointer (some ⟨B2,0,none⟩)]),(9,.pointer (some ⟨B9,0,none⟩)),(10,.pointer (some ⟨B10,0,none⟩)),(12,.pointer (some ⟨B12,0,none⟩)),(13,.map (some Bm)),(17,.pointer (some ⟨bt,0,none⟩)),(46,.slice (some ⟨ba,oa,none⟩) rs.length c),(47,.int .i64 rs.length),(48,.int .i64 k),(119,.slice (some ⟨bx,0,none⟩) r.tab.length kx),(120,.int .i64 r.tab.length),(121,.int .i64 i),(18,.int .i64 i),(126,.slice (some ⟨(XT.getD i (0,[])).1,0,none⟩) n n),(127,.int .i64 n),(128,.int .i64 x.1)]) (fun x=>aL w.heap.size (some ⟨bca,oca,none⟩) 2 ((aD r l).map hoV)::.obj Bm (.map x.2.2.1 x.2.2.2.1)::.blk B12 67 [.int .i64 r.from_,.int .i64 r.to_,.slice r.adr r.tab.length r.cap,.int .i64 r.lo,.int .i64 r.hi] 5::.blk Bst 3 (flat isV ST) (N*1)::.blk B10 30 [.int .i64 f0,.slice (some ⟨Bst,0,none⟩) N N] 2::.blk B9 25 (qW x.2.2.2.2.2) 3::.blk B7 30 [.int .i64 0,.slice none 0 0] 2::.blk B6 25 [.bool false,.string (bs []),.string (bs [])] 3::.blk B2 4 [.bool t] 1::.blk B1 23 [.slice b l.length d] 1::.blk bt 200 [.int .i64 r.from_,.int .i64 r.to_,.slice r.adr r.tab.length r.cap,.int .i64 r.lo,.int .i64 r.hi,.slice (some ⟨bca,oca,none⟩) n cc,.slice (some ⟨bc,0,none⟩) r.tab.length kc,.slice (some ⟨bx,0,none⟩) r.tab.length kx] 8::.blk bc 61 (flat (cY n) CT) tc::.blk bx 28 (flat (eD n) XT) tx::(rws eM CT++(rws (fO n) XT++(rws owF x.2.1++[])))) (fun x=>x.1<=n/\QOk r l n x.2.1 x.2.2.1 x.2.2.2.1 x.2.2.2.2.1 (fun j=>(gR (xOf XT) j (if j < x.1 then i+1 else i)).map (tbS r))/\x.2.2.2.2.2=s2+rS' (fun c=>(xOf XT i c:Rat)*gX t l r i c) x.1/\aH (8+600000*k+300*(i*31+x.1)) (rQ x.2.2.2.2.2)) ?_ sbT sbL ?_
     ·exact ⟨Nat.zero_le _,hQ.congr fun j _=>by rw [if_neg (Nat.not_lt_zero _)],(Rat.add_zero s2).symm,hf2⟩
     clear hQ hf2;intro ⟨u,V,es,ck,L,s3⟩ ⟨hun,hQ,hs3,hf3⟩ ihc;dsimp only at hun hQ hs3 hf3 ⊢;by_cases huu:u < n
     ·clear ihs
      have hxu:=hXr i u hii huu;obtain ⟨m,hm⟩:∃ m:Nat,xOf XT i u=m:=⟨(xOf XT i u).toNat,by omega⟩
      have hce:=vJ hXT hii huu;rw [hm] at hce;have hgu:=hcr u huu;have hgf1:=hgf i u hii huu;have hul:u < (aD r l).length:=by omega
      have hQe:(fun j=>(gR (xOf XT) j (if j < u+1 then i+1 else i)).map (tbS r))=pF (fun j=>(gR (xOf XT) j (if j < u then i+1 else i)).map (tbS r)) u m (tbS r i):=funext fun j=>by
       unfold pF;dsimp only;by_cases e:j=u
       ·subst e
        rw [if_pos rfl,if_pos om,if_neg (Nat.lt_irrefl _),gR,hm,Int.toNat_natCast,List.map_append,List.map_replicate]
       ·rw [if_neg e]
        by_cases e2:j < u
        ·rw [if_pos e2,if_pos om]
        ·rw [if_neg e2,if_neg om]
      have ihc:=fun V' es' ck' L' h=>ihc (u+1,V',es',ck',L',s3+(xOf XT i u:Rat)*gX t l r i u) ⟨huu,by dsimp only;rw [hQe];exact h,by dsimp only;rw [hs3,rS',Rat.add_assoc],by
       have h1:=jC (n:=xOf XT i u) om om;have h2:=fY h1 hgf1 dc dc;exact aF (eT hf3 h2 om dc) (by dsimp only;omega)⟩ (by dsimp only;omega)
      dsimp only at ihc;rw [hm] at ihc;have hpl:∀ z,z<=m->(pF (fun j=>(gR (xOf XT) j (if j < u then i+1 else i)).map (tbS r)) u z (tbS r i) u).length<=2805120:=fun z hz=>by
       unfold pF;dsimp only;rw [if_pos rfl,if_neg (Nat.lt_irrefl _),List.length_append,List.length_replicate,List.length_map];have:=hcL i u om huu;omega
      generalize (fun j=>(gR (xOf XT) j (if j < u then i+1 else i)).map (tbS r))=Q at *
      clear hQe hs3;generalize hxe:XT.getD i (0,[])=xe at *;obtain ⟨bxe,Lxe⟩:=xe;dsimp only [fO] at hme hce ⊢;repeat' first|(refine gp ?_;and_intros<;>first|exact trivial|repeat first|intro(Bk:Nat)|intro h)|(apply G.ld;rfl;(apply LdV.one;apply aC.blk;(repeat (first|exact List.mem_append_right _ (hme _)|apply List.Mem.tail));exact hce);rfl)
      refine J.loop (c:=_) ((0,V,es,ck,L):Nat×List (Value×List Int)×Array MapEntry×Nat×List (Int×Value)) (fun x=>m-x.1) (fun x=>[(4,.pointer (some ⟨B1,0,none⟩)),(5,.pointer (some ⟨B2,0,none⟩)),(6,.pointer (some ⟨B6,0,none⟩)),(7,.pointer (some ⟨B7,0,none⟩)),(8,.func (.func 144) #[] #[.pointer (some ⟨B1,0,none⟩),.pointer (some ⟨B2,0,none⟩)]),(9,.pointer (some ⟨B9,0,none⟩)),(10,.pointer (some ⟨B10,0,none⟩)),(12,.pointer (some ⟨B12,0,none⟩)),(13,.map (some Bm)),(17,.pointer (some ⟨bt,0,none⟩)),(46,.slice (some ⟨ba,oa,none⟩) rs.length c),(47,.int .i64 rs.length),(48,.int .i64 k),(119,.slice (some ⟨bx,0,none⟩) r.tab.length kx),(120,.int .i64 r.tab.length),(121,.int .i64 i),(18,.int .i64 i),(126,.slice (some ⟨bxe,0,none⟩) n n),(127,.int .i64 n),(128,.int .i64 u),(20,.int .i64 u),(21,.int .i64 (m:Nat)),(133,.int .i64 (m:Nat)),(134,.int .i64 x.1)]) (fun x=>aL w.heap.size (some ⟨bca,oca,none⟩) 2 ((aD r l).map hoV)::.obj Bm (.map x.2.2.1 x.2.2.2.1)::.blk B12 67 [.int .i64 r.from_,.int .i64 r.to_,.slice r.adr r.tab.length r.cap,.int .i64 r.lo,.int .i64 r.hi] 5::.blk Bst 3 (flat isV ST) (N*1)::.blk B10 30 [.int .i64 f0,.slice (some ⟨Bst,0,none⟩) N N] 2::.blk B9 25 (qW s3) 3::.blk B7 30 [.int .i64 0,.slice none 0 0] 2::.blk B6 25 [.bool false,.string (bs []),.string (bs [])] 3::.blk B2 4 [.bool t] 1::.blk B1 23 [.slice b l.length d] 1::.blk bt 200 [.int .i64 r.from_,.int .i64 r.to_,.slice r.adr r.tab.length r.cap,.int .i64 r.lo,.int .i64 r.hi,.slice (some ⟨bca,oca,none⟩) n cc,.slice (some ⟨bc,0,none⟩) r.tab.length kc,.slice (some ⟨bx,0,none⟩) r.tab.length kx] 8::.blk bc 61 (flat (cY n) CT) tc::.blk bx 28 (flat (eD n) XT) tx::(rws eM CT++(rws (fO n) XT++(rws owF x.2.1++[])))) (fun x=>x.1<=m/\QOk r l n x.2.1 x.2.2.1 x.2.2.2.1 x.2.2.2.2 (pF Q u x.1 (tbS r i))) ?_ sbT sbL ?_
      ·exact ⟨Nat.zero_le _,by dsimp only;rw [C4];exact hQ⟩
      clear hQ;intro ⟨z,V,es,ck,L⟩ ⟨hzm,hQ⟩ ihz;dsimp only at hzm hQ ⊢;by_cases hzz':z < m
      ·clear ihc
       have ihz:=fun v es' ck' hI=>ihz (z+1,V.set u (v,(V.getD u dW).2++[tbS r i]),es',ck',gH (aG r l u) v L) ⟨hzz',H7 hQ hnn.symm huu v hI⟩ (by dsimp only;omega)
       have hVl:=hQ.len;have hgl:=hQ.g u huu;have hmp:=hQ.mp;have hpx:=hQ.q u huu;have hoa:=MU (V:=V) (c:=u) om [];have hin2:=fun r'=>MV (V:=V) (c:=u) om r' []
       have hst:=Kx V u;have hpl2:(V.getD u dW).2.length<=2805120:=by rw [hpx];exact hpl z om
       clear hQ hpx hpl;generalize V.getD u dW=pv at *;obtain ⟨pv,px⟩:=pv;dsimp only [owF] at hoa hgl ihz hpl2;repeat' first|(refine gp ?_;and_intros<;>first|exact trivial|repeat first|intro(Bk:Nat)|intro h)|(apply G.R6 (i:=i);rfl;rfl;exact hadr;rfl;exact hii;rfl)|(apply J.PB [aL w.heap.size (some ⟨bca,oca,none⟩) 2 ((aD r l).map hoV),.obj Bm (.map es ck),.blk B12 67 [.int .i64 r.from_,.int .i64 r.to_,.slice r.adr r.tab.length r.cap,.int .i64 r.lo,.int .i64 r.hi] 5,.blk bt 200 [.int .i64 r.from_,.int .i64 r.to_,.slice r.adr r.tab.length r.cap,.int .i64 r.lo,.int .i64 r.hi,.slice (some ⟨bca,oca,none⟩) n cc,.slice (some ⟨bc,0,none⟩) r.tab.length kc,.slice (some ⟨bx,0,none⟩) r.tab.length kx] 8] (.q 0 <| .q 1 <| .q 2 <| .q 3 <| .q 4 <| .q 5 <| .q 6 <| .q 7 <| .q 8 <| .q 9 <| .q 10 <| .q 11 <| .q 12 <| .q 13 <| .q 14 <| .q 15 <| .q 16 <| .q 17 <| .q 18 <| .q 19 <| .q 20 <| .q 21 <| .q 22 <| .q 23 <| .q 24 <| .e 25 <| .e 26 <| .r 27 <| .nil);exact Tryz.Pr;decide +kernel;(repeat' (first|exact List.nil_sublist _|exact List.Sublist.refl _|apply List.Sublist.cons_cons|apply List.Sublist.cons)))|(apply G.ld;rfl;(apply LdV.one;exact aC.cls (r:=r) (l:=l) (N:=w.heap.size) (b:=bca) (off:=oca) (c:=u) mm hul);rfl)|(apply G.lk (kf:=Value.int .i64) (a:=aG r l u) hmp;rfl;rfl;exact mm;exact hgl;rfl)|(apply G.Pu;rfl;rfl;rfl;rfl;rfl;rfl;rfl;rfl;intro Bs)|(apply G.PY;rfl;rfl;rfl;(repeat (first|exact RAt.app (RAt.app hoa _) _|apply RAt.tail));exact cB.blk (by exact mm) rfl rfl;exact (eJ (f:=isV) px (tbS r i)).symm;omega;omega;(intro v';(repeat' (first|exact List.nil_sublist _|exact List.Sublist.refl _|apply List.Sublist.cons_cons|apply List.Sublist.cons)));(intro v';(repeat (first|exact List.mem_append_right _ (List.mem_append_right _ (hin2 _))|apply List.Mem.tail)));intro a2 c2)|(apply G.mu (kf:=Value.int .i64) (a:=aG r l u) hmp rfl;rfl;rfl;rfl;rfl;(repeat (first|exact RAt.head|apply RAt.tail));intro es2 ck2 hI2)
       rw [hst];exact J.P1 (ihz _ _ _ hI2)
      ·obtain rfl:m=z:=by omega
       have ihc:=ihc V es ck L hQ;clear ihz hQ;have hi1:=Mb (n:=(m:Int)) om om;have hfi:=jC (n:=(m:Int)) om om;have hmu:=NT (aH.big hfi dc) (aH.big hgf1 dc);have hfm:=fY hfi hgf1 dc dc;have had:=LY (aH.big hf3 om) (aH.big hfm dc);have hld:qW (gX t l r i u)=[.bool (rQ (gX t l r i u)).neg,.string (bs (rQ (gX t l r i u)).num),.string (bs (rQ (gX t l r i u)).den)]:=rfl;clear hfi hgf1 hfm hf3 hpl;dsimp only [qW,qV] at ihc ⊢;generalize CT[i]=ce at *;obtain ⟨bce,kce,Lce⟩:=ce;dsimp only [eM] at hmC hc1 hgu;generalize rQ (s3+((m:Int):Rat)*gX t l r i u)=q1 at *;generalize rQ s3=q2 at *;generalize rQ (((m:Int):Rat)*gX t l r i u)=q3 at *;generalize rQ ((m:Int):Rat)=q4 at *;generalize hq5:rQ (gX t l r i u)=q5 at hld hmu;clear hq5;obtain ⟨n1,u1,d1⟩:=q1;obtain ⟨n2,u2,d2⟩:=q2;obtain ⟨n3,u3,d3⟩:=q3;obtain ⟨n4,u4,d4⟩:=q4;obtain ⟨n5,u5,d5⟩:=q5;dsimp only [qA] at ihc hi1 hmu had hld ⊢;repeat' first|(refine gp ?_;and_intros<;>first|exact trivial|repeat first|intro(Bk:Nat)|intro h)|(apply G.ld;rfl;(apply LdV.one;apply aC.blk;exact mm;exact hc1);rfl)|(apply G.ld;rfl;exact LdV.P6 bY (by (repeat (first|exact hmC _|apply List.Mem.tail))) hgu rfl hld;rfl)|(apply G.cV (g:=35);rfl;rfl;exact fun w' _=>hi1 w')|(apply G.cV (g:=83);rfl;rfl;exact fun w' _=>hmu w')|(apply G.cV (g:=27);rfl;rfl;exact fun w' _=>had w')
       exact J.P1 ihc
     ·obtain rfl:n=u:=by omega
      clear ihc;have ihs:=ihs (i+1,V,es,ck,L,s3) ⟨hii,hQ.congr fun j hj=>by rw [if_pos hj],by dsimp only;rw [hs3,hs2,rS',Rat.add_assoc],aF hf3 (by dsimp only;omega)⟩ (by dsimp only;omega)
      all_goals (refine go ?_;and_intros<;>first|exact trivial|repeat first|intro(Bk:Nat)|intro h)
      exact J.P1 ihs
    ·obtain rfl:i=r.tab.length:=by omega
     clear ihs;have hqr:∀ c,jL t l r (xOf XT) c=(gR (xOf XT) c r.tab.length).map (tbS r):=fun c=>by unfold jL;rw [if_neg h0t]
     obtain ⟨pi,hp1,hp2⟩:=hpi;have htb2:=Ki (t:=t) (X:=xOf XT) hr h0t hio (by rw [hnn];exact hFe) (pi:=pi) (by rw [hnn];exact hp1) (by rw [hnn];exact hp2)
     have hQ:=hQ.congr (Q':=jL t l r (xOf XT)) fun i hi=>hqr i
     all_goals (refine go ?_;and_intros<;>first|exact trivial|repeat first|intro(Bk:Nat)|intro h)
     exact J.sel (J.sub (by (repeat' (first|exact trivial|refine ⟨rfl,?_⟩))) (hk2 ⟨⟨V,es,ck,L,s2,Bk,B12,Bm,xOf XT⟩,by
      unfold Ky;rw [hnn];refine ⟨hQ,fun c h=>?_,htb2.1,?_,aF hf2 om⟩
      ·have h1:=wR hr h0t hio (X:=xOf XT) (by rw [hnn];exact hFe) c
       have h2:=nM (xOf XT) c r.tab.length fun s hs=>hFe.nn s c hs h
       rw [hFe.col c h] at h2;have h3:=hcps c h;dsimp only;rw [hqr,List.length_map];omega
      ·dsimp only
       rw [hs2,htb2.2,hnn];rfl⟩)) (by (repeat' (first|exact Sel.refl|(refine Sel.cons (by (repeat (first|exact eS.head|apply eS.tail))) ?_)|apply Sel.drop|refine Sel.PV ?_ _)))
  ·rintro ⟨⟨V,es,ck,L,s2,B22,B12,Bm,X⟩,hQ,hcn2,hbr,hs2,hf2⟩
   dsimp only at hQ hcn2 hbr hs2 hf2 ⊢;rw [hnn] at hQ hcn2;refine J.Qe (R:=[]) V [.blk B22 3 [.int .i64 r.from_] 1,.obj Bm (.map es ck),.blk B12 67 [.int .i64 r.from_,.int .i64 r.to_,.slice r.adr r.tab.length r.cap,.int .i64 r.lo,.int .i64 r.hi] 5,.blk Bst 3 (flat isV ST) (N*1),.blk B10 30 [.int .i64 f0,.slice (some ⟨Bst,0,none⟩) N N] 2,.blk B9 25 (qW s2) 3,.blk B7 30 [.int .i64 0,.slice none 0 0] 2,.blk B6 25 [.bool false,.string (bs []),.string (bs [])] 3,.blk B2 4 [.bool t] 1,.blk B1 23 [.slice b l.length d] 1] (fun p hp=>?_) ?_
   ·obtain ⟨i,hi,rfl⟩:=List.mem_iff_getElem.1 hp
    have h1:=hQ.len;have h2:=hQ.q i om;rw [DB hi] at h2;rw [h2];exact (hcn2 i om).2
   intro W hWl hW;simp only [List.cons_append,List.nil_append];obtain ⟨hTk,hWc⟩:=Gg.start hQ hWl hW;have hWn:W.length=n:=hWl.trans hQ.len;have hlen:=Mo (t:=t) (r:=r) (l:=l) (X:=X);have hAl:(A.length:Int)=r.from_-f0:=by omega
   have hpos:(A.length:Int)+(r.to_-r.from_)<=N:=by omega
   clear hW hQ hWl;obtain ⟨m,hm⟩:∃ m:Nat,r.to_-r.from_=m:=⟨(r.to_-r.from_).toNat,by omega⟩
   rw [show Row.blk B22 3 [Value.int .i64 r.from_] 1=Row.blk B22 3 [Value.int .i64 (r.from_+((0:Nat):Int))] 1 from by rw [Int.natCast_zero,Int.add_zero]]
   refine J.loop (c:=_) ((0,B22,ST,es,ck,L):Nat×Nat×List Int×Array MapEntry×Nat×List (Int×Value)) (fun x=>m-x.1) (fun x=>[(4,.pointer (some ⟨B1,0,none⟩)),(5,.pointer (some ⟨B2,0,none⟩)),(6,.pointer (some ⟨B6,0,none⟩)),(7,.pointer (some ⟨B7,0,none⟩)),(8,.func (.func 144) #[] #[.pointer (some ⟨B1,0,none⟩),.pointer (some ⟨B2,0,none⟩)]),(9,.pointer (some ⟨B9,0,none⟩)),(10,.pointer (some ⟨B10,0,none⟩)),(12,.pointer (some ⟨B12,0,none⟩)),(13,.map (some Bm)),(22,.pointer (some ⟨x.2.1,0,none⟩)),(46,.slice (some ⟨ba,oa,none⟩) rs.length c),(47,.int .i64 rs.length),(48,.int .i64 k)]) (fun x=>.blk x.2.1 3 [.int .i64 (r.from_+x.1)] 1::.obj Bm (.map x.2.2.2.1 x.2.2.2.2.1)::.blk B12 67 [.int .i64 r.from_,.int .i64 r.to_,.slice r.adr r.tab.length r.cap,.int .i64 r.lo,.int .i64 r.hi] 5::.blk Bst 3 (flat isV x.2.2.1) (N*1)::.blk B10 30 [.int .i64 f0,.slice (some ⟨Bst,0,none⟩) N N] 2::.blk B9 25 (qW s2) 3::.blk B7 30 [.int .i64 0,.slice none 0 0] 2::.blk B6 25 [.bool false,.string (bs []),.string (bs [])] 3::.blk B2 4 [.bool t] 1::.blk B1 23 [.slice b l.length d] 1::(rws opF W++[])) (fun x=>x.1<=m/\x.2.2.1.length=N/\Gg r l n W (jL t l r X) x.1 x.2.2.2.1 x.2.2.2.2.1 x.2.2.2.2.2/\(∀ i,i < A.length->x.2.2.1[i]?=A[i]?)/\∀ i,i < x.1->x.2.2.1[A.length+i]?=(sM t l r X)[i]?) ?_ sbT sbL ?_
   ·exact ⟨Nat.zero_le _,hSl,hTk,hSA,fun i h=>absurd h (Nat.not_lt_zero _)⟩
   clear hTk hSl hSA;intro ⟨j,B22,ST,es,ck,L⟩ ⟨hjm,hSl,hTk,hSA,hSH⟩ ihj;dsimp only at hjm hSl hTk hSA hSH ⊢;by_cases hj:j < m
   ·clear ihk
    have hkj:=MS (r:=r) (l:=l) (j:=j) om;have hcx:=tM hio hr.rng.2.1 (t:=r.from_+j) om om;rw [hnn] at hcx;obtain ⟨hci,hcp⟩:=hcx;obtain ⟨hcl1,hHj⟩:=Oa (t:=t) (X:=X) hkj (hcn2 _ hci).1;obtain ⟨hW1,hW2⟩:=hWc _ hci;obtain ⟨o,hgo,ho⟩:=hTk.g _ hci;have ho:=ho hcl1;subst ho;rw [hcp] at hgo;have hstep:=fun es' ck' hI=>hTk.step (es':=es') (ck':=ck') hnn.symm hkj hci hcl1 hW2 hcp hI
    have hmp:=hTk.mp;have hmW:=fun R=>iG (F:=opF) (T:=W) (M0:=R) (i:=dG r l (r.from_+j)) om
    have hWg:W.getD (dG r l (r.from_+j)) dZ=W[dG r l (r.from_+j)]'om:=by rw [gD,gE om];rfl
    rw [<- hWg] at hmW;obtain ⟨hv,hhv⟩:∃ hv,(jL t l r X (dG r l (r.from_+j)))[gN r l j (dG r l (r.from_+j))]?=some hv:=⟨_,gE hcl1⟩;have hcell:(flat isV (W.getD (dG r l (r.from_+j)) dZ).2.2)[gN r l j (dG r l (r.from_+j))+0*1]?=some (.int .i64 hv):=by
     rw [hW1];have h1:=gA (f:=isV) dE hcl1 (v:=.int .i64 hv) (by rw [(List.getElem?_eq_some_iff.1 hhv).2];rfl)
     rw [Nat.zero_add,Nat.mul_one] at h1;exact h1
    have hset:=rX (l:=ST) (b:=A.length+j) om hv;rw [hhv] at hHj;have ihj:=fun B es' ck' hI=>ihj (j+1,B,ST.set (A.length+j) hv,es',ck',_) ⟨hj,by rw [List.length_set];exact hSl,hstep es' ck' hI,fun i hi=>by
     dsimp only;rw [List.getElem?_set_ne om];exact hSA i hi,fun i hi=>by
     dsimp only at hi ⊢;by_cases e:i=j
     ·subst e;rw [List.getElem?_set_self om,hHj]
     ·rw [List.getElem?_set_ne om];exact hSH i om⟩ (by dsimp only;omega)
    dsimp only at ihj;have hgl:(jP (bO l (r.from_+j)) L).getD (.slice none 0 0)=.slice (some ⟨(W.getD (dG r l (r.from_+j)) dZ).1,gN r l j (dG r l (r.from_+j)),none⟩) ((jL t l r X (dG r l (r.from_+j))).length-gN r l j (dG r l (r.from_+j))) ((W.getD (dG r l (r.from_+j)) dZ).2.1-gN r l j (dG r l (r.from_+j))):=by rw [hgo];rfl
    have hjc:(((j+1:Nat):Int))=(j:Int)+1:=Int.natCast_succ j;have hxe:r.from_+(((j+1:Nat):Int))=r.from_+(j:Int)+1:=by omega
    rw [hxe] at ihj;have hsr:=fun (M:List Row) w' (hw':Sat w M w') h1 h3=>I3 (B1:=B1) (B3:=B22) (e1:=23) (e3:=3) (t1:=1) (t3:=1) (d:=d) (x:=r.from_+j) hB.1 hio hl4 hw' h1 h3
    have hxb:0<=r.from_+(j:Int)/\r.from_+(j:Int) < 1402560:=by omega
    have hxf:r.from_+(j:Int)-f0=((A.length+j:Nat):Int):=by omega
    have hkt:=C1 l (r.from_+j);have hAj:A.length+j < N:=by omega
    have hcs:(kT l (r.from_+j)=l.length/\bO l (r.from_+j)=-1)∨(∃ h:kT l (r.from_+j) < l.length,r.from_+j < l[kT l (r.from_+j)].from_/\bO l (r.from_+j)=-1)∨(∃ h:kT l (r.from_+j) < l.length,l[kT l (r.from_+j)].from_<=r.from_+j/\bO l (r.from_+j)=(kT l (r.from_+j):Int)):=by
     by_cases h:kT l (r.from_+j) < l.length
     ·by_cases h2:r.from_+j < l[kT l (r.from_+j)].from_
      ·exact .inr (.inl ⟨h,h2,rZ hio fun _=>h2⟩)
      ·exact .inr (.inr ⟨h,by omega,ET hio h om⟩)
     ·exact .inl ⟨by omega,rZ hio fun h2=>absurd h2 h⟩
    have hlc:0 < (jL t l r X (dG r l (r.from_+j))).length-gN r l j (dG r l (r.from_+j)):=by omega
    clear hgo hhv hHj hSH hSA hstep hTk hcl1 hkj hcp hW1 hWg hcn2 hbr hs2 hf2 hci hWc;generalize W.getD (dG r l (r.from_+j)) dZ=wc at *;generalize gN r l j (dG r l (r.from_+j))=cn at *;generalize (jL t l r X (dG r l (r.from_+j))).length=ql at *;obtain ⟨wb,wcap,wx⟩:=wc;dsimp only [opF] at hmW hcell hgl ihj hW2;rcases hcs with ⟨hk1,hp⟩|⟨hk1,hk2,hp⟩|⟨hk1,hk2,hp⟩
    ·generalize kT l (r.from_+j)=K at *
     all_goals (refine goR ?_;and_intros<;>(try exact trivial)<;>repeat (first|refine fun (Bk:Nat)=>?_|intro h))
     repeat' ((first|(apply G.cV (g:=124);rfl;rfl;exact fun w' hw'=>hsr _ w' hw' (by (repeat (first|exact List.Mem.head _|apply List.Mem.tail|apply List.mem_append_right))) (by (repeat (first|exact List.Mem.head _|apply List.Mem.tail|apply List.mem_append_right))))|(apply J.Pz;exact Tryz.Pr;decide +kernel))<;>(refine goR ?_;and_intros<;>(try exact trivial)<;>repeat (first|refine fun (Bk:Nat)=>?_|intro h)))
     refine J.Qo 23 (congrArg (Value.int .i64) hp.symm) ?_;generalize bO l (r.from_+j)=pl at *;repeat' first|(refine gp ?_;and_intros<;>first|exact trivial|repeat first|intro(Bk:Nat)|intro h)|(apply G.lk (kf:=Value.int .i64) (a:=pl) hmp;rfl;rfl;exact mm;exact hgl;rfl)|(apply G.ld;rfl;(apply LdV.one;apply aC.blk;(repeat (first|exact hmW _|apply List.Mem.tail));exact hcell);rfl)|(apply G.ix (i:=A.length+j);rfl;rfl;exact hxf;exact hAj;rfl)|(apply G.s1;rfl;rfl;rfl;(repeat (first|exact RAt.head|apply RAt.tail));exact ⟨rfl,rfl⟩;(rw [aO dE];omega);exact hset)|(apply G.sliceFrom (l:=1);rfl;rfl;rfl;omega;rfl;rfl;rfl)|(apply G.mu (kf:=Value.int .i64) (a:=pl) hmp rfl;rfl;rfl;rfl;rfl;(repeat (first|exact RAt.head|apply RAt.tail));intro es2 ck2 hI2)
     exact J.fin (ihj Bk _ _ hI2)
    ·obtain ⟨bb,ob,hb,hrow⟩:=aE.all hB.1 om
     subst hb;have hrK:=hrow _ hk1;clear hrow;generalize kT l (r.from_+j)=K at *;generalize l[K]=sp at *;dsimp only [spV] at hrK;all_goals (refine goR ?_;and_intros<;>(try exact trivial)<;>repeat (first|refine fun (Bk:Nat)=>?_|intro h))
     repeat' ((first|(apply G.cV (g:=124);rfl;rfl;exact fun w' hw'=>hsr _ w' hw' (by (repeat (first|exact List.Mem.head _|apply List.Mem.tail|apply List.mem_append_right))) (by (repeat (first|exact List.Mem.head _|apply List.Mem.tail|apply List.mem_append_right))))|(apply J.Pz;exact Tryz.Pr;decide +kernel))<;>(refine goR ?_;and_intros<;>(try exact trivial)<;>repeat (first|refine fun (Bk:Nat)=>?_|intro h)))
     refine J.Qo 23 (congrArg (Value.int .i64) hp.symm) ?_;generalize bO l (r.from_+j)=pl at *;repeat' first|(refine gp ?_;and_intros<;>first|exact trivial|repeat first|intro(Bk:Nat)|intro h)|(apply G.lk (kf:=Value.int .i64) (a:=pl) hmp;rfl;rfl;exact mm;exact hgl;rfl)|(apply G.ld;rfl;(apply LdV.one;apply aC.blk;(repeat (first|exact hmW _|apply List.Mem.tail));exact hcell);rfl)|(apply G.ix (i:=A.length+j);rfl;rfl;exact hxf;exact hAj;rfl)|(apply G.s1;rfl;rfl;rfl;(repeat (first|exact RAt.head|apply RAt.tail));exact ⟨rfl,rfl⟩;(rw [aO dE];omega);exact hset)|(apply G.sliceFrom (l:=1);rfl;rfl;rfl;omega;rfl;rfl;rfl)|(apply G.mu (kf:=Value.int .i64) (a:=pl) hmp rfl;rfl;rfl;rfl;rfl;(repeat (first|exact RAt.head|apply RAt.tail));intro es2 ck2 hI2)
     exact J.fin (ihj Bk _ _ hI2)
    ·obtain ⟨bb,ob,hb,hrow⟩:=aE.all hB.1 om
     subst hb;have hrK:=hrow _ hk1;clear hrow;generalize kT l (r.from_+j)=K at *;generalize l[K]=sp at *;dsimp only [spV] at hrK;all_goals (refine goR ?_;and_intros<;>(try exact trivial)<;>repeat (first|refine fun (Bk:Nat)=>?_|intro h))
     repeat' ((first|(apply G.cV (g:=124);rfl;rfl;exact fun w' hw'=>hsr _ w' hw' (by (repeat (first|exact List.Mem.head _|apply List.Mem.tail|apply List.mem_append_right))) (by (repeat (first|exact List.Mem.head _|apply List.Mem.tail|apply List.mem_append_right))))|(apply J.Pz;exact Tryz.Pr;decide +kernel))<;>(refine goR ?_;and_intros<;>(try exact trivial)<;>repeat (first|refine fun (Bk:Nat)=>?_|intro h)))
     refine J.Qo 23 (congrArg (Value.int .i64) hp.symm) ?_;generalize bO l (r.from_+j)=pl at *;repeat' first|(refine gp ?_;and_intros<;>first|exact trivial|repeat first|intro(Bk:Nat)|intro h)|(apply G.lk (kf:=Value.int .i64) (a:=pl) hmp;rfl;rfl;exact mm;exact hgl;rfl)|(apply G.ld;rfl;(apply LdV.one;apply aC.blk;(repeat (first|exact hmW _|apply List.Mem.tail));exact hcell);rfl)|(apply G.ix (i:=A.length+j);rfl;rfl;exact hxf;exact hAj;rfl)|(apply G.s1;rfl;rfl;rfl;(repeat (first|exact RAt.head|apply RAt.tail));exact ⟨rfl,rfl⟩;(rw [aO dE];omega);exact hset)|(apply G.sliceFrom (l:=1);rfl;rfl;rfl;omega;rfl;rfl;rfl)|(apply G.mu (kf:=Value.int .i64) (a:=pl) hmp rfl;rfl;rfl;rfl;rfl;(repeat (first|exact RAt.head|apply RAt.tail));intro es2 ck2 hI2)
     exact J.fin (ihj Bk _ _ hI2)
   ·obtain rfl:m=j:=by omega
    clear ihj;have ihk:=ihk ST (sM t l r X) s2 hbr hSl (fun i hi=>by
     rw [List.length_append] at hi;by_cases e:i < A.length
     ·rw [List.getElem?_append_left e];exact hSA i e
     ·have h1:=hSH (i-A.length) om
      rw [List.getElem?_append_right om,<- h1,show A.length+(i-A.length)=i by omega]) (by
     rw [fM,iF,<- hfr,hs2,hsv]) hf2
    all_goals (refine go ?_;and_intros<;>first|exact trivial|repeat first|intro(Bk:Nat)|intro h)
    exact J.sel (J.sub (by (repeat' (first|exact trivial|refine ⟨rfl,?_⟩))) ihk) (by (repeat' (first|exact Sel.refl|(refine Sel.cons (by (repeat (first|exact eS.head|apply eS.tail))) ?_)|apply Sel.drop|refine Sel.PV ?_ _)))
 ·obtain rfl:k=rs.length:=by omega
  rw [List.take_length] at hbe;have hAl:=Mp hchn hrok hbe.ag;have hAN:A.length=N:=by omega
  have hST:ST=A:=List.ext_getElem? fun i=>by
   by_cases e:i < A.length
   ·exact hSA i e
   ·rw [List.getElem?_eq_none om,List.getElem?_eq_none om]
  subst hST;clear ihk hSA hA hra r0 r1 hrate hcn hf;have hbs:big s:=aH.big hsf om;cases t with
  | false =>
   have hsv:s=aI l f0 ST:=hsv;subst hsv;dsimp only [qW,qV];generalize hq:rQ (aI l f0 ST)=q at *;obtain ⟨n1,u1,d1⟩:=q;all_goals (refine goR ?_;and_intros<;>(try exact trivial)<;>repeat (first|refine fun (Bk:Nat)=>?_|intro h))
   refine J.PB _ (.q 0 <| .q 1 <| .e 2 <| .r 3 <| .nil) Tryz.Pr (by decide +kernel) (List.Sublist.cons _ (List.Sublist.cons_cons _ (List.Sublist.cons_cons _ (List.nil_sublist _)))) ?_
   dsimp only;all_goals (refine goG ?_;and_intros<;>(try exact trivial)<;>repeat (first|refine fun (Bk:Nat)=>?_|intro h))
   apply G.Qu (vs:=[.bool n1,.string (bs u1),.string (bs d1)]) (out:=[.bool n1,.string (bs u1),.string (bs d1)]);rfl;rfl;rfl;rfl
   (repeat (first|exact RAt.head|apply RAt.tail))
   rfl;rfl
   (dsimp only [List.length_cons,List.length_nil];omega)
   rfl
   (repeat' (first|exact List.nil_sublist _|exact List.Sublist.refl _|apply List.Sublist.cons_cons|apply List.Sublist.cons))
   all_goals (refine goG ?_;and_intros<;>(try exact trivial)<;>repeat (first|refine fun (Bk:Nat)=>?_|intro h))
   (refine sK Tryz.func111 Tryz.results111 ?_;intro w' hw)
   refine ⟨⟨(ST,some ⟨Bst,0,none⟩),hbe⟩,?_,?_⟩
   ·dsimp only
    rw [hq,hAN];rfl
   ·obtain ⟨a',c',e1,h1,h2,h3⟩:=OK (f:=isV) (n:=ST.length) (c:=0) dE hw (by exact mm) rfl (fun v=>v)
    cases e1;exact ⟨h1,h2,h3⟩
  | true =>
   have hng:=Ma hbs;have e:aI l f0 ST=-s:=by rw [hsv];exact (Rat.neg_neg _).symm
   dsimp only [qW,qV];generalize hq:rQ (-s)=q at *;generalize hq2:rQ s=q2 at *;obtain ⟨n1,u1,d1⟩:=q;obtain ⟨n2,u2,d2⟩:=q2;dsimp only [qA] at hng;all_goals (refine goR ?_;and_intros<;>(try exact trivial)<;>repeat (first|refine fun (Bk:Nat)=>?_|intro h))
   apply G.cV (g:=145);rfl;rfl;exact fun w' _=>hng w'
   all_goals (refine goR ?_;and_intros<;>(try exact trivial)<;>repeat (first|refine fun (Bk:Nat)=>?_|intro h))
   refine J.PB _ (.q 0 <| .q 1 <| .e 2 <| .r 3 <| .nil) Tryz.Pr (by decide +kernel) (List.Sublist.cons _ (List.Sublist.cons_cons _ (List.Sublist.cons_cons _ (List.nil_sublist _)))) ?_
   dsimp only;all_goals (refine goG ?_;and_intros<;>(try exact trivial)<;>repeat (first|refine fun (Bk:Nat)=>?_|intro h))
   apply G.Qu (vs:=[.bool n1,.string (bs u1),.string (bs d1)]) (out:=[.bool n1,.string (bs u1),.string (bs d1)]);rfl;rfl;rfl;rfl
   (repeat (first|exact RAt.head|apply RAt.tail))
   rfl;rfl
   (dsimp only [List.length_cons,List.length_nil];omega)
   rfl
   (repeat' (first|exact List.nil_sublist _|exact List.Sublist.refl _|apply List.Sublist.cons_cons|apply List.Sublist.cons))
   all_goals (refine goG ?_;and_intros<;>(try exact trivial)<;>repeat (first|refine fun (Bk:Nat)=>?_|intro h))
   (refine sK Tryz.func111 Tryz.results111 ?_;intro w' hw)
   refine ⟨⟨(ST,some ⟨Bst,0,none⟩),hbe⟩,?_,?_⟩
   ·dsimp only
    rw [e,hq,hAN];rfl
   ·obtain ⟨a',c',e1,h1,h2,h3⟩:=OK (f:=isV) (n:=ST.length) (c:=0) dE hw (by exact mm) rfl (fun v=>v)
    cases e1;exact ⟨h1,h2,h3⟩
end Go.Proofs.YtjcecdmbfmccoaaGreatDoor
/-
 Contracts of bounds: the least and the greatest volume,and the interval.
-/
namespace Go.Sl
open Go.RowKit
variable {C:Ctx}{st:List (Nat×Value)}{M:List Row}{k:List Item}{q q':Md}{all rest:List Oper}{d:Nat}{ty:TypeId}{pos:String}{after:Array Edge}{gd:Option (Nat×Bool)}
theorem G.cH {X:Type}{g:FuncId}{args:List Operand}{vs:List Value}{at_:Array TypeId}{sz:Nat} (v:X->Value) (ad:X->Option Addr) (L:X->List (List Value)) (ha:evL st args=some vs) (hs:bA all st gd d C.N q.ext=some q') [hF:Fun C.P g]
  (hc:∀ w,Sat C.w0 M w->Calls C.P g vs.toArray w fun e w'=>∃ x,e=.returned (v x)/\aE w' (ad x) sz (L x)/\(∀ p,ad x=some p->w.heap.size<=p.block)/\Below w.heap.size w w')
  (h:∀ x,(∀ p,ad x=some p->C.w0.heap.size<=p.block)->G q' C all ((d,v x)::st) (aL C.w0.heap.size (ad x) sz (L x)::M) rest k) :
  G q C all st M ({ dst:=some d,op:=.call { callee:=.value (.func g),args:=args.toArray,argTypes:=at_ },type:=ty,pos,after,guard:=gd }::rest) k:=by
 obtain ⟨g1,g2,g3⟩:=aJ hs;refine G.call0 (X:={ x:X // ∀ p,ad x=some p->C.w0.heap.size<=p.block }) (v:=fun x=>v x.1) (Mn:=fun x=>[aL C.w0.heap.size (ad x.1) sz (L x.1)]) g1 g2 g3 ha (fun w hw=>(hc w hw).mono fun e w' he=>?_) fun x=>h x.1 x.2
 obtain ⟨x,rfl,h1,h2,h3⟩:=he;exact ⟨⟨x,fun p hp=>Nat.le_trans hw.size (h2 p hp)⟩,rfl,(hw.ext h3).addFact (Nat.le_refl _) h1 fun b hb=>hw.supN h1 h2 hb⟩
end Go.Sl
namespace Go.Proofs.YtjcecdmbfmccoaaGreatDoor
open Go.RowKit Go.Sl Go.Num
abbrev Ba (t:Bool) (rs:List Rn) (l:List Spn):Type:={ x:List Int×Option Addr // iR t l rs x.1 }
def jJ {t:Bool}{rs:List Rn}{l:List Spn} (x:Ba t rs l):Q3:=rQ (aI l (f0R rs) x.1.1)
def qQ {t:Bool}{rs:List Rn}{l:List Spn} (x:Ba t rs l):Value:=.agg #[.int .i64 (f0R rs),.slice x.1.2 x.1.1.length x.1.1.length]
structure Mod (rs:List Rn) (l:List Spn):Prop where
 tab:∀ r∈rs,r.tab.length<=64
 few:∀ s∈l,fewS s
 cls:cU rs l=0->∀ r∈rs,(aD r l).length<=31
 len:rs.length<=64
theorem Pi (t:Bool) (a:Option Addr) (rs:List Rn) (c:Nat) (b:Option Addr) (l:List Spn) (d:Nat) (w:World) (hA:aW w a rs) (hB:aN w b l) (hM:Mod rs l) (h0:cU rs l=0) :
  Calls Tryz.prog 111 #[.slice a rs.length c,.slice b l.length d,.bool t] w fun e w'=>∃ x:Ba t rs l,e=.returned (.tuple #[qA (jJ x),qQ x])/\aE w' x.1.2 1 (x.1.1.map isV)/\(∀ p,x.1.2=some p->w.heap.size<=p.block)/\Below w.heap.size w w':=by
 by_cases hne:rs=[]
 ·subst hne
  have hv:aI l (f0R []) []=0:=rfl;have hz:∀ w':World,aE w' none 1 (([]:List Int).map isV):=fun w' h=>absurd h (Nat.lt_irrefl _)
  have hx:∀ w',Below w.heap.size w w'->∃ x:Ba t [] l,Ending.returned (.tuple #[.agg #[.bool false,.string (bs []),.string (bs [])],.agg #[.int .i64 0,.slice none 0 0]])=.returned (.tuple #[qA (jJ x),qQ x])/\aE w' x.1.2 1 (x.1.1.map isV)/\(∀ p,x.1.2=some p->w.heap.size<=p.block)/\Below w.heap.size w w':=fun w' hb=>⟨⟨([],none),rfl⟩,rfl,hz w',fun p hp=>(by cases hp),hb⟩
  clear hA hM hB h0 hv hz;cases t with
  | false =>
   refine aB [(0,.slice a 0 c),(1,.slice b l.length d),(2,.bool false)] Tryz.func111 Tryz.ntmps111 ?_;all_goals (refine goR ?_;and_intros<;>(try exact trivial)<;>repeat (first|refine fun (Bk:Nat)=>?_|intro h))
   refine J.loop (c:=_) (0:Nat) (fun s=>0) (fun s=>[(5,.pointer (some ⟨_,0,none⟩)),(6,.pointer (some ⟨_,0,none⟩)),(7,.pointer (some ⟨_,0,none⟩)),(9,.pointer (some ⟨_,0,none⟩)),(10,.pointer (some ⟨_,0,none⟩)),(47,.int .i64 0),(48,.int .i64 0)]) (fun s=>[.blk _ 30 [.int .i64 0,.slice none 0 0] 2,.blk _ 25 [.bool false,.string (bs []),.string (bs [])] 3,.blk _ 30 [.int .i64 0,.slice none 0 0] 2,.blk _ 25 [.bool false,.string (bs []),.string (bs [])] 3,.blk _ 4 [.bool false] 1]) (fun s=>True) ?_ sbT sbL ?_
   ·trivial
   intro _ _ ih;clear ih;all_goals (refine goR ?_;and_intros<;>(try exact trivial)<;>repeat (first|refine fun (Bk:Nat)=>?_|intro h))
   refine J.PB _ (.q 0 <| .q 1 <| .e 2 <| .r 3 <| .nil) Tryz.Pr (by decide +kernel) (List.Sublist.cons_cons _ (List.Sublist.cons_cons _ (List.nil_sublist _))) ?_
   all_goals (refine goG ?_;and_intros<;>(try exact trivial)<;>repeat (first|refine fun (Bk:Nat)=>?_|intro h))
   (refine sK Tryz.func111 Tryz.results111 ?_;intro w' hw)
   exact hx _ hw.below
  | true =>
   have hng:=Ma AN;rw [Rat.neg_zero] at hng;refine aB [(0,.slice a 0 c),(1,.slice b l.length d),(2,.bool true)] Tryz.func111 Tryz.ntmps111 ?_;all_goals (refine goR ?_;and_intros<;>(try exact trivial)<;>repeat (first|refine fun (Bk:Nat)=>?_|intro h))
   refine J.loop (c:=_) (0:Nat) (fun s=>0) (fun s=>[(5,.pointer (some ⟨_,0,none⟩)),(6,.pointer (some ⟨_,0,none⟩)),(7,.pointer (some ⟨_,0,none⟩)),(9,.pointer (some ⟨_,0,none⟩)),(10,.pointer (some ⟨_,0,none⟩)),(47,.int .i64 0),(48,.int .i64 0)]) (fun s=>[.blk _ 30 [.int .i64 0,.slice none 0 0] 2,.blk _ 25 [.bool false,.string (bs []),.string (bs [])] 3,.blk _ 30 [.int .i64 0,.slice none 0 0] 2,.blk _ 25 [.bool false,.string (bs []),.string (bs [])] 3,.blk _ 4 [.bool true] 1]) (fun s=>True) ?_ sbT sbL ?_
   ·trivial
   intro _ _ ih;clear ih;all_goals (refine goR ?_;and_intros<;>(try exact trivial)<;>repeat (first|refine fun (Bk:Nat)=>?_|intro h))
   apply G.cV (g:=145) (v:=.agg #[.bool false,.string (bs []),.string (bs [])]);rfl;rfl;exact fun w' _=>hng w'
   all_goals (refine goR ?_;and_intros<;>(try exact trivial)<;>repeat (first|refine fun (Bk:Nat)=>?_|intro h))
   refine J.PB _ (.q 0 <| .q 1 <| .e 2 <| .r 3 <| .nil) Tryz.Pr (by decide +kernel) (List.Sublist.cons_cons _ (List.Sublist.cons_cons _ (List.nil_sublist _))) ?_
   all_goals (refine goG ?_;and_intros<;>(try exact trivial)<;>repeat (first|refine fun (Bk:Nat)=>?_|intro h))
   (refine sK Tryz.func111 Tryz.results111 ?_;intro w' hw)
   exact hx _ hw.below
 ·obtain ⟨ba,oa,rfl,_⟩:=aE.all hA.1 (List.length_pos_iff.2 hne)
  exact Kz ba oa rs c b l d t w hA hM.tab hB hM.few h0 (hM.cls h0) hM.len hne
theorem K0 (t:Bool) (a:Option Addr) (rs:List Rn) (c:Nat) (b:Option Addr) (l:List Spn) (d:Nat) (w:World) (hA:aW w a rs) (hB:aN w b l) (hM:Mod rs l) (h0:cU rs l=0) :
  Calls Tryz.prog (if t=true then 65 else 64) #[.slice a rs.length c,.slice b l.length d] w fun e w'=>∃ x:Ba t rs l,e=.returned (.tuple #[qA (jJ x),qQ x,.int .i64 0])/\aE w' x.1.2 1 (x.1.1.map isV)/\(∀ p,x.1.2=some p->w.heap.size<=p.block)/\Below w.heap.size w w':=by
 have hc:=fun w' (hb:Below w.heap.size w w')=>oR a rs c b l d w' (hA.below hb) hM.tab (hB.below hb) hM.few
 have he:=fun w' (hb:Below w.heap.size w w')=>Pi t a rs c b l d w' (hA.below hb) (hB.below hb) hM h0
 rw [h0] at hc;clear hA hB hM h0;cases t with
 | false =>
  show Calls Tryz.prog 64 _ _ _
  refine aB [(0,.slice a rs.length c),(1,.slice b l.length d)] Tryz.func64 Tryz.ntmps64 ?_;all_goals (refine goR ?_;and_intros<;>(try exact trivial)<;>repeat (first|refine fun (Bk:Nat)=>?_|intro h))
  repeat' ((first|(apply G.cV (g:=36);rfl;rfl;exact fun w' hw=>hc w' hw.below)|(refine G.cH (g:=111) (sz:=1) (fun x=>.tuple #[qA (jJ x),qQ x]) (fun x=>x.1.2) (fun x=>x.1.1.map isV) rfl rfl (fun w' hw=>he w' hw.below) ?_;intro x hx1;generalize hq:jJ x=q;obtain ⟨n1,u1,d1⟩:=q;dsimp only [qA];unfold qQ)|(refine J.PB _ (.q 0 <| .q 1 <| .e 2 <| .r 3 <| .q 4 <| .nil) Tryz.Pr (by decide +kernel) (List.Sublist.cons_cons _ (List.Sublist.cons_cons _ (List.nil_sublist _))) ?_)|(apply G.Qu (vs:=[.bool n1,.string (bs u1),.string (bs d1)]) (out:=[.bool n1,.string (bs u1),.string (bs d1)]);rfl;rfl;rfl;rfl;(repeat (first|exact RAt.head|apply RAt.tail));rfl;rfl;(dsimp only [List.length_cons,List.length_nil];omega);rfl;(repeat' (first|exact List.nil_sublist _|exact List.Sublist.refl _|apply List.Sublist.cons_cons|apply List.Sublist.cons)))|(apply J.Pz;exact Tryz.Pr;decide +kernel)|(apply J.P3;exact Tryz.Pr;decide +kernel))<;>(refine goR ?_;and_intros<;>(try exact trivial)<;>repeat (first|refine fun (Bk:Nat)=>?_|intro h)))
  (refine Lv Tryz.func64 Tryz.results64 ?_;intro w' hw)
  refine ⟨x,?_,hw.sl mm,hx1,hw.below⟩;rw [hq];rfl
 | true =>
  show Calls Tryz.prog 65 _ _ _
  refine aB [(0,.slice a rs.length c),(1,.slice b l.length d)] Tryz.func65 Tryz.ntmps65 ?_;all_goals (refine goR ?_;and_intros<;>(try exact trivial)<;>repeat (first|refine fun (Bk:Nat)=>?_|intro h))
  repeat' ((first|(apply G.cV (g:=36);rfl;rfl;exact fun w' hw=>hc w' hw.below)|(refine G.cH (g:=111) (sz:=1) (fun x=>.tuple #[qA (jJ x),qQ x]) (fun x=>x.1.2) (fun x=>x.1.1.map isV) rfl rfl (fun w' hw=>he w' hw.below) ?_;intro x hx1;generalize hq:jJ x=q;obtain ⟨n1,u1,d1⟩:=q;dsimp only [qA];unfold qQ)|(refine J.PB _ (.q 0 <| .q 1 <| .e 2 <| .r 3 <| .q 4 <| .nil) Tryz.Pr (by decide +kernel) (List.Sublist.cons_cons _ (List.Sublist.cons_cons _ (List.nil_sublist _))) ?_)|(apply G.Qu (vs:=[.bool n1,.string (bs u1),.string (bs d1)]) (out:=[.bool n1,.string (bs u1),.string (bs d1)]);rfl;rfl;rfl;rfl;(repeat (first|exact RAt.head|apply RAt.tail));rfl;rfl;(dsimp only [List.length_cons,List.length_nil];omega);rfl;(repeat' (first|exact List.nil_sublist _|exact List.Sublist.refl _|apply List.Sublist.cons_cons|apply List.Sublist.cons)))|(apply J.Pz;exact Tryz.Pr;decide +kernel)|(apply J.P3;exact Tryz.Pr;decide +kernel))<;>(refine goR ?_;and_intros<;>(try exact trivial)<;>repeat (first|refine fun (Bk:Nat)=>?_|intro h)))
  (refine Lv Tryz.func65 Tryz.results65 ?_;intro w' hw)
  refine ⟨x,?_,hw.sl mm,hx1,hw.below⟩;rw [hq];rfl
def Gh (a b:Q3):Value:=.agg #[.bool a.neg,.string (bs a.num),.string (bs a.den),.bool b.neg,.string (bs b.num),.string (bs b.den)]
theorem K3 (a:Option Addr) (rs:List Rn) (c:Nat) (b:Option Addr) (l:List Spn) (d:Nat) (w:World) (hA:aW w a rs) (hB:aN w b l) (hM:Mod rs l) (h0:cU rs l=0) :
  Calls Tryz.prog 64 #[.slice a rs.length c,.slice b l.length d] w fun e w'=>∃ x:Ba false rs l,e=.returned (.tuple #[qA (jJ x),qQ x,.int .i64 0])/\aE w' x.1.2 1 (x.1.1.map isV)/\(∀ p,x.1.2=some p->w.heap.size<=p.block)/\Below w.heap.size w w':=K0 false a rs c b l d w hA hB hM h0
theorem Mq (a:Option Addr) (rs:List Rn) (c:Nat) (b:Option Addr) (l:List Spn) (d:Nat) (w:World) (hA:aW w a rs) (hB:aN w b l) (hM:Mod rs l) (h0:cU rs l=0) :
  Calls Tryz.prog 65 #[.slice a rs.length c,.slice b l.length d] w fun e w'=>∃ x:Ba true rs l,e=.returned (.tuple #[qA (jJ x),qQ x,.int .i64 0])/\aE w' x.1.2 1 (x.1.1.map isV)/\(∀ p,x.1.2=some p->w.heap.size<=p.block)/\Below w.heap.size w w':=K0 true a rs c b l d w hA hB hM h0
theorem mO (p T st:Int) (b:Option Addr) (l:List Spn) (d:Nat) (w:World) (hB:aN w b l) (hf:∀ s∈l,fewS s) (hR:∀ s∈l,aQ s) (hp:p < l.length) (hs:0<=st/\st<=1000) :
  CR 43 #[.slice b l.length d,.agg #[.int .i64 p,.int .i64 T],.int .i64 st] w (qA (rQ (aS l p st))):=by
  by_cases h0:p < 0
  ·rw [AY h0]
   clear hB hf hR;refine aB [(0,.slice b l.length d),(1,.agg #[.int .i64 p,.int .i64 T]),(2,.int .i64 st)] Tryz.func43 Tryz.ntmps43 ?_;all_goals (refine go ?_;and_intros<;>first|exact trivial|repeat first|intro(Bk:Nat)|intro h)
   all_goals exact aA Tryz.func43 Tryz.results43 rfl
  ·obtain ⟨i,rfl⟩:∃ i:Nat,p=i:=⟨p.toNat,by omega⟩
   have hi:i < l.length:=by omega
   have hR':=hR _ (gM hi)
   (have hv:=fun w' (hb:Below w.heap.size w w')=>xU l[i] st w' ((hB.2 _ (gM hi)).below hb) (hf _ (gM hi)));rw [EP hR' hs] at hv
   rw [D9 hi];obtain ⟨bb,ob,rfl,hrow⟩:=aE.all hB.1 om;have hri:=hrow i hi;clear hrow hB hf hR hR';generalize bC l[i] st=x at *;generalize l[i]=s at *;dsimp only [spV] at hri;unfold spA at hv;generalize rQ x=q at *;obtain ⟨n1,u1,d1⟩:=q;dsimp only [qA] at *;refine aB [(0,.slice (some ⟨bb,ob,none⟩) l.length d),(1,.agg #[.int .i64 i,.int .i64 T]),(2,.int .i64 st)] Tryz.func43 Tryz.ntmps43 ?_;repeat' first|(refine gp ?_;and_intros<;>first|exact trivial|repeat first|intro(Bk:Nat)|intro h)|(apply G.cV (g:=84);rfl;rfl;exact fun w' hw=>hv w' hw.below)|(apply G.cV (g:=137);rfl;rfl;exact fun w' hw=>hv w' hw.below)
   all_goals exact aA Tryz.func43 Tryz.results43 rfl
theorem Gi (t:Bool) (r:Rn) (p T:Int) (b:Option Addr) (l:List Spn) (d:Nat) (w:World) (hB:aN w b l) (hf:∀ s∈l,fewS s) (hR:∀ s∈l,aQ s) (hp:p < l.length) (h1:0<=r.lo/\r.lo<=1000) (h2:0<=r.hi/\r.hi<=1000) :
  CR 42 #[rnA r,.slice b l.length d,.agg #[.int .i64 p,.int .i64 T],.func (.func (isF t)) #[] #[]] w (qA (rQ (qL t (aS l p r.lo) (aS l p r.hi)))):=by
 have ha:=fun w' (hb:Below w.heap.size w w')=>mO p T r.lo b l d w' (hB.below hb) hf hR hp h1
 have hb:=fun w' (hb:Below w.heap.size w w')=>mO p T r.hi b l d w' (hB.below hb) hf hR hp h2
 have fa:big (aS l p r.lo):=aH.big (dH hf hR h1) dc;have fb:big (aS l p r.hi):=aH.big (dH hf hR h2) dc;have hi:=yW t fb fa;have he:(decide (sgR t (aS l p r.hi) < sgR t (aS l p r.lo))=true/\qL t (aS l p r.lo) (aS l p r.hi)=aS l p r.hi)∨(decide (sgR t (aS l p r.hi) < sgR t (aS l p r.lo))=false/\qL t (aS l p r.lo) (aS l p r.hi)=aS l p r.lo):=by
  unfold qL;by_cases h:sgR t (aS l p r.hi) < sgR t (aS l p r.lo)
  ·exact .inl ⟨dT h,if_pos h⟩
  ·exact .inr ⟨dF h,if_neg h⟩
 clear hB hf hR fa fb;generalize decide (sgR t (aS l p r.hi) < sgR t (aS l p r.lo))=c at *;have hF:Fun Tryz.prog (isF t):=isFun t;unfold rnA;rcases he with ⟨rfl,he⟩|⟨rfl,he⟩
 all_goals
  rw [he];clear he;generalize rQ (aS l p r.lo)=q1 at *;generalize rQ (aS l p r.hi)=q2 at *;generalize isF t=F at *;obtain ⟨n1,u1,d1⟩:=q1;obtain ⟨n2,u2,d2⟩:=q2;dsimp only [qA] at *;refine aB [(0,.agg #[.int .i64 r.from_,.int .i64 r.to_,.slice r.adr r.tab.length r.cap,.int .i64 r.lo,.int .i64 r.hi]),(1,.slice b l.length d),(2,.agg #[.int .i64 p,.int .i64 T]),(3,.func (.func F) #[] #[])] Tryz.func42 Tryz.ntmps42 ?_;all_goals (refine goR ?_;and_intros<;>(try exact trivial)<;>repeat (first|refine fun (Bk:Nat)=>?_|intro h))
  repeat' ((first|(apply J.Py (.q 0 <| .q 1 <| .q 2 <| .q 3 <| .q 4 <| .q 5 <| .q 6 <| .q 7 <| .q 8 <| .q 9 <| .f 10 (.e 11 <| .r 12 <| .r 13 <| .nil) 11 (.e 10 <| .r 12 <| .r 13 <| .nil));exact Tryz.Pr;decide +kernel)|(apply G.Qi)|(apply G.cV (g:=43) (d:=15);rfl;rfl;exact fun w' hw=>ha w' hw.below)|(apply G.cV (g:=43) (d:=20);rfl;rfl;exact fun w' hw=>hb w' hw.below)|(apply G.cF (g:=F);rfl;rfl;rfl;exact fun w' _=>hi w')|(apply J.Pz;exact Tryz.Pr;decide +kernel)|(apply J.P3;exact Tryz.Pr;decide +kernel))<;>(refine goR ?_;and_intros<;>(try exact trivial)<;>repeat (first|refine fun (Bk:Nat)=>?_|intro h)))
  all_goals exact aA Tryz.func42 Tryz.results42 rfl
def prV (p:Prf):List Value:=[.slice p.sa p.st.length p.sc,.slice p.ca p.cl.length p.cc]
def prA (p:Prf):Value:=.agg #[.slice p.sa p.st.length p.sc,.slice p.ca p.cl.length p.cc]
def qS (w:World) (p:Prf):Prop:=aE w p.sa 3 (p.st.map qV)/\aE w p.ca 3 (p.cl.map qV)
def bK (w:World) (a:Option Addr) (l:List Prf):Prop:=aE w a 2 (l.map prV)/\∀ p∈l,qS w p
theorem qS.below {w w':World}{p:Prf} (h:qS w p) (hb:Below w.heap.size w w'):qS w' p:=⟨h.1.below hb,h.2.below hb⟩
theorem bK.below {w w':World}{a:Option Addr}{l:List Prf} (h:bK w a l) (hb:Below w.heap.size w w'):bK w' a l:=⟨h.1.below hb,fun p hp=>(h.2 p hp).below hb⟩
def EV (k:Nat) (p:Prf):Prop:=(∀ a∈p.st,aH k a)/\∀ a∈p.cl,aH k a
def Gj (a:Q3):Bool:=!decide (aP a)
theorem I5 (a:Q3) (w:World) (hf:aH 20000000 a):CR 79 #[qA a] w (.bool (Gj a)):=by
 have hv:=fun w'=>fX a w' (Nat.le_trans hf.1 dc) (Nat.le_trans hf.2 dc)
 rw [Gj];generalize decide (aP a)=b at *;clear hf;obtain ⟨n1,u1,d1⟩:=a;dsimp only [qA] at *;refine aB [(0,.agg #[.bool n1,.string (bs u1),.string (bs d1)])] Tryz.func79 Tryz.ntmps79 ?_;cases b;all_goals skip
 repeat' first|(refine gp ?_;and_intros<;>first|exact trivial|repeat first|intro(Bk:Nat)|intro h)|(apply G.cV (g:=26);rfl;rfl;exact fun w' _=>hv w')
 all_goals exact aA Tryz.func79 Tryz.results79 rfl
theorem Gk (p:Q3->Bool) (g:FuncId) [hF:Fun Tryz.prog g] (a:Option Addr) (l:List Q3) (c:Nat) (w:World) (hA:aE w a 3 (l.map qV)) (hl:l.length<=1000000000)
  (hf:∀ s∈l,∀ w',Calls Tryz.prog g (#[qA s]++#[]) w' fun e w2=>e=.returned (.bool (p s))/\Below w'.heap.size w' w2) :
  CR 126 #[.slice a l.length c,.func (.func g) #[] #[]] w (.int .i64 (if l.findIdx p < l.length then (l.findIdx p:Int) else -1)):=by
 have hle:l.findIdx p<=l.length:=List.findIdx_le_length;refine aB [(0,.slice a l.length c),(1,.func (.func g) #[] #[])] Tryz.func126 Tryz.ntmps126 ?_;all_goals (refine go ?_;and_intros<;>first|exact trivial|repeat first|intro(Bk:Nat)|intro h)
 refine J.loop (c:=_) (0:Nat) (fun s=>l.length-s) (fun s=>[(0,.slice a l.length c),(1,.func (.func g) #[] #[]),(7,.int .i64 l.length),(8,.int .i64 s)]) (fun s=>[]) (fun s=>s<=l.findIdx p) ?_ sbT sbL ?_
 ·exact Nat.zero_le _
 intro k h1 ih;by_cases hk:k < l.length
 ·obtain ⟨ba,oa,rfl,hra⟩:=aE.all hA om
  have hr:=hra k hk;have hfk:=hf l[k] (gM hk);by_cases hq:l.findIdx p=k
  ·have hp:p l[k]=true:=by
    have:=List.findIdx_getElem (w:=(show l.findIdx p < l.length by omega))
    simpa only [hq] using this
   rw [if_pos om,hq];rw [hp] at hfk;clear hra hf;generalize l[k]=s at *;obtain ⟨n1,u1,d1⟩:=s;dsimp only [qV,qA] at *;repeat' first|(refine gp ?_;and_intros<;>first|exact trivial|repeat first|intro(Bk:Nat)|intro h)|(apply G.cF (g:=g);rfl;rfl;rfl;exact fun w' _=>hfk w')
   all_goals exact aA Tryz.func126 Tryz.results126 rfl
  ·have hp:p l[k]=false:=by
    have:=List.not_of_lt_findIdx (show k < l.findIdx p by omega)
    simpa using this
   rw [hp] at hfk;have ih:=ih (k+1) om om;clear hra hf;generalize l[k]=s at *;obtain ⟨n1,u1,d1⟩:=s;dsimp only [qV,qA] at *;repeat' first|(refine gp ?_;and_intros<;>first|exact trivial|repeat first|intro(Bk:Nat)|intro h)|(apply G.cF (g:=g);rfl;rfl;rfl;exact fun w' _=>hfk w')
   exact J.fin ih
 ·rw [if_neg om]
  clear hf;all_goals (refine go ?_;and_intros<;>first|exact trivial|repeat first|intro(Bk:Nat)|intro h)
  all_goals exact aA Tryz.func126 Tryz.results126 rfl
theorem Gl (p:Q3->Bool) (g:FuncId) [hF:Fun Tryz.prog g] (a:Option Addr) (l:List Q3) (c:Nat) (w:World) (hA:aE w a 3 (l.map qV)) (hl:l.length<=1000000000)
  (hf:∀ s∈l,∀ w',Calls Tryz.prog g (#[qA s]++#[]) w' fun e w2=>e=.returned (.bool (p s))/\Below w'.heap.size w' w2) :
  CR 78 #[.slice a l.length c,.func (.func g) #[] #[]] w (.bool (l.any p)):=by
 have hi:=fun w' (hb:Below w.heap.size w w')=>Gk p g a l c w' (hA.below hb) hl hf
 have hlt:l.findIdx p < l.length ↔ l.any p=true:=by rw [List.findIdx_lt_length,List.any_eq_true]
 generalize l.any p=b at *;clear hf hA;by_cases h:l.findIdx p < l.length
 ·rw [if_pos h] at hi
  have hb:=hlt.1 h;subst hb;generalize l.findIdx p=j at *;refine aB [(0,.slice a l.length c),(1,.func (.func g) #[] #[])] Tryz.func78 Tryz.ntmps78 ?_;repeat' first|(refine gp ?_;and_intros<;>first|exact trivial|repeat first|intro(Bk:Nat)|intro h)|(apply G.cV (g:=126);rfl;rfl;exact fun w' hw=>hi w' hw.below)
  all_goals exact aA Tryz.func78 Tryz.results78 rfl
 ·rw [if_neg h] at hi
  have hb:b=false:=by cases b<;>simp_all
  subst hb;refine aB [(0,.slice a l.length c),(1,.func (.func g) #[] #[])] Tryz.func78 Tryz.ntmps78 ?_;repeat' first|(refine gp ?_;and_intros<;>first|exact trivial|repeat first|intro(Bk:Nat)|intro h)|(apply G.cV (g:=126);rfl;rfl;exact fun w' hw=>hi w' hw.below)
  all_goals exact aA Tryz.func78 Tryz.results78 rfl
theorem Mr (l:List Q3):(!l.any Gj)=l.all fun a=>decide (aP a):=by
 induction l with
 | nil=>rfl
 | cons x l ih=>rw [List.any_cons,List.all_cons,<- ih,Gj];cases decide (aP x)<;>cases l.any Gj<;>rfl
theorem EW (a:Option Addr) (l:List Q3) (c:Nat) (w:World) (hA:aE w a 3 (l.map qV)) (hl:l.length<=1000000000) (hf:∀ s∈l,aH 20000000 s) :
  CR 77 #[.slice a l.length c] w (.bool (l.all fun a=>decide (aP a))):=by
 have hc:=fun w' (hb:Below w.heap.size w w')=>Gl Gj 79 a l c w' (hA.below hb) hl (fun s hs w2=>by rw [Array.append_empty];exact I5 s w2 (hf s hs))
 rw [<- Mr];generalize l.any Gj=b at *;clear hf hA;refine aB [(0,.slice a l.length c)] Tryz.func77 Tryz.ntmps77 ?_;cases b;all_goals skip
 repeat' first|(refine gp ?_;and_intros<;>first|exact trivial|repeat first|intro(Bk:Nat)|intro h)|(apply G.cV (g:=78);rfl;rfl;exact fun w' hw=>hc w' hw.below)
 all_goals exact aA Tryz.func77 Tryz.results77 rfl
theorem Gm (r:Rn) (l:List Spn) (p:Prf) (ka:Option Addr) (kc:Nat) (w:World) (hP:qS w p) (hf:EV 20000000 p) (h1:p.st.length<=1000000) (h2:p.cl.length<=1000000) :
  CR 38 #[rnA r,.slice ka (aD r l).length kc,prA p] w (.bool (bP l r p)):=by
 have hs:=fun w' (hb:Below w.heap.size w w')=>EW p.sa p.st p.sc w' (hP.1.below hb) om hf.1
 have hc:=fun w' (hb:Below w.heap.size w w')=>EW p.ca p.cl p.cc w' (hP.2.below hb) om hf.2
 unfold bP rnA prA;generalize (p.st.all fun a=>decide (aP a))=b1 at *
 generalize (p.cl.all fun a=>decide (aP a))=b2 at *
 generalize (aD r l).length=n at *;clear hP hf;generalize p.st.length=m1 at *;generalize p.cl.length=m2 at *;generalize r.tab.length=m0 at *;by_cases h0:m0=0
 ·rw [if_pos h0]
  refine aB [(0,.agg #[.int .i64 r.from_,.int .i64 r.to_,.slice r.adr m0 r.cap,.int .i64 r.lo,.int .i64 r.hi]),(1,.slice ka n kc),(2,.agg #[.slice p.sa m1 p.sc,.slice p.ca m2 p.cc])] Tryz.func38 Tryz.ntmps38 ?_;all_goals (refine go ?_;and_intros<;>first|exact trivial|repeat first|intro(Bk:Nat)|intro h)
  all_goals refine aA Tryz.func38 Tryz.results38 ?_
  all_goals exact bL (by first|(rw [dT om])|(rw [dF om]))
 ·rw [if_neg h0]
  cases b1;all_goals cases b2
  all_goals
   refine aB [(0,.agg #[.int .i64 r.from_,.int .i64 r.to_,.slice r.adr m0 r.cap,.int .i64 r.lo,.int .i64 r.hi]),(1,.slice ka n kc),(2,.agg #[.slice p.sa m1 p.sc,.slice p.ca m2 p.cc])] Tryz.func38 Tryz.ntmps38 ?_;repeat' first|(refine gp ?_;and_intros<;>first|exact trivial|repeat first|intro(Bk:Nat)|intro h)|(apply G.cF (g:=77) (d:=39);rfl;rfl;rfl;exact fun w' hw=>hs w' hw.below)|(apply G.cF (g:=77) (d:=45);rfl;rfl;rfl;exact fun w' hw=>hc w' hw.below)
   all_goals refine aA Tryz.func38 Tryz.results38 ?_
   all_goals exact bL (by first|(rw [dT om,dT om];rfl)|(rw [dT om,dF om];rfl)|(rw [dF om];rfl))
theorem C5 {t:Bool}{l:List Spn}{r:Rn}{c:Nat} (hf:∀ s∈l,fewS s) (hR:∀ s∈l,aQ s) (h1:0<=r.lo/\r.lo<=1000) (h2:0<=r.hi/\r.hi<=1000):aH 140 (rQ (gV t l r c)):=by
 unfold gV qL;split
 ·exact dH hf hR h2
 ·exact dH hf hR h1
theorem nT {l:List Spn}{r:Rn}{p:Prf} (h0:r.tab.length≠0):bP l r p=true ↔ p.st.length=r.tab.length/\p.cl.length=(aD r l).length/\(∀ a∈p.st,aP a)/\∀ a∈p.cl,aP a:=by
 unfold bP;rw [if_neg h0];simp only [Bool.and_eq_true,decide_eq_true_eq,List.all_eq_true];constructor
 ·intro ⟨⟨⟨h1,h2⟩,h3⟩,h4⟩;exact ⟨h1,h2,h3,h4⟩
 ·intro ⟨h1,h2,h3,h4⟩;exact ⟨⟨⟨h1,h2⟩,h3⟩,h4⟩
theorem K4 {a:Q3} (h:aP a):rQ (qR a)=a:=by rw [uN,if_pos h]
theorem EX {p:Prf}{s:Nat} (h:s < p.st.length) (hv:∀ a∈p.st,aP a):p.st[s]=rQ (uP p s):=by
 rw [uP,gD,gE h];exact (K4 (hv _ (gM h))).symm
theorem EY {p:Prf}{c:Nat} (h:c < p.cl.length) (hv:∀ a∈p.cl,aP a):p.cl[c]=rQ (vP p c):=by
 rw [vP,gD,gE h];exact (K4 (hv _ (gM h))).symm
theorem sC {r:Rn}{l:List Spn}{c:Nat} (h:c < (aD r l).length):aG r l c < l.length:=by
 have h1:=List.mem_of_getElem? (iH h);rcases lT.1 h1 with ⟨i,s,h2,_,h3⟩|⟨_,h3⟩
 ·have h4:=(List.getElem?_eq_some_iff.1 h2).1
  have:aG r l c=(i:Int):=congrArg Prod.fst h3;omega
 ·have:aG r l c=-1:=congrArg Prod.fst h3
  omega
end Go.Proofs.YtjcecdmbfmccoaaGreatDoor
