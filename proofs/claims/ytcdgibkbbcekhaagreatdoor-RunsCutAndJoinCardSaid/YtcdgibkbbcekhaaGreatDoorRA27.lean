/-
  Contract: run.stretches, an iterator of parts of a list.
-/
import Derived.Test.YtcdgibkbbcekhaaGreatDoorRA21
import Derived.Test.YtcdgibkbbcekhaaGreatDoorRA26
set_option linter.unusedVariables false
set_option linter.unusedSimpArgs false
set_option linter.unusedSectionVars false
namespace Go.Proofs.YtcdgibkbbcekhaaGreatDoor
open Go.RowKit Go.Sl Go.Num
def stL:Nat→Nat→List Rn→List (Nat×Nat)
 | 0,_,_=>[]
 | k+1,p,l=>if l.length=0 then [] else (p,nst l)::stL k (p+nst l) (l.drop (nst l))
theorem stL_fuel:∀ (n m p:Nat) (l:List Rn),l.length≤n→l.length≤m→stL n p l=stL m p l
 | 0,0,_,_,_,_=>rfl
 | 0,m+1,p,l,h1,_=>by
  rw [stL,stL,if_pos (Nat.le_zero.1 h1)]
 | n+1,0,p,l,_,h2=>by
  rw [stL,stL,if_pos (Nat.le_zero.1 h2)]
 | n+1,m+1,p,l,h1,h2=>by
  rw [stL,stL]
  by_cases h0:l.length=0
  ·rw [if_pos h0,if_pos h0]
  rw [if_neg h0,if_neg h0]
  have h3:=nst_pos (l:=l) (fun e=>h0 (by rw [e];rfl))
  rw [stL_fuel n m _ (l.drop (nst l)) (by rw [List.length_drop];omega) (by rw [List.length_drop];omega)]
theorem stL_step {n p:Nat}{l:List Rn} (hn:l.length≤n) (hp:p < l.length):stL n p (l.drop p)=(p,nst (l.drop p))::stL n (p+nst (l.drop p)) (l.drop (p+nst (l.drop p))):=by
 have h0:(l.drop p).length≠0:=by rw [List.length_drop];omega
 have h1:=nst_pos (l:=l.drop p) (fun e=>h0 (by rw [e];rfl))
 cases n with
 | zero=>omega
 | succ n =>
  rw [stL,if_neg h0,List.drop_drop,stL_fuel n (n+1) _ (l.drop (p+nst (l.drop p))) (by rw [List.length_drop];omega) (by rw [List.length_drop];omega)]
theorem stL_end (n:Nat) (l:List Rn):stL n l.length (l.drop l.length)=[]:=by
 rw [List.drop_length]
 cases n<;>rfl
theorem drop_at {α:Type}{es:List α}{i:Nat}{e:α}{t:List α} (h:es.drop i=e::t):es[i]?=some e∧es.drop (i+1)=t∧i < es.length:=by
 have hi:i < es.length:=by
  rcases Nat.lt_or_ge i es.length with h1|h1
  ·exact h1
  ·rw [List.drop_eq_nil_of_le h1] at h;cases h
 rw [List.drop_eq_getElem_cons hi] at h
 obtain ⟨h1,h2⟩:=List.cons.inj h
 exact ⟨by rw [List.getElem?_eq_getElem hi,h1],h2,hi⟩
theorem subA_some {b o c p:Nat} (h:p < c):subA (some ⟨b,o,none⟩) c p 5=some ⟨b,o+p*5,none⟩:=by
 rw [subA,if_neg (by omega),Option.map_some,addr_add,addO_eq]
def segV (a:Option Addr) (c:Nat) (e:Nat×Nat):Value:=.slice (subA a c e.1 5) e.2 (c-e.1)
set_option maxHeartbeats 4000000 in
theorem stretches_iter (w0:World) (Bl:Nat) (a:Option Addr) (l:List Rn) (c:Nat) (hA:SlAt w0 a 5 (l.map rnV)) (hl:l.length≤100000) (hc:l.length≤c) :
  IterD Tryz.prog w0 [.blk Bl 43 [.slice a l.length c] 1] 149 #[.pointer (some ⟨Bl,0,none⟩)] (fun e:Nat×Nat=>[segV a c e]) (stL l.length 0 l):=by
 intro X Rs Inv Out fY cY hY x0 hI0 M1 w hw
 refine enterR [(0,.func fY #[] cY),(1,.pointer (some ⟨Bl,0,none⟩))] hw Tryz.func149 Tryz.ntmps149 ?_
 generalize hes:stL l.length 0 l=es at *
 all_goals (refine go ?_;and_intros<;>(try exact trivial)<;>repeat (first|refine fun (Bk:Nat)=>?_|intro h))
 refine J.loop (c:=_) ((0,0,a,l.length,c,x0):Nat×Nat×Option Addr×Nat×Nat×X) (fun s=>s.2.2.2.1) (fun s=>[(0,.func fY #[] cY),(1,.pointer (some ⟨Bl,0,none⟩))]) (fun s=>.blk Bl 43 [.slice s.2.2.1 s.2.2.2.1 s.2.2.2.2.1] 1::(Rs s.2.2.2.2.2++M1)) (fun s=>s.2.1+s.2.2.2.1=l.length∧Inv s.1 s.2.2.2.2.2∧es.drop s.1=stL l.length s.2.1 (l.drop s.2.1)∧s.1≤es.length∧(0 < s.2.2.2.1→s.2.2.1=subA a c s.2.1 5∧s.2.2.2.2.1=c-s.2.1)∧s.2.2.2.1≤s.2.2.2.2.1) ?_ sbT sbL ?_
 ·refine ⟨Nat.zero_add _,hI0,?_,Nat.zero_le _,fun h=>⟨?_,rfl⟩,hc⟩
  ·dsimp only
   rw [List.drop_zero,List.drop_zero,hes]
  ·dsimp only at h ⊢
   obtain ⟨ba,oa,rfl,_⟩:=SlAt.all hA (by omega)
   rw [subA_some (by omega),Nat.zero_mul,Nat.add_zero]
 clear hI0 hw
 intro ⟨i,p,au,ln,cu,x⟩ ⟨h1,h2,h3,h4,h5,h6⟩ ih
 dsimp only at h1 h2 h3 h4 h5 h6 ⊢
 rcases Nat.eq_zero_or_pos ln with h0|h0
 ·obtain rfl:p=l.length:=by omega
  subst h0
  rw [stL_end] at h3
  have h7:es.length=i:=by
   have:=congrArg List.length h3
   rw [List.length_drop,List.length_nil] at this
   omega
  clear ih
  all_goals (refine go ?_;and_intros<;>(try exact trivial)<;>repeat (first|refine fun (Bk:Nat)=>?_|intro h))
  refine end0 Tryz.func149 Tryz.results149 ?_
  exact fun w' hw'=>⟨rfl,x,hw'.forget sbL,.inl (by rw [h7];exact h2)⟩
 obtain ⟨ba,oa,rfl,hra⟩:=SlAt.all hA (by omega)
 obtain ⟨rfl,rfl⟩:=h5 h0
 rw [subA_some (by omega)]
 clear h5
 have hp:p < l.length:=by omega
 have hstep:=stL_step (Nat.le_refl l.length) hp
 have hrp:=hra p hp
 have hgp:=fun w'=>gap_holds l[p] w'
 rw [← Nat.add_zero (oa+p*5),← Nat.zero_mul 5] at hrp
 by_cases hg:l[p].tab.length=0
 ·have hn1:nst (l.drop p)=1:=by
   rw [List.drop_eq_getElem_cons hp,nst,if_pos hg]
  rw [decide_eq_true hg] at hgp
  clear hg
  all_goals (refine go ?_;and_intros<;>(try exact trivial)<;>repeat (first|refine fun (Bk:Nat)=>?_|intro h))
  repeat' ((first|fail)<;>(refine go ?_;and_intros<;>(try exact trivial)<;>repeat (first|refine fun (Bk:Nat)=>?_|intro h)))
  refine J.loop (c:=_) (1:Nat) (fun s=>0) (fun s=>[(0,.func fY #[] cY),(1,.pointer (some ⟨Bl,0,none⟩)),(3,.int .i64 (s:Nat))]) (fun s=>.blk Bl 43 [.slice (some ⟨ba,oa+p*5,none⟩) ln (c-p)] 1::(Rs x++M1)) (fun s=>s=1) ?_ sbT sbL ?_
  ·rfl
  intro n hn _
  generalize l[p]=y at *
  obtain ⟨yf,yt,tab,adr,cx,lo,hi⟩:=y
  dsimp only [rnV,rnA] at *
  by_cases hln:n < ln
  ·skip
   have hnst:nst (l.drop p)=n:=(hn1.trans hn.symm)
   rw [hnst] at hstep
   obtain ⟨e1,e2,e3⟩:=drop_at (h3.trans hstep)
   have hy:=hY i x (p,n) h2 e1
   try dsimp only at hy
   rw [show segV (some ⟨ba,oa,none⟩) c (p,n)=.slice (some ⟨ba,oa+p*5,none⟩) n (c-p) by rw [segV,subA_some (by omega)]] at hy
   have ih1:=fun x' h=>ih (i+1,p+n,subA (some ⟨ba,oa+p*5,none⟩) (c-p) n 5,ln-n,c-p-n,x') ⟨by dsimp only;omega,h,e2,e3,fun hl=>⟨by dsimp only at hl ⊢;rw [subA_some (by omega),subA_some (by omega),Nat.add_mul,← Nat.add_assoc],by dsimp only;omega⟩,by dsimp only;omega⟩ (by dsimp only;omega)
   dsimp only at ih1
   clear ih hstep hY e1 e2 hra
   all_goals (refine go ?_;and_intros<;>(try exact trivial)<;>repeat (first|refine fun (Bk:Nat)=>?_|intro h))
   repeat' ((first|(apply G.ix (i:=0);rfl;rfl;exact rfl;omega;rfl)|(apply G.cV (g:=81) (d:=15);rfl;rfl;exact fun w' _=>hgp w')|(apply G.slH (len:=n);rfl;rfl;rfl;omega;omega;rfl)|(refine G.callG (Rs:=Rs) (x:=x) (M1:=M1) (Inv (i+1)) Out hy rfl rfl rfl rfl (by (repeat (first|exact Splt.nil|apply Splt.cons))) ?_ ?_;all_goals intro x' hx')|(apply G.sliceFrom (l:=n);rfl;rfl;rfl;omega;rfl;rfl;rfl))<;>(refine go ?_;and_intros<;>(try exact trivial)<;>repeat (first|refine fun (Bk:Nat)=>?_|intro h)))
   ·exact J.fin (ih1 x' hx')
   ·refine ret0 Tryz.func149 Tryz.results149 ?_
    exact fun w' hw'=>⟨rfl,x',hw'.forget sbL,.inr hx'⟩
  ·skip
   have hnst:nst (l.drop p)=n:=(hn1.trans hn.symm)
   rw [hnst] at hstep
   obtain ⟨e1,e2,e3⟩:=drop_at (h3.trans hstep)
   have hy:=hY i x (p,n) h2 e1
   try dsimp only at hy
   rw [show segV (some ⟨ba,oa,none⟩) c (p,n)=.slice (some ⟨ba,oa+p*5,none⟩) n (c-p) by rw [segV,subA_some (by omega)]] at hy
   have ih1:=fun x' h=>ih (i+1,p+n,subA (some ⟨ba,oa+p*5,none⟩) (c-p) n 5,ln-n,c-p-n,x') ⟨by dsimp only;omega,h,e2,e3,fun hl=>⟨by dsimp only at hl ⊢;rw [subA_some (by omega),subA_some (by omega),Nat.add_mul,← Nat.add_assoc],by dsimp only;omega⟩,by dsimp only;omega⟩ (by dsimp only;omega)
   dsimp only at ih1
   clear ih hstep hY e1 e2 hra
   all_goals (refine go ?_;and_intros<;>(try exact trivial)<;>repeat (first|refine fun (Bk:Nat)=>?_|intro h))
   repeat' ((first|fail|(apply G.slH (len:=n);rfl;rfl;rfl;omega;omega;rfl)|(refine G.callG (Rs:=Rs) (x:=x) (M1:=M1) (Inv (i+1)) Out hy rfl rfl rfl rfl (by (repeat (first|exact Splt.nil|apply Splt.cons))) ?_ ?_;all_goals intro x' hx')|(apply G.sliceFrom (l:=n);rfl;rfl;rfl;omega;rfl;rfl;rfl))<;>(refine go ?_;and_intros<;>(try exact trivial)<;>repeat (first|refine fun (Bk:Nat)=>?_|intro h)))
   ·exact J.fin (ih1 x' hx')
   ·refine ret0 Tryz.func149 Tryz.results149 ?_
    exact fun w' hw'=>⟨rfl,x',hw'.forget sbL,.inr hx'⟩
 have hgp0:=hg
 rw [decide_eq_false hg] at hgp
 have hpv:∃ y:Rn,y=l[p]:=⟨_,rfl⟩
 obtain ⟨y,hy0⟩:=hpv
 rw [← hy0] at hgp hrp
 clear hy0 hgp0
 obtain ⟨yf,yt,tab,adr,cx,lo,hi⟩:=y
 dsimp only [rnV,rnA] at hgp hrp
 all_goals (refine go ?_;and_intros<;>(try exact trivial)<;>repeat (first|refine fun (Bk:Nat)=>?_|intro h))
 repeat' ((first|fail)<;>(refine go ?_;and_intros<;>(try exact trivial)<;>repeat (first|refine fun (Bk:Nat)=>?_|intro h)))
 refine J.loop (c:=_) (1:Nat) (fun s=>ln-s) (fun s=>[(0,.func fY #[] cY),(1,.pointer (some ⟨Bl,0,none⟩)),(3,.int .i64 (s:Nat))]) (fun s=>.blk Bl 43 [.slice (some ⟨ba,oa+p*5,none⟩) ln (c-p)] 1::(Rs x++M1)) (fun s=>1≤s∧s≤ln∧∀ j (h:j < l.length),p≤j→j < p+s→l[j].tab.length≠0) ?_ sbT sbL ?_
 ·exact ⟨Nat.le_refl _,h0,fun j h j1 j2=>by (obtain rfl:j=p:=by omega);exact hg⟩
 intro n ⟨n1,n2,n3⟩ ihn
 have hse:=fun h=>(seg_nst (p:=p) (q:=p+n) (by omega) (by omega) n3 h).trans (Nat.add_sub_cancel_left p n)
 by_cases hn:n < ln
 case neg =>
  clear ihn
  have hnst:nst (l.drop p)=n:=(hse fun h=>absurd h (by omega))
  rw [hnst] at hstep
  obtain ⟨e1,e2,e3⟩:=drop_at (h3.trans hstep)
  have hy:=hY i x (p,n) h2 e1
  try dsimp only at hy
  rw [show segV (some ⟨ba,oa,none⟩) c (p,n)=.slice (some ⟨ba,oa+p*5,none⟩) n (c-p) by rw [segV,subA_some (by omega)]] at hy
  have ih1:=fun x' h=>ih (i+1,p+n,subA (some ⟨ba,oa+p*5,none⟩) (c-p) n 5,ln-n,c-p-n,x') ⟨by dsimp only;omega,h,e2,e3,fun hl=>⟨by dsimp only at hl ⊢;rw [subA_some (by omega),subA_some (by omega),Nat.add_mul,← Nat.add_assoc],by dsimp only;omega⟩,by dsimp only;omega⟩ (by dsimp only;omega)
  dsimp only at ih1
  clear ih hstep hY e1 e2 hra
  all_goals (refine go ?_;and_intros<;>(try exact trivial)<;>repeat (first|refine fun (Bk:Nat)=>?_|intro h))
  repeat' ((first|fail|(apply G.slH (len:=n);rfl;rfl;rfl;omega;omega;rfl)|(refine G.callG (Rs:=Rs) (x:=x) (M1:=M1) (Inv (i+1)) Out hy rfl rfl rfl rfl (by (repeat (first|exact Splt.nil|apply Splt.cons))) ?_ ?_;all_goals intro x' hx')|(apply G.sliceFrom (l:=n);rfl;rfl;rfl;omega;rfl;rfl;rfl))<;>(refine go ?_;and_intros<;>(try exact trivial)<;>repeat (first|refine fun (Bk:Nat)=>?_|intro h)))
  ·exact J.fin (ih1 x' hx')
  ·refine ret0 Tryz.func149 Tryz.results149 ?_
   exact fun w' hw'=>⟨rfl,x',hw'.forget sbL,.inr hx'⟩
 have hrn:=hra (p+n) (by omega)
 have hgn:=fun w'=>gap_holds (l[p+n]'(by omega)) w'
 rw [Nat.add_mul,← Nat.add_assoc] at hrn
 by_cases ht:(l[p+n]'(by omega)).tab.length=0
 ·have hse:=hse fun _=>ht
  rw [decide_eq_true ht] at hgn
  clear ht ihn n3
  generalize (l[p+n]'(by omega))=z at *
  obtain ⟨zf,zt,ztab,zadr,zc,zlo,zhi⟩:=z
  dsimp only [rnV,rnA] at *
  have hnst:nst (l.drop p)=n:=hse
  rw [hnst] at hstep
  obtain ⟨e1,e2,e3⟩:=drop_at (h3.trans hstep)
  have hy:=hY i x (p,n) h2 e1
  try dsimp only at hy
  rw [show segV (some ⟨ba,oa,none⟩) c (p,n)=.slice (some ⟨ba,oa+p*5,none⟩) n (c-p) by rw [segV,subA_some (by omega)]] at hy
  have ih1:=fun x' h=>ih (i+1,p+n,subA (some ⟨ba,oa+p*5,none⟩) (c-p) n 5,ln-n,c-p-n,x') ⟨by dsimp only;omega,h,e2,e3,fun hl=>⟨by dsimp only at hl ⊢;rw [subA_some (by omega),subA_some (by omega),Nat.add_mul,← Nat.add_assoc],by dsimp only;omega⟩,by dsimp only;omega⟩ (by dsimp only;omega)
  dsimp only at ih1
  clear ih hstep hY e1 e2 hra
  all_goals (refine go ?_;and_intros<;>(try exact trivial)<;>repeat (first|refine fun (Bk:Nat)=>?_|intro h))
  repeat' ((first|(apply G.ix (i:=0);rfl;rfl;exact rfl;omega;rfl)|(apply G.ix (i:=n);rfl;rfl;rfl;omega;rfl)|(apply G.cV (g:=81) (d:=15);rfl;rfl;exact fun w' _=>hgp w')|(apply G.cV (g:=81) (d:=23);rfl;rfl;exact fun w' _=>hgn w')|(apply G.slH (len:=n);rfl;rfl;rfl;omega;omega;rfl)|(refine G.callG (Rs:=Rs) (x:=x) (M1:=M1) (Inv (i+1)) Out hy rfl rfl rfl rfl (by (repeat (first|exact Splt.nil|apply Splt.cons))) ?_ ?_;all_goals intro x' hx')|(apply G.sliceFrom (l:=n);rfl;rfl;rfl;omega;rfl;rfl;rfl))<;>(refine go ?_;and_intros<;>(try exact trivial)<;>repeat (first|refine fun (Bk:Nat)=>?_|intro h)))
  ·exact J.fin (ih1 x' hx')
  ·refine ret0 Tryz.func149 Tryz.results149 ?_
   exact fun w' hw'=>⟨rfl,x',hw'.forget sbL,.inr hx'⟩
 have ih3:=ihn (n+1) ⟨Nat.le_succ_of_le n1,hn,fun j h j1 j2=>by
  rcases Nat.lt_or_ge j (p+n) with j3|j3
  ·exact n3 j h j1 j3
  ·obtain rfl:j=p+n:=by omega
   exact ht⟩ (by omega)
 rw [decide_eq_false ht] at hgn
 clear ih ihn hra hstep hse hY ht n3 hg
 generalize (l[p+n]'(by omega))=z at *
 obtain ⟨zf,zt,ztab,zadr,zc,zlo,zhi⟩:=z
 dsimp only [rnV,rnA] at *
 all_goals (refine go ?_;and_intros<;>(try exact trivial)<;>repeat (first|refine fun (Bk:Nat)=>?_|intro h))
 repeat' ((first|(apply G.ix (i:=0);rfl;rfl;exact rfl;omega;rfl)|(apply G.ix (i:=n);rfl;rfl;rfl;omega;rfl)|(apply G.cV (g:=81) (d:=15);rfl;rfl;exact fun w' _=>hgp w')|(apply G.cV (g:=81) (d:=23);rfl;rfl;exact fun w' _=>hgn w'))<;>(refine go ?_;and_intros<;>(try exact trivial)<;>repeat (first|refine fun (Bk:Nat)=>?_|intro h)))
 exact J.fin ih3
theorem stretches_holds (w0:World) (M:List Row) (w:World) (a:Option Addr) (n c:Nat) (hw:Sat w0 M w) :
  Calls Tryz.prog 101 #[.slice a n c] w fun e w'=>∃ x:Nat,e=.returned (.func (.func 149) #[] #[.pointer (some ⟨x,0,none⟩)])∧Sat w0 (.blk x 43 [.slice a n c] 1::M) w':=by
 refine enterR [(0,.slice a n c)] hw Tryz.func101 Tryz.ntmps101 ?_
 all_goals (refine go ?_;and_intros<;>(try exact trivial)<;>repeat (first|refine fun (Bk:Nat)=>?_|intro h))
 refine ret1 Tryz.func101 Tryz.results101 ?_
 exact fun w' hw'=>⟨_,rfl,hw'⟩
end Go.Proofs.YtcdgibkbbcekhaaGreatDoor
/-
 Ranges over functions that hand out a list in whatever order and keep a row.
-/
namespace Go.Sl
open Go.RowKit
variable {C:Ctx}{st:List (Nat×Value)}{M:List Row}{k:List Item}{q q':Md}{all rest:List Oper}{d:Nat}{ty:TypeId}{pos:String}{after:Array Edge}{gd:Option (Nat×Bool)}
def IterK (P:Program) (w0:World) (K:List Row) (Kr:Row) (f:FuncId) (cap:Array Value) {E:Type} (enc:E→List Value) (es:List E):Prop :=
 ∀ {X:Type} (Rs:X→List Row) (Inv:List E→X→Prop) (fY:Fn) (cY:Array Value),
  (∀ R x i (hi:i < R.length),Inv R x→∀ M' w,Sat w0 (Rs x++M') w→CallsV P (.func fY #[] cY) (enc R[i]) w fun v w'=>∃ x',Sat w0 (Rs x'++M') w'∧v=.bool true∧Inv (R.eraseIdx i) x') →
  ∀ x0,Inv es x0→∀ M1 w,Sat w0 (K++(Rs x0++M1)) w →
   Calls P f (#[.func fY #[] cY]++cap) w fun e w'=>e=.returned (.tuple #[])∧∃ x',Sat w0 (Kr::(Rs x'++M1)) w'∧Inv [] x'
theorem J.rangeK1 {f:FuncId} [hF:Fun C.P f] {cap:Array Value}{g:Operand}{p1:Tmp}{assign body:Code}{E:Type}{e1:E→Value}{es:List E}{K:List Row}{Kr:Row}{X:Type} (Rs:X→List Row) (Inv:List E→X→Prop) (x0:X) (M1:List Row)
  (hIt:IterK C.P C.w0 K Kr f cap (fun e=>[e1 e]) es) (hb:C.b.roundOf=none) (hg:evS st g=some (.func (.func f) #[] cap)) (hp1:Nat.blt p1 C.N=true) (hM:M.Perm (K++(Rs x0++M1))) (hI:Inv es x0)
  (hround:∀ R x i (hi:i < R.length),Inv R x→∀ L (r:Loop) M',r.state=.ready→r.pending=none →
   J (rctx C.P L C.b.fn C.N (RoundP C.w0 L r Rs M' (Inv (R.eraseIdx i))) C.w0) ((p1,e1 R[i])::st) (.obj L (.loop r)::Rs x++M') [.code assign,.beginRound,.code body])
  (h1:∀ Bd x,Inv [] x→J { C with D:=mark Bd::C.D } st (.obj Bd (.deferred (some []))::(Kr::(Rs x++M1))) k) :
  J C st M (.code (.rangeFunc g #[p1] assign body)::k):=by
 refine J.perm hM (J.range (f:=f) (cap:=cap) (X:={ x:X // Inv [] x }) (fun x=>Kr::(Rs x.1++M1)) (fun _=>none) (fun _=>.ready) hb hg (fun x=>by simp) ?_ fun Bd x=>h1 Bd x.1 x.2)
 intro tmps Bd L w r hr hfit hw
 have hrs:r.state=.ready:=by rw [hr]
 have hrp:r.pending=none:=by rw [hr]
 have hperm:∀ (o:Obj) x,(Row.obj L o::.obj Bd (.deferred (some []))::(K++(Rs x++M1))).Perm (K++((.obj L o::Rs x)++(.obj Bd (.deferred (some []))::M1))):=fun o x =>
  perm_cat [[Row.obj L o],[.obj Bd (.deferred (some []))],K,Rs x,M1] [0,1,2,3,4] [2,0,3,1,4] rfl
 have hperm2:∀ (o:Obj) x,(Row.obj L o::.obj Bd (.deferred (some []))::(Kr::(Rs x++M1))).Perm (Kr::((.obj L o::Rs x)++(.obj Bd (.deferred (some []))::M1))):=fun o x =>
  perm_cat [[Row.obj L o],[.obj Bd (.deferred (some []))],[Kr],Rs x,M1] [0,1,2,3,4] [2,0,3,1,4] rfl
 have hmain:=hIt (X:=X) (fun x=>Row.obj L (.loop r)::Rs x) (fun R x=>Inv R x) (.yield L) #[] ?_ x0 hI (.obj Bd (.deferred (some []))::M1) w (hw.perm (hperm _ x0))
 ·refine hmain.mono fun e w2 ⟨q1,x,q2,q3⟩=>?_
  have hrr:({ r with state:=.ready,pending:=none }:Loop)=r:=by rw [hr]
  refine ⟨_,⟨x,q3⟩,q1,?_⟩
  show Sat C.w0 (.obj L (.loop { r with state:=.ready,pending:=none })::_) w2
  rw [hrr];exact q2.perm (hperm2 _ x).symm
 ·intro R x i hi h4 M' w1 hw1
  have h6:=hround R x i hi h4 L r M' hrs hrp
  refine .yield L r rfl (hw1.hold _ (.head _)) (by rw [hr];rfl) ?_
  have hf6:=hfit.put hp1 (e1 R[i])
  have e3:(r.params.zip [e1 R[i]].toArray).foldl (fun tmps (t,a)=>tmps.setIfInBounds t a) r.tmps=(({ tmps:=tmps,defers:=[] }:Act).put (some p1) (e1 R[i])).tmps:=by
   have e0:((#[p1]:Array Tmp).zip [e1 R[i]].toArray)=#[(p1,e1 R[i])]:=by simp
   rw [hr];dsimp only;rw [e0];simp [Act.put]
  rw [e3,show r.fn=C.b.fn by rw [hr],show r.assign=assign by rw [hr],show r.body=body by rw [hr]]
  have h7:=rounds_of hf6 hw1 h6
  intro c cs
  obtain ⟨v,w',⟨x',h8,h9,h10⟩,h11⟩:=h7 c cs
  exact ⟨v,w',⟨x',h10,h8,h9⟩,h11⟩
end Go.Sl
