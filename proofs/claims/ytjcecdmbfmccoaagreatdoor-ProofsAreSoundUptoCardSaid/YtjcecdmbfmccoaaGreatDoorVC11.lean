/-
  Contracts of proofs: well-formed elements, by the program and by the specification.
-/
import Derived.Test.YtjcecdmbfmccoaaGreatDoorVC10
set_option linter.unusedVariables false
set_option linter.unusedSimpArgs false
set_option linter.unusedSectionVars false
namespace Go.Proofs.YtjcecdmbfmccoaaGreatDoor
open Go.RowKit Go.Sl Go.Num
def prV (p:Prf):List Value:=[.slice p.sa p.st.length p.sc,.slice p.ca p.cl.length p.cc]
def prA (p:Prf):Value:=.agg #[.slice p.sa p.st.length p.sc,.slice p.ca p.cl.length p.cc]
def PrfAt (w:World) (p:Prf):Prop:=SlAt w p.sa 3 (p.st.map qV)/\SlAt w p.ca 3 (p.cl.map qV)
def PrfsAt (w:World) (a:Option Addr) (l:List Prf):Prop:=SlAt w a 2 (l.map prV)/\∀ p∈l,PrfAt w p
theorem PrfAt.below {w w':World}{p:Prf} (h:PrfAt w p) (hb:Below w.heap.size w w'):PrfAt w' p:=⟨h.1.below hb,h.2.below hb⟩
theorem PrfsAt.below {w w':World}{a:Option Addr}{l:List Prf} (h:PrfsAt w a l) (hb:Below w.heap.size w w'):PrfsAt w' a l:=⟨h.1.below hb,fun p hp=>(h.2 p hp).below hb⟩
def fewF (k:Nat) (p:Prf):Prop:=(∀ a∈p.st,fewQ k a)/\∀ a∈p.cl,fewQ k a
def badQ (a:Q3):Bool:=!decide (validQ a)
theorem bad_holds (a:Q3) (w:World) (hf:fewQ 20000000 a):Calls Tryz.prog 79 #[qA a] w fun e w'=>e=.returned (.bool (badQ a))/\Below w.heap.size w w':=by
 have hv:=fun w'=>ratValid_holds a w' (Nat.le_trans hf.1 (by decide)) (Nat.le_trans hf.2 (by decide))
 rw [badQ]
 generalize decide (validQ a)=b at *
 clear hf
 obtain ⟨n1,u1,d1⟩:=a
 dsimp only [qA] at *
 refine enterA [(0,.agg #[.bool n1,.string (bs u1),.string (bs d1)])] Tryz.func79 Tryz.ntmps79 ?_
 cases b
 all_goals skip
 repeat' first|(refine gp ?_;and_intros<;>first|exact trivial|repeat first|intro(Bk:Nat)|intro h)|(apply G.cV (g:=26);rfl;rfl;exact fun w' _=>hv w')
 all_goals refine ret1b Tryz.func79 Tryz.results79 ?_
 all_goals rfl
theorem idxR_holds (p:Q3->Bool) (g:FuncId) [hF:Fun Tryz.prog g] (a:Option Addr) (l:List Q3) (c:Nat) (w:World) (hA:SlAt w a 3 (l.map qV)) (hl:l.length<=1000000000)
  (hf:∀ s∈l,∀ w',Calls Tryz.prog g (#[qA s]++#[]) w' fun e w2=>e=.returned (.bool (p s))/\Below w'.heap.size w' w2) :
  Calls Tryz.prog 126 #[.slice a l.length c,.func (.func g) #[] #[]] w fun e w'=>e=.returned (.int .i64 (if l.findIdx p < l.length then (l.findIdx p:Int) else -1))/\Below w.heap.size w w':=by
 have hle:l.findIdx p<=l.length:=List.findIdx_le_length
 refine enterA [(0,.slice a l.length c),(1,.func (.func g) #[] #[])] Tryz.func126 Tryz.ntmps126 ?_
 all_goals (refine go ?_;and_intros<;>first|exact trivial|repeat first|intro(Bk:Nat)|intro h)
 refine J.loop (c:=_) (0:Nat) (fun s=>l.length-s) (fun s=>[(0,.slice a l.length c),(1,.func (.func g) #[] #[]),(7,.int .i64 l.length),(8,.int .i64 s)]) (fun s=>[]) (fun s=>s<=l.findIdx p) ?_ sbT sbL ?_
 ·exact Nat.zero_le _
 intro k h1 ih
 by_cases hk:k < l.length
 ·obtain ⟨ba,oa,rfl,hra⟩:=SlAt.all hA (by omega)
  have hr:=hra k hk
  have hfk:=hf l[k] (List.getElem_mem hk)
  by_cases hq:l.findIdx p=k
  ·have hp:p l[k]=true:=by
    have:=List.findIdx_getElem (w:=(show l.findIdx p < l.length by omega))
    simpa only [hq] using this
   rw [if_pos (by omega),hq]
   rw [hp] at hfk
   clear hra hf
   generalize l[k]=s at *
   obtain ⟨n1,u1,d1⟩:=s
   dsimp only [qV,qA] at *
   repeat' first|(refine gp ?_;and_intros<;>first|exact trivial|repeat first|intro(Bk:Nat)|intro h)|(apply G.cF (g:=g);rfl;rfl;rfl;exact fun w' _=>hfk w')
   all_goals refine ret1b Tryz.func126 Tryz.results126 ?_
   all_goals rfl
  ·have hp:p l[k]=false:=by
    have:=List.not_of_lt_findIdx (show k < l.findIdx p by omega)
    simpa using this
   rw [hp] at hfk
   have ih:=ih (k+1) (by omega) (by omega)
   clear hra hf
   generalize l[k]=s at *
   obtain ⟨n1,u1,d1⟩:=s
   dsimp only [qV,qA] at *
   repeat' first|(refine gp ?_;and_intros<;>first|exact trivial|repeat first|intro(Bk:Nat)|intro h)|(apply G.cF (g:=g);rfl;rfl;rfl;exact fun w' _=>hfk w')
   exact J.fin ih
 ·rw [if_neg (by omega)]
  clear hf
  all_goals (refine go ?_;and_intros<;>first|exact trivial|repeat first|intro(Bk:Nat)|intro h)
  all_goals refine ret1b Tryz.func126 Tryz.results126 ?_
  all_goals rfl
theorem ctnR_holds (p:Q3->Bool) (g:FuncId) [hF:Fun Tryz.prog g] (a:Option Addr) (l:List Q3) (c:Nat) (w:World) (hA:SlAt w a 3 (l.map qV)) (hl:l.length<=1000000000)
  (hf:∀ s∈l,∀ w',Calls Tryz.prog g (#[qA s]++#[]) w' fun e w2=>e=.returned (.bool (p s))/\Below w'.heap.size w' w2) :
  Calls Tryz.prog 78 #[.slice a l.length c,.func (.func g) #[] #[]] w fun e w'=>e=.returned (.bool (l.any p))/\Below w.heap.size w w':=by
 have hi:=fun w' (hb:Below w.heap.size w w')=>idxR_holds p g a l c w' (hA.below hb) hl hf
 have hlt:l.findIdx p < l.length ↔ l.any p=true:=by rw [List.findIdx_lt_length,List.any_eq_true]
 generalize l.any p=b at *
 clear hf hA
 by_cases h:l.findIdx p < l.length
 ·rw [if_pos h] at hi
  have hb:=hlt.1 h
  subst hb
  generalize l.findIdx p=j at *
  refine enterA [(0,.slice a l.length c),(1,.func (.func g) #[] #[])] Tryz.func78 Tryz.ntmps78 ?_
  repeat' first|(refine gp ?_;and_intros<;>first|exact trivial|repeat first|intro(Bk:Nat)|intro h)|(apply G.cV (g:=126);rfl;rfl;exact fun w' hw=>hi w' hw.below)
  all_goals refine ret1b Tryz.func78 Tryz.results78 ?_
  all_goals rfl
 ·rw [if_neg h] at hi
  have hb:b=false:=by cases b<;>simp_all
  subst hb
  refine enterA [(0,.slice a l.length c),(1,.func (.func g) #[] #[])] Tryz.func78 Tryz.ntmps78 ?_
  repeat' first|(refine gp ?_;and_intros<;>first|exact trivial|repeat first|intro(Bk:Nat)|intro h)|(apply G.cV (g:=126);rfl;rfl;exact fun w' hw=>hi w' hw.below)
  all_goals refine ret1b Tryz.func78 Tryz.results78 ?_
  all_goals rfl
theorem any_bad (l:List Q3):(!l.any badQ)=l.all fun a=>decide (validQ a):=by
 induction l with
 | nil=>rfl
 | cons x l ih=>rw [List.any_cons,List.all_cons,<- ih,badQ];cases decide (validQ x)<;>cases l.any badQ<;>rfl
theorem wv_holds (a:Option Addr) (l:List Q3) (c:Nat) (w:World) (hA:SlAt w a 3 (l.map qV)) (hl:l.length<=1000000000) (hf:∀ s∈l,fewQ 20000000 s) :
  Calls Tryz.prog 77 #[.slice a l.length c] w fun e w'=>e=.returned (.bool (l.all fun a=>decide (validQ a)))/\Below w.heap.size w w':=by
 have hc:=fun w' (hb:Below w.heap.size w w')=>ctnR_holds badQ 79 a l c w' (hA.below hb) hl (fun s hs w2=>by rw [Array.append_empty];exact bad_holds s w2 (hf s hs))
 rw [<- any_bad]
 generalize l.any badQ=b at *
 clear hf hA
 refine enterA [(0,.slice a l.length c)] Tryz.func77 Tryz.ntmps77 ?_
 cases b
 all_goals skip
 repeat' first|(refine gp ?_;and_intros<;>first|exact trivial|repeat first|intro(Bk:Nat)|intro h)|(apply G.cV (g:=78);rfl;rfl;exact fun w' hw=>hc w' hw.below)
 all_goals refine ret1b Tryz.func77 Tryz.results77 ?_
 all_goals rfl
theorem well_holds (r:Rn) (l:List Spn) (p:Prf) (ka:Option Addr) (kc:Nat) (w:World) (hP:PrfAt w p) (hf:fewF 20000000 p) (h1:p.st.length<=1000000) (h2:p.cl.length<=1000000) :
  Calls Tryz.prog 38 #[rnA r,.slice ka (clsE r l).length kc,prA p] w fun e w'=>e=.returned (.bool (wellB l r p))/\Below w.heap.size w w':=by
 have hs:=fun w' (hb:Below w.heap.size w w')=>wv_holds p.sa p.st p.sc w' (hP.1.below hb) (by omega) hf.1
 have hc:=fun w' (hb:Below w.heap.size w w')=>wv_holds p.ca p.cl p.cc w' (hP.2.below hb) (by omega) hf.2
 unfold wellB rnA prA
 generalize (p.st.all fun a=>decide (validQ a))=b1 at *
 generalize (p.cl.all fun a=>decide (validQ a))=b2 at *
 generalize (clsE r l).length=n at *
 clear hP hf
 generalize p.st.length=m1 at *
 generalize p.cl.length=m2 at *
 generalize r.tab.length=m0 at *
 by_cases h0:m0=0
 ·rw [if_pos h0]
  refine enterA [(0,.agg #[.int .i64 r.from_,.int .i64 r.to_,.slice r.adr m0 r.cap,.int .i64 r.lo,.int .i64 r.hi]),(1,.slice ka n kc),(2,.agg #[.slice p.sa m1 p.sc,.slice p.ca m2 p.cc])] Tryz.func38 Tryz.ntmps38 ?_
  all_goals (refine go ?_;and_intros<;>first|exact trivial|repeat first|intro(Bk:Nat)|intro h)
  all_goals refine ret1b Tryz.func38 Tryz.results38 ?_
  all_goals exact ret_bool (by first|(rw [decide_eq_true (by omega)])|(rw [decide_eq_false (by omega)]))
 ·rw [if_neg h0]
  cases b1
  all_goals cases b2
  all_goals
   refine enterA [(0,.agg #[.int .i64 r.from_,.int .i64 r.to_,.slice r.adr m0 r.cap,.int .i64 r.lo,.int .i64 r.hi]),(1,.slice ka n kc),(2,.agg #[.slice p.sa m1 p.sc,.slice p.ca m2 p.cc])] Tryz.func38 Tryz.ntmps38 ?_
   repeat' first|(refine gp ?_;and_intros<;>first|exact trivial|repeat first|intro(Bk:Nat)|intro h)|(apply G.cF (g:=77) (d:=39);rfl;rfl;rfl;exact fun w' hw=>hs w' hw.below)|(apply G.cF (g:=77) (d:=45);rfl;rfl;rfl;exact fun w' hw=>hc w' hw.below)
   all_goals refine ret1b Tryz.func38 Tryz.results38 ?_
   all_goals exact ret_bool (by first|(rw [decide_eq_true (by omega),decide_eq_true (by omega)];rfl)|(rw [decide_eq_true (by omega),decide_eq_false (by omega)];rfl)|(rw [decide_eq_false (by omega)];rfl))
theorem fewQ_gapC {t:Bool}{l:List Spn}{r:Rn}{c:Nat} (hf:∀ s∈l,fewS s) (hR:∀ s∈l,RightS s) (h1:0<=r.lo/\r.lo<=1000) (h2:0<=r.hi/\r.hi<=1000):fewQ 140 (rQ (gapC t l r c)):=by
 unfold gapC endG
 split
 ·exact fewQ_clsG hf hR h2
 ·exact fewQ_clsG hf hR h1
theorem well_iff {l:List Spn}{r:Rn}{p:Prf} (h0:r.tab.length≠0):wellB l r p=true ↔ p.st.length=r.tab.length/\p.cl.length=(clsE r l).length/\(∀ a∈p.st,validQ a)/\∀ a∈p.cl,validQ a:=by
 unfold wellB
 rw [if_neg h0]
 simp only [Bool.and_eq_true,decide_eq_true_eq,List.all_eq_true]
 constructor
 ·intro ⟨⟨⟨h1,h2⟩,h3⟩,h4⟩;exact ⟨h1,h2,h3,h4⟩
 ·intro ⟨h1,h2,h3,h4⟩;exact ⟨⟨⟨h1,h2⟩,h3⟩,h4⟩
theorem val_rQ {a:Q3} (h:validQ a):rQ (qR a)=a:=by rw [clean_q,if_pos h]
theorem uP_at {p:Prf}{s:Nat} (h:s < p.st.length) (hv:∀ a∈p.st,validQ a):p.st[s]=rQ (uP p s):=by
 rw [uP,List.getD_eq_getElem?_getD,List.getElem?_eq_getElem h]
 exact (val_rQ (hv _ (List.getElem_mem h))).symm
theorem vP_at {p:Prf}{c:Nat} (h:c < p.cl.length) (hv:∀ a∈p.cl,validQ a):p.cl[c]=rQ (vP p c):=by
 rw [vP,List.getD_eq_getElem?_getD,List.getElem?_eq_getElem h]
 exact (val_rQ (hv _ (List.getElem_mem h))).symm
theorem clsAt_lt0 {r:Rn}{l:List Spn}{c:Nat} (h:c < (clsE r l).length):clsAt r l c < l.length:=by
 have h1:=List.mem_of_getElem? (cls_at0 h)
 rcases clsE_mem.1 h1 with ⟨i,s,h2,_,h3⟩|⟨_,h3⟩
 ·have h4:=(List.getElem?_eq_some_iff.1 h2).1
  have:clsAt r l c=(i:Int):=congrArg Prod.fst h3
  omega
 ·have:clsAt r l c=-1:=congrArg Prod.fst h3
  omega
def SumOk (D B n:Nat) (x:Rat):Prop:=∃ N:Int,x*((D:Int):Rat)=(N:Rat)/\N.natAbs<=n*B
theorem SumOk.zero (D B:Nat):SumOk D B 0 0:=⟨0,by rw [Rat.zero_mul];rfl,Nat.zero_le _⟩
theorem SumOk.le {D B n m:Nat}{x:Rat} (h:SumOk D B n x) (hm:n<=m):SumOk D B m x:=by
 obtain ⟨N,h1,h2⟩:=h
 exact ⟨N,h1,Nat.le_trans h2 (Nat.mul_le_mul_right _ hm)⟩
theorem SumOk.add {D B n m:Nat}{x y:Rat} (h:SumOk D B n x) (h2:SumOk D B m y):SumOk D B (n+m) (x+y):=by
 obtain ⟨N,a1,a2⟩:=h
 obtain ⟨M,b1,b2⟩:=h2
 refine ⟨N+M,by rw [Rat.add_mul,a1,b1,Rat.intCast_add],?_⟩
 rw [Nat.add_mul]
 have:=Int.natAbs_add_le N M
 omega
theorem SumOk.mulN {D B:Nat}{x:Rat} (h:SumOk D B 1 x) (m:Nat):SumOk D B m (((m:Int):Rat)*x):=by
 obtain ⟨N,a1,a2⟩:=h
 refine ⟨(m:Int)*N,by rw [Rat.mul_assoc,a1,Rat.intCast_mul],?_⟩
 rw [Int.natAbs_mul,Int.natAbs_natCast]
 exact Nat.mul_le_mul_left _ (by omega)
theorem SumOk.few {D B n k:Nat}{x:Rat} (h:SumOk D B n x) (h0:0 < D) (hD:D < 256 ^ k) (hB:n*B < 256 ^ k):fewQ k (rQ x):=by
 obtain ⟨N,h1,h2⟩:=h
 exact few_of h1 h0 hD (Nat.lt_of_le_of_lt h2 hB)
structure DenR (t:Bool) (l:List Spn) (D B:Nat) (r:Rn) (p:Prf):Prop where
 u:r.tab.length≠0->∀ s,s < r.tab.length->SumOk D B 1 (uP p s)
 v:r.tab.length≠0->∀ c,c < (clsE r l).length->SumOk D B 1 (vP p c)
 g:r.tab.length=0->∀ c,c < (clsE r l).length->SumOk D B 1 (gapC t l r c)
 f:fewF 20000000 p
structure DenK (D B k:Nat):Prop where
 pos:0 < D
 den:D < 256 ^ k
 num:100000*B < 256 ^ k
 le:k<=50000000
theorem DenK.few {D B k n:Nat}{x:Rat} (h:DenK D B k) (hx:SumOk D B n x) (hn:n<=100000):fewQ k (rQ x) :=
 hx.few h.pos h.den (Nat.lt_of_le_of_lt (Nat.mul_le_mul_right _ hn) h.num)
theorem DenK.big {D B k n:Nat}{x:Rat} (h:DenK D B k) (hx:SumOk D B n x) (hn:n<=100000):big x:=fewQ.big (h.few hx hn) (Nat.le_trans h.le (by decide))
theorem SumOk.sum {D B:Nat}{T:Nat->Int}{f:Nat->Rat}:∀ {n:Nat},(∀ c,c < n->0<=T c)->(∀ c,c < n->SumOk D B 1 (f c))->SumOk D B (iS T n).toNat (rS' (fun c=>(T c:Rat)*f c) n)
 | 0,_,_=>SumOk.zero D B
 | n+1,hT,hf=>by
  have ih:=SumOk.sum (D:=D) (B:=B) (n:=n) (fun c hc=>hT c (by omega)) fun c hc=>hf c (by omega)
  have h0:=hT n (by omega)
  have h1:=(hf n (by omega)).mulN (T n).toNat
  rw [Int.toNat_of_nonneg h0] at h1
  have h2:=iS_nn (f:=T) (n:=n) fun c hc=>hT c (by omega)
  rw [iS,rS',Int.toNat_add h2 h0]
  exact ih.add h1
theorem tms_ok {D B:Nat}{x:Rat} (h:SumOk D B 1 x) {T:Int} (hT:0<=T):SumOk D B T.toNat ((T:Rat)*x):=by
 have h1:=h.mulN T.toNat
 rwa [Int.toNat_of_nonneg hT] at h1
def tickN:List Rn->Nat
 | []=>0
 | r::rs=>(r.to_-r.from_).toNat+tickN rs
theorem tickN_app:∀ a b:List Rn,tickN (a++b)=tickN a+tickN b
 | [],b=>by rw [List.nil_append,tickN,Nat.zero_add]
 | r::a,b=>by rw [List.cons_append,tickN,tickN,tickN_app a b,Nat.add_assoc]
theorem tickN_cn:∀ {rs:List Rn}{f e:Int},Cn f rs e->(∀ r∈rs,OkR r)->(tickN rs:Int)=e-f
 | [],f,e,h,_=>by have:f=e:=h;rw [tickN];omega
 | r::rs,f,e,⟨h1,h2⟩,ho=>by
  have ih:=tickN_cn h2 fun x hx=>ho x (List.mem_cons_of_mem _ hx)
  have hr:=(ho r (List.mem_cons_self ..)).rng
  rw [tickN];omega
theorem tickN_take (rs:List Rn) (k:Nat):tickN (rs.take k)<=tickN rs:=by
 have h:=tickN_app (rs.take k) (rs.drop k)
 rw [List.take_append_drop] at h
 omega
theorem tickN_le {rs:List Rn} (h:runsErr rs=0):tickN rs<=40000:=by
 by_cases h0:rs=[]
 ·subst h0;exact Nat.zero_le _
 ·obtain ⟨h1,_,h2⟩:=runs_ok h
  obtain ⟨h3,h4⟩:=h2 h0
  have:=tickN_cn h3 h1
  omega
theorem valL_take {t:Bool}{l:List Spn}{rs:List Rn}{ps:List Prf} (hl:ps.length=rs.length) {k:Nat} (hk:k < rs.length):valL t l (rs.take (k+1)) (ps.take (k+1))=valL t l (rs.take k) (ps.take k)+valR t l rs[k] (ps[k]'(by omega)):=by
 rw [List.take_add_one,List.take_add_one,List.getElem?_eq_getElem hk,List.getElem?_eq_getElem (by omega),valL_app (by rw [List.length_take,List.length_take];omega)]
 rw [show valL t l (some rs[k]).toList (some (ps[k]'(by omega))).toList=valR t l rs[k] (ps[k]'(by omega))+0 from rfl,Rat.add_zero]
theorem zip_all {α β:Type}{a:List α}{b:List β}{f:α×β->Bool} (hl:b.length=a.length) (h:∀ i (h1:i < a.length) (h2:i < b.length),f (a[i],b[i])=true):∀ y∈a.zip b,f y=true:=fun y hy=>by
 obtain ⟨i,hi,e⟩:=List.mem_iff_getElem.1 hy
 rw [List.length_zip] at hi
 rw [List.getElem_zip] at e
 rw [<- e];exact h i (by omega) (by omega)
theorem zip_not {α β:Type}{a:List α}{b:List β}{f:α×β->Bool}{i:Nat} (h1:i < a.length) (h2:i < b.length) (h:f (a[i],b[i])=false):((a.zip b).all f)=false:=by
 cases hb:(a.zip b).all f with
 | false=>rfl
 | true =>
  have hm:(a[i],b[i])∈a.zip b:=List.mem_iff_getElem.2 ⟨i,by rw [List.length_zip];omega,List.getElem_zip⟩
  have:=List.all_eq_true.1 hb _ hm
  rw [h] at this;cases this
theorem iS_le2 {f:Nat->Int}:∀ {n:Nat},(∀ i,i < n->0<=f i)->∀ {u},u < n->iS f (u+1)<=iS f n
 | 0,_,u,h=>absurd h (Nat.not_lt_zero _)
 | n+1,hf,u,h=>by
  by_cases e:u=n
  ·subst e;exact Int.le_refl _
  ·have ih:=iS_le2 (f:=f) (n:=n) (fun i hi=>hf i (by omega)) (u:=u) (by omega)
   have:=hf n (by omega)
   rw [show iS f (n+1)=iS f n+f n from rfl];omega
theorem valR_ok {t:Bool}{l:List Spn}{D B:Nat}{r:Rn}{p:Prf} (hr:OkR r) (hl:InOrd 0 l) (h:DenR t l D B r p):SumOk D B (2*(r.to_-r.from_).toNat) (valR t l r p):=by
 have hrg:=hr.rng
 have hc:∀ c,c < (clsE r l).length->0<=clsT r l c:=fun c hc=>Int.le_of_lt (clsE_pos _ (List.mem_of_getElem? (cls_at0 hc)))
 have hcs:iS (clsT r l) (clsE r l).length=r.to_-r.from_:=by rw [sumC_iS,clsE_sum hl hrg.2.1]
 unfold valR
 split
 ·rename_i h0
  have h1:=SumOk.sum (D:=D) (B:=B) hc (h.g h0)
  rw [hcs] at h1
  exact h1.le (by omega)
 ·rename_i h0
  have ht:=hr.tab h0
  have hs:∀ s,s < r.tab.length->0<=tbT r s:=fun s hs=>by have:=ht.2.1 _ (tbS_mem hs);dsimp only at this;omega
  have h1:=SumOk.sum (D:=D) (B:=B) hs (h.u h0)
  have h2:=SumOk.sum (D:=D) (B:=B) hc (h.v h0)
  rw [sumT_iS,ht.2.2.1] at h1
  rw [hcs] at h2
  exact (h1.add h2).le (by omega)
abbrev ClT:=Nat×Nat×Nat×List (Int×Int)
def clF (N:Nat) (e:ClT):Row:=slRow N (some ⟨e.1,e.2.1,none⟩) 2 (e.2.2.2.map hoV)
def clS (e:ClT):List Value:=[.slice (some ⟨e.1,e.2.1,none⟩) e.2.2.2.length e.2.2.1]
set_option maxHeartbeats 8000000 in
theorem pval_holds (t:Bool) (a:Option Addr) (rs:List Rn) (c:Nat) (b:Option Addr) (l:List Spn) (d:Nat) (pa:Option Addr) (ps:List Prf) (pc:Nat) (w:World) (hA:RunsAt w a rs) (hB:SpansAt w b l) (hM:Mod rs l) (hP:PrfsAt w pa ps) (hfp:∀ p∈ps,fewF 20000000 p/\p.st.length<=1000000/\p.cl.length<=1000000) (D B K:Nat) (hD:chkE rs l=0->ps.length=rs.length->(∀ x∈rs.zip ps,wellB l x.1 x.2=true)->DenK D B K/\∀ y∈rs.zip ps,DenR t l D B y.1 y.2) :
  Calls Tryz.prog 11 #[.slice a rs.length c,.slice b l.length d,.slice pa ps.length pc,.bool t] w fun e w'=>e=.returned (.tuple #[qA (valE t rs l ps).1,.int .i64 (valE t rs l ps).2])/\Below w.heap.size w w':=by
 have hck:=fun w' (hb:Below w.heap.size w w')=>bChk_holds a rs c b l d w' (hA.below hb) hM.tab (hB.below hb) hM.few
 by_cases h0:chkE rs l=0
 ·by_cases hne:ps.length=rs.length
  ·obtain ⟨hio,hl4,hR,hrl,hok⟩:=chk_facts h0
   have hcl:=fun k (hk:k < rs.length) w' (hb:Below w.heap.size w w')=>vClasses_holds a rs c b l d k w' (hA.below hb) hM.tab (hB.below hb) hM.few h0 hk
   have hvf:∀ i (h1:i < rs.length) (h2:i < ps.length),wellB l rs[i] ps[i]=false->valE t rs l ps=(zero3,1):=fun i h1 h2 hf=>by
    unfold valE
    rw [if_neg (fun h=>h h0),if_neg (fun h=>h hne),if_pos (zip_not (f:=fun x=>wellB l x.1 x.2) h1 h2 hf)]
   have hcf:(∀ i (h1:i < rs.length) (h2:i < ps.length),wellB l rs[i] ps[i]=true)->∀ i (h1:i < rs.length) (h2:i < ps.length),certB t l rs[i] ps[i]=false->valE t rs l ps=(zero3,22):=fun hw i h1 h2 hf=>by
    unfold valE
    rw [if_neg (fun h=>h h0),if_neg (fun h=>h hne),if_neg (by rw [List.all_eq_true.2 (zip_all (f:=fun x=>wellB l x.1 x.2) hne hw)];decide),if_pos (zip_not (f:=fun x=>certB t l x.1 x.2) h1 h2 hf)]
   have hvo:(∀ i (h1:i < rs.length) (h2:i < ps.length),wellB l rs[i] ps[i]=true)->(∀ i (h1:i < rs.length) (h2:i < ps.length),certB t l rs[i] ps[i]=true)->valE t rs l ps=(rQ (valL t l rs ps),0):=fun hw hc =>
    val_of h0 hne (zip_all (f:=fun x=>wellB l x.1 x.2) hne hw) (zip_all (f:=fun x=>certB t l x.1 x.2) hne hc)
   rw [h0] at hck
   refine enterA [(0,.slice a rs.length c),(1,.slice b l.length d),(2,.slice pa ps.length pc),(3,.bool t)] Tryz.func11 Tryz.ntmps11 ?_
   repeat' first|(refine gp ?_;and_intros<;>first|exact trivial|repeat first|intro(Bk:Nat)|intro h)|(apply G.cV (g:=36);rfl;rfl;exact fun w' hw=>hck w' hw.below)
   obtain ⟨B8,rfl⟩:∃ x,x=Bk:=⟨_,rfl⟩
   apply J.nilOwn (E:=82) (size:=1)
   refine J.loop (c:=_) ((0,.slice none 0 0,[]):Nat×Value×List ClT) (fun x=>rs.length-x.1) (fun x=>[(0,.slice a rs.length c),(1,.slice b l.length d),(2,.slice pa ps.length pc),(3,.bool t),(8,.pointer (some ⟨B8,0,none⟩)),(11,x.2.1),(39,.slice a rs.length c),(40,.int .i64 rs.length),(41,.int .i64 x.1)]) (fun x=>.own 0 x.2.1 82 1 x.1 (flat clS x.2.2)::.blk B8 25 [.bool false,.string (bs []),.string (bs [])] 3::(rws (clF w.heap.size) x.2.2++[])) (fun x=>x.1<=rs.length/\x.2.2.length=x.1/\(∀ i (h1:i < rs.length) (h2:i < x.2.2.length),x.2.2[i].2.2.2=clsE rs[i] l)/\∀ i (h1:i < rs.length) (h2:i < ps.length),i < x.1->wellB l rs[i] ps[i]=true) ?_ sbT sbL ?_
   ·exact ⟨Nat.zero_le _,rfl,fun i _ h=>absurd h (Nat.not_lt_zero _),fun i _ _ h=>absurd h (Nat.not_lt_zero _)⟩
   intro ⟨k,v,T⟩ ⟨hkn,hTl,hTc,hwk⟩ ihk
   dsimp only at hkn hTl hTc hwk ⊢
   by_cases hkk:k < rs.length
   ·have hkp:k < ps.length:=by omega
    obtain ⟨ba,oa,rfl,hra⟩:=SlAt.all hA.1 (by omega)
    obtain ⟨bp,op,rfl,hrp⟩:=SlAt.all hP.1 (by omega)
    have hrk:=hra k hkk
    have hpk:=hrp k hkp
    have hm:=List.getElem_mem hkp
    have hPk:=hP.2 _ hm
    obtain ⟨hfk,hl1,hl2⟩:=hfp _ hm
    have hcn0:=clsE_len hio (hok _ (List.getElem_mem hkk)).rng.2.1
    have hwe:=fun ka kc w' (hb:Below w.heap.size w w')=>well_holds rs[k] l ps[k] ka kc w' (hPk.below hb) hfk hl1 hl2
    have hcl:=hcl k hkk
    have hvf:=hvf k hkk hkp
    have ihk:=fun (h:wellB l rs[k] (ps[k]'hkp)=true) v' kb ko kc=>ihk (k+1,v',T++[(kb,ko,kc,clsE rs[k] l)]) ⟨hkk,by simp [hTl],fun i h1 h2=>by
     dsimp only at h2 ⊢
     by_cases e:i < T.length
     ·rw [List.getElem_append_left e];exact hTc i h1 e
     ·rw [List.length_append,List.length_singleton] at h2
      obtain rfl:i=T.length:=by omega
      rw [List.getElem_concat_length rfl]
      simp only [hTl],fun i h1 h2 h3=>by
     dsimp only at h3
     by_cases e:i=k
     ·subst e;exact h
     ·exact hwk i h1 h2 (by omega)⟩ (by dsimp only;omega)
    dsimp only at ihk
    clear hra hrp hwk hPk hfk hA hB hM hP hfp hD hcf hvo hm hTc
    generalize rs[k]=r at *
    generalize ps[k]=p at *
    dsimp only [rnV,prV] at hrk hpk
    unfold rnA prA at hwe
    generalize hwb:wellB l r p=wb at *
    cases wb with
    | false =>
     rw [hvf rfl]
     clear ihk hvf
     repeat' first|(refine gp ?_;and_intros<;>first|exact trivial|repeat first|intro(Bk:Nat)|intro h)|(refine G.cL (g:=37) (sz:=2) (f:=hoV) (fun v=>.tuple #[v,.int .i64 0]) (clsE r l) rfl rfl (fun w' hw=>(hcl w' hw.below).mono fun e w2 hh=>?_) ?_;exact hh;intro ka kc hp1 hp2;clear hp2;obtain ⟨kb,ko,rfl⟩:=hp1 hcn0)|(apply G.cV (g:=38);rfl;rfl;exact fun w' hw=>hwe _ _ w' hw.below)
     all_goals refine ret2b Tryz.func11 Tryz.results11 ?_
     all_goals rfl
    | true =>
     have ihk:=ihk rfl
     clear hvf
     repeat' first|(refine gp ?_;and_intros<;>first|exact trivial|repeat first|intro(Bk:Nat)|intro h)|(refine G.cL (g:=37) (sz:=2) (f:=hoV) (fun v=>.tuple #[v,.int .i64 0]) (clsE r l) rfl rfl (fun w' hw=>(hcl w' hw.below).mono fun e w2 hh=>?_) ?_;exact hh;intro ka kc hp1 hp2;clear hp2;obtain ⟨kb,ko,rfl⟩:=hp1 hcn0)|(apply G.cV (g:=38);rfl;rfl;exact fun w' hw=>hwe _ _ w' hw.below)|(apply G.sliceL;rfl;rfl;rfl;rfl;rfl;rfl;rfl;rfl;intro Bs)|(apply G.ap;rfl;rfl;rfl;(repeat (first|exact RAt.head|apply RAt.tail));exact SrcV.blk (by exact mm) rfl rfl;exact (flat_snoc1 (f:=clS) T (kb,ko,kc,clsE r l)).symm;omega;omega;intro v2)
     refine J.sel (T:=clF w.heap.size (kb,ko,kc,clsE r l)::(.own 0 v2 82 1 (k+1) (flat clS (T++[(kb,ko,kc,clsE r l)]))::.blk B8 25 [.bool false,.string (bs []),.string (bs [])] 3::(rws (clF w.heap.size) T++[]))) ?_
     refine J.tabSnoc (F:=clF w.heap.size) (T:=T) [.own 0 v2 82 1 (k+1) (flat clS (T++[(kb,ko,kc,clsE r l)])),.blk B8 25 [.bool false,.string (bs []),.string (bs [])] 3] (kb,ko,kc,clsE r l) ?_
     exact J.fin (ihk v2 kb ko kc)
   ·obtain rfl:k=rs.length:=by omega
    clear ihk
    have hwk:=fun i h1 h2=>hwk i h1 h2 h1
    obtain ⟨hDK,hDR⟩:=hD h0 hne (zip_all (f:=fun x=>wellB l x.1 x.2) hne hwk)
    have hcf:=hcf hwk
    have hvo:=hvo hwk
    have htk:=tickN_le (chk_ok h0).1
    clear hvf hD
    by_cases hz:rs.length=0
    ·have hz2:rs=[]:=List.length_eq_zero_iff.1 hz
     have hz3:ps=[]:=List.length_eq_zero_iff.1 (by omega)
     rw [hvo fun i h1 h2=>by omega]
     subst hz2 hz3
     clear hcf hvo hDR hwk hA hB hM hP hfp hTc hcl
     rw [show valL t l [] []=0 from rfl]
     repeat' first|(refine gp ?_;and_intros<;>first|exact trivial|repeat first|intro(Bk:Nat)|intro h)|(apply G.cV (g:=39);rfl;rfl;exact fun w' _=>dir_holds t w')
     obtain ⟨B17,rfl⟩:∃ x,x=Bk:=⟨_,rfl⟩
     refine J.loop (c:=_) (0:Nat) (fun x=>0) (fun x=>[(8,.pointer (some ⟨B8,0,none⟩)),(17,.pointer (some ⟨B17,0,none⟩)),(70,.int .i64 0),(71,.int .i64 0)]) (fun x=>.blk B17 25 [.bool false,.string (bs []),.string (bs [])] 3::.blk B8 25 [.bool false,.string (bs []),.string (bs [])] 3::(rws (clF w.heap.size) T++[])) (fun x=>True) ?_ sbT sbL ?_
     ·trivial
     intro _ _ ih
     clear ih
     all_goals (refine go ?_;and_intros<;>first|exact trivial|repeat first|intro(Bk:Nat)|intro h)
     all_goals refine ret2b Tryz.func11 Tryz.results11 ?_
     all_goals rfl
    refine J.ownOpen RAt.head (by omega) ?_
    intro gv kv hkv1 hkv2 ev
    subst ev
    try dsimp only
    repeat' first|(refine gp ?_;and_intros<;>first|exact trivial|repeat first|intro(Bk:Nat)|intro h)|(apply G.cV (g:=39);rfl;rfl;exact fun w' _=>dir_holds t w')
    obtain ⟨B17,rfl⟩:∃ x,x=Bk:=⟨_,rfl⟩
    refine J.loop (c:=_) ((0,0):Nat×Rat) (fun x=>rs.length-x.1) (fun x=>[(1,.slice b l.length d),(2,.slice pa ps.length pc),(8,.pointer (some ⟨B8,0,none⟩)),(11,.slice (some ⟨gv,0,none⟩) rs.length kv),(16,.func (.func (isF t)) #[] #[]),(17,.pointer (some ⟨B17,0,none⟩)),(69,.slice a rs.length c),(70,.int .i64 rs.length),(71,.int .i64 x.1)]) (fun x=>.blk B17 25 (qW x.2) 3::.blk gv 82 (flat clS T) (kv*1)::.blk B8 25 [.bool false,.string (bs []),.string (bs [])] 3::(rws (clF w.heap.size) T++[])) (fun x=>x.1<=rs.length/\x.2=valL t l (rs.take x.1) (ps.take x.1)/\SumOk D B (2*tickN (rs.take x.1)) x.2/\∀ i (h1:i < rs.length) (h2:i < ps.length),i < x.1->certB t l rs[i] ps[i]=true) ?_ sbT sbL ?_
    ·exact ⟨Nat.zero_le _,rfl,SumOk.zero D B,fun i _ _ h=>absurd h (Nat.not_lt_zero _)⟩
    intro ⟨k,s⟩ ⟨hkn,hsv,hso,hcw⟩ ihk
    dsimp only at hkn hsv hso hcw ⊢
    by_cases hkk:k < rs.length
    ·have hkp:k < ps.length:=by omega
     have hkT:k < T.length:=by omega
     obtain ⟨ba,oa,rfl,hra⟩:=SlAt.all hA.1 (by omega)
     obtain ⟨bp,op,rfl,hrp⟩:=SlAt.all hP.1 (by omega)
     have hrk:=hra k hkk
     have hpk:=hrp k hkp
     have hm:=List.getElem_mem hkp
     have hmr:=List.getElem_mem hkk
     have hPk:=hP.2 _ hm
     have hTk:=hA.2 _ hmr
     have hr:=hok _ hmr
     have hdr:=hDR (rs[k],ps[k]) (List.mem_iff_getElem.2 ⟨k,by rw [List.length_zip];omega,List.getElem_zip⟩)
     dsimp only at hdr
     have hvr:=valR_ok hr hio hdr
     have hwl:=hwk k hkk hkp
     have hcf:=hcf k hkk hkp
     have htl0:=hM.tab _ hmr
     have hnc:=hM.cls h0 _ hmr
     have hTck:=hTc k hkk hkT
     have hmT:=fun R=>rws_mem (F:=clF w.heap.size) (T:=T) (M0:=R) hkT
     have hdT:(flat clS T)[0+k*1]?=some (.slice (some ⟨T[k].1,T[k].2.1,none⟩) T[k].2.2.2.length T[k].2.2.1):=flat_one (f:=clS) (fun _=>rfl) hkT rfl
     have htk1:=tickN_take rs (k+1)
     have htke:tickN (rs.take (k+1))=tickN (rs.take k)+(rs[k].to_-rs[k].from_).toNat:=by rw [take_snoc hkk,tickN_app,tickN,tickN,Nat.add_zero]
     have ihk:=fun (h:certB t l rs[k] (ps[k]'hkp)=true)=>ihk (k+1,s+valR t l rs[k] (ps[k]'hkp)) ⟨hkk,by dsimp only;rw [valL_take hne hkk,hsv],by dsimp only;rw [htke];exact (hso.add hvr).le (by omega),fun i h1 h2 h3=>by
      by_cases e:i=k
      ·subst e;exact h
      ·exact hcw i h1 h2 (by dsimp only at h3;omega)⟩ (by dsimp only;omega)
     dsimp only at ihk
     have hf:=hM.few
     clear hra hrp hP hfp hvo hm hmr hDR hok hwk hcw hsv hA hM hTc
     generalize rs[k]=r at *
     generalize ps[k]=p at *
     generalize T[k]=te at *
     generalize tickN (rs.take k)=tk at *
     obtain ⟨kb,ko,kc,Lk⟩:=te
     dsimp only at hTck
     subst hTck
     dsimp only [clF] at hmT hdT
     rw [htke] at htk1
     clear htke
     have hrg:=hr.rng
     have hTc:∀ c,c < (clsE r l).length->0 < clsT r l c:=fun c hc=>clsE_pos _ (List.mem_of_getElem? (cls_at0 hc))
     have hTs:iS (clsT r l) (clsE r l).length=r.to_-r.from_:=by rw [sumC_iS,clsE_sum hio hrg.2.1]
     have hTb:∀ c,c < (clsE r l).length->0 < clsT r l c/\clsT r l c<=1402560:=fun c hc=>⟨hTc c hc,by
      have h1:=iS_le1 (f:=clsT r l) (n:=(clsE r l).length) (fun i hi=>Int.le_of_lt (hTc i hi)) c hc
      rw [hTs] at h1
      omega⟩
     dsimp only [rnV,prV] at hrk hpk
     by_cases h0t:r.tab.length=0
     ·have hgp:=hr.gap h0t
      have hg1:=hdr.g h0t
      have hbs:=fun c (hc:c < (clsE r l).length) w' (hb:Below w.heap.size w w')=>best_holds t r (clsAt r l c) (clsT r l c) b l d w' (hB.below hb) hf hR (clsAt_lt0 hc) ⟨hgp.1,by omega⟩ ⟨by omega,hgp.2.2⟩
      have hgc:∀ c,gapC t l r c=endG t (clsG l (clsAt r l c) r.lo) (clsG l (clsAt r l c) r.hi):=fun _=>rfl
      have hvg:valR t l r p=rS' (fun c=>(clsT r l c:Rat)*gapC t l r c) (clsE r l).length:=by unfold valR;rw [if_pos h0t];rfl
      have ihk:=ihk (by unfold certB;rw [decide_eq_true h0t,Bool.true_or])
      rw [hvg] at ihk
      clear hf hB hdr hvr hvg hcf hwl hPk hTk
      unfold rnA at hbs
      repeat' first|(refine gp ?_;and_intros<;>first|exact trivial|repeat first|intro(Bk:Nat)|intro h)|(apply G.ld;rfl;(apply LdV.one;apply CellV.blk;exact mm;exact hdT);rfl)
      obtain ⟨B19,rfl⟩:∃ x,x=Bk:=⟨_,rfl⟩
      refine J.loop (c:=_) ((0,s):Nat×Rat) (fun x=>(clsE r l).length-x.1) (fun x=>[(1,.slice b l.length d),(2,.slice (some ⟨bp,op,none⟩) ps.length pc),(8,.pointer (some ⟨B8,0,none⟩)),(11,.slice (some ⟨gv,0,none⟩) rs.length kv),(16,.func (.func (isF t)) #[] #[]),(17,.pointer (some ⟨B17,0,none⟩)),(18,.int .i64 k),(19,.pointer (some ⟨B19,0,none⟩)),(69,.slice (some ⟨ba,oa,none⟩) rs.length c),(70,.int .i64 rs.length),(71,.int .i64 k),(79,.slice (some ⟨kb,ko,none⟩) (clsE r l).length kc),(80,.int .i64 (clsE r l).length),(81,.int .i64 x.1)]) (fun x=>.blk B19 67 [.int .i64 r.from_,.int .i64 r.to_,.slice r.adr r.tab.length r.cap,.int .i64 r.lo,.int .i64 r.hi] 5::.blk B17 25 (qW x.2) 3::.blk gv 82 (flat clS T) (kv*1)::.blk B8 25 [.bool false,.string (bs []),.string (bs [])] 3::(rws (clF w.heap.size) T++[])) (fun x=>x.1<=(clsE r l).length/\x.2=s+rS' (fun c=>(clsT r l c:Rat)*gapC t l r c) x.1/\SumOk D B (2*tk+(iS (clsT r l) x.1).toNat) x.2) ?_ sbT sbL ?_
      ·exact ⟨Nat.zero_le _,(Rat.add_zero s).symm,hso⟩
      clear hso
      intro ⟨v,s3⟩ ⟨hvn,hs3,hso3⟩ ihv
      dsimp only at hvn hs3 hso3 ⊢
      by_cases hvv:v < (clsE r l).length
      ·clear ihk
       have hT0:=Int.le_of_lt (hTc v hvv)
       have hT2:=(hTb v hvv).2
       have hnn:=iS_nn (f:=clsT r l) (n:=v) fun i hi=>Int.le_of_lt (hTc i (by omega))
       have hle:iS (clsT r l) (v+1)<=r.to_-r.from_:=by
        rw [<- hTs]
        exact iS_le2 (fun i hi=>Int.le_of_lt (hTc i hi)) hvv
       have hok1:=tms_ok (hg1 v hvv) hT0
       have hok2:=hso3.add hok1
       have hst:iS (clsT r l) (v+1)=iS (clsT r l) v+clsT r l v:=rfl
       have hto:(iS (clsT r l) (v+1)).toNat=(iS (clsT r l) v).toNat+(clsT r l v).toNat:=by rw [hst,Int.toNat_add hnn hT0]
       have htm:=tms_holds (n:=clsT r l v) (x:=gapC t l r v) (by omega) (by omega) (hDK.big (hg1 v hvv) (by decide))
       have b1:=hDK.big hso3 (by omega)
       have b2:=hDK.big hok1 (by omega)
       have b3:=hDK.big hok2 (by omega)
       have ihv:=ihv (v+1,s3+(clsT r l v:Rat)*gapC t l r v) ⟨hvv,by dsimp only;rw [hs3,rS',Rat.add_assoc],by dsimp only;rw [hto];exact hok2.le (by omega)⟩ (by dsimp only;omega)
       dsimp only at ihv
       have hx:=cls_at0 hvv
       have hbs:=hbs v hvv
       rw [<- hgc] at hbs
       clear hok1 hok2 hso3 hs3 hg1 hgc hTs hTb hTc hto hst hle hnn
       have hpl:=fun (M:List Row) w' (hw':Sat w M w') Bq Eq tq hm=>pls2 (B:=Bq) (E:=Eq) (tot:=tq) hw' rfl rfl b1 b2 b3 hm
       clear b1 b2 b3
       dsimp only [qW,qV] at ihv ⊢
       generalize rQ (s3+(clsT r l v:Rat)*gapC t l r v)=q1 at *
       generalize rQ ((clsT r l v:Rat)*gapC t l r v)=q2 at *
       generalize rQ s3=q3 at *
       generalize rQ (gapC t l r v)=q4 at *
       obtain ⟨n1,u1,d1⟩:=q1
       obtain ⟨n2,u2,d2⟩:=q2
       obtain ⟨n3,u3,d3⟩:=q3
       obtain ⟨n4,u4,d4⟩:=q4
       dsimp only [qA] at htm hbs hpl ihv ⊢
       repeat' first|(refine gp ?_;and_intros<;>first|exact trivial|repeat first|intro(Bk:Nat)|intro h)|(apply G.ld;rfl;exact LdV.slV (f:=hoV) (N:=w.heap.size) (.agg #[.int .i64 (clsAt r l v),.int .i64 (clsT r l v)]) hx (by (repeat (first|exact hmT _|apply List.Mem.tail))) rfl rfl;rfl)|(apply J.regA (.q 0 <| .q 1 <| .q 2 <| .q 3 <| .q 4 <| .q 5 <| .q 6 <| .q 7 <| .q 8 <| .r 9 <| .q 10 <| .r 11 <| .nil);exact Tryz.mixed;decide +kernel)|(apply G.cV (g:=42);rfl;rfl;exact fun w' hw=>hbs w' hw.below)|(apply G.cV (g:=41);rfl;rfl;exact fun w' _=>htm w')|(apply G.sliceL;rfl;rfl;rfl;rfl;rfl;rfl;rfl;rfl;intro Bs)|(apply G.cV (g:=40);rfl;rfl;exact fun w' hw'=>hpl _ w' hw' _ _ _ (by exact mm))
       exact J.finS ihv
      ·obtain rfl:v=(clsE r l).length:=by omega
       rw [<- hs3] at ihk
       clear ihv
       all_goals (refine go ?_;and_intros<;>first|exact trivial|repeat first|intro(Bk:Nat)|intro h)
       refine J.loop (c:=_) (0:Nat) (fun x=>0) (fun x=>[(1,.slice b l.length d),(2,.slice (some ⟨bp,op,none⟩) ps.length pc),(8,.pointer (some ⟨B8,0,none⟩)),(11,.slice (some ⟨gv,0,none⟩) rs.length kv),(16,.func (.func (isF t)) #[] #[]),(17,.pointer (some ⟨B17,0,none⟩)),(18,.int .i64 k),(69,.slice (some ⟨ba,oa,none⟩) rs.length c),(70,.int .i64 rs.length),(71,.int .i64 k),(153,.int .i64 r.tab.length),(154,.int .i64 0)]) (fun x=>.blk B17 25 (qW s3) 3::.blk gv 82 (flat clS T) (kv*1)::.blk B8 25 [.bool false,.string (bs []),.string (bs [])] 3::(rws (clF w.heap.size) T++[])) (fun x=>True) ?_ sbT sbL ?_
       ·trivial
       intro _ _ ih
       clear ih
       all_goals (refine go ?_;and_intros<;>first|exact trivial|repeat first|intro(Bk:Nat)|intro h)
       exact J.finS ihk
     ·obtain ⟨hw1,hw2,hw3,hw4⟩:=(well_iff h0t).1 hwl
      have htb:=hr.tab h0t
      have hts:∀ s,s < r.tab.length->0<=tbS r s/\tbS r s<=1000:=fun s hs=>htb.2.2.2 _ (tbS_mem hs)
      have htT:∀ s,s < r.tab.length->0<=tbT r s:=fun s hs=>by have:=htb.2.1 _ (tbS_mem hs);dsimp only at this;omega
      have htT2:∀ s,s < r.tab.length->tbT r s<=1402560:=fun s hs=>by
       have h1:=iS_le1 (f:=tbT r) (n:=r.tab.length) (fun i hi=>htT i hi) s hs
       rw [sumT_iS,htb.2.2.1] at h1
       omega
      have htS:iS (tbT r) r.tab.length=r.to_-r.from_:=by rw [sumT_iS,htb.2.2.1]
      have hci:=cert_iff (t:=t) (l:=l) (r:=r) (p:=p)
      have hra:=fun c (hc:c < (clsE r l).length) s (hs:s < r.tab.length) w' (hb:Below w.heap.size w w')=>prate_holds (clsAt r l c) (clsT r l c) (tbS r s) b l d w' (hB.below hb) hf hR (clsAt_lt0 hc) (hts s hs)
      have hgf:=fun c s (hs:s < r.tab.length)=>fewQ_clsG (l:=l) (p:=clsAt r l c) hf hR (hts s hs)
      have hgt:∀ s c,gT l r s c=clsG l (clsAt r l c) (tbS r s):=fun _ _=>rfl
      have hvg:valR t l r p=rS' (fun i=>(tbT r i:Rat)*uP p i) r.tab.length+rS' (fun i=>(clsT r l i:Rat)*vP p i) (clsE r l).length:=by unfold valR;rw [if_neg h0t];rfl
      have hdu:=hdr.u h0t
      have hdv:=hdr.v h0t
      obtain ⟨bt,ot,hadr,hrT⟩:=SlAt.all hTk (by omega)
      obtain ⟨sb,so,hsa,hrS⟩:=SlAt.all hPk.1 (by omega)
      have hcn0:=clsE_len hio hrg.2.1
      obtain ⟨cb,co,hca,hrC⟩:=SlAt.all hPk.2 (by omega)
      have hrT2:∀ s,s < r.tab.length->RowAt w bt (ot+s*2) [.int .i64 (tbS r s),.int .i64 (tbT r s)]:=fun s h=>by
       have h1:=hrT s h
       rw [show r.tab[s]=(tbS r s,tbT r s) from by rw [tbS,tbT,List.getD_eq_getElem?_getD,List.getElem?_eq_getElem h];rfl] at h1
       exact h1
      have hrS2:∀ s,s < p.st.length->RowAt w sb (so+s*3) (qV (rQ (uP p s))):=fun s h=>by
       have h1:=hrS s h
       rw [uP_at h hw3] at h1
       exact h1
      have hrC2:∀ s,s < p.cl.length->RowAt w cb (co+s*3) (qV (rQ (vP p s))):=fun s h=>by
       have h1:=hrC s h
       rw [vP_at h hw4] at h1
       exact h1
      rw [hadr] at hrk
      rw [hsa,hca] at hpk
      have ihk:=fun h=>ihk h
      rw [hvg] at ihk
      clear hB hf hTk hPk hwl hdr hvr hrT hrS hrC hw3 hw4 htb hts hvg
      repeat' first|(refine gp ?_;and_intros<;>first|exact trivial|repeat first|intro(Bk:Nat)|intro h)|(apply G.ld;rfl;(apply LdV.one;apply CellV.blk;exact mm;exact hdT);rfl)
      obtain ⟨B19,rfl⟩:∃ x,x=Bk:=⟨_,rfl⟩
      refine J.loop (c:=_) ((0,s):Nat×Rat) (fun x=>(clsE r l).length-x.1) (fun x=>[(1,.slice b l.length d),(2,.slice (some ⟨bp,op,none⟩) ps.length pc),(8,.pointer (some ⟨B8,0,none⟩)),(11,.slice (some ⟨gv,0,none⟩) rs.length kv),(16,.func (.func (isF t)) #[] #[]),(17,.pointer (some ⟨B17,0,none⟩)),(18,.int .i64 k),(19,.pointer (some ⟨B19,0,none⟩)),(69,.slice (some ⟨ba,oa,none⟩) rs.length c),(70,.int .i64 rs.length),(71,.int .i64 k),(79,.slice (some ⟨kb,ko,none⟩) (clsE r l).length kc),(80,.int .i64 (clsE r l).length),(81,.int .i64 x.1)]) (fun x=>.blk B19 67 [.int .i64 r.from_,.int .i64 r.to_,.slice (some ⟨bt,ot,none⟩) r.tab.length r.cap,.int .i64 r.lo,.int .i64 r.hi] 5::.blk B17 25 (qW x.2) 3::.blk gv 82 (flat clS T) (kv*1)::.blk B8 25 [.bool false,.string (bs []),.string (bs [])] 3::(rws (clF w.heap.size) T++[])) (fun x=>x.1<=(clsE r l).length/\x.2=s+rS' (fun c=>(clsT r l c:Rat)*vP p c) x.1/\SumOk D B (2*tk+(iS (clsT r l) x.1).toNat) x.2/\∀ i j,i < r.tab.length->j < x.1->sgR t (uP p i+vP p j)<=sgR t (gT l r i j)) ?_ sbT sbL ?_
      ·exact ⟨Nat.zero_le _,(Rat.add_zero s).symm,hso,fun i j _ h=>absurd h (Nat.not_lt_zero _)⟩
      clear hso
      intro ⟨v,s3⟩ ⟨hvn,hs3,hso3,hce⟩ ihv
      dsimp only at hvn hs3 hso3 hce ⊢
      by_cases hvv:v < (clsE r l).length
      ·clear ihk
       have hx:=cls_at0 hvv
       have hT0:=Int.le_of_lt (hTc v hvv)
       have hT2:=(hTb v hvv).2
       have hnn:=iS_nn (f:=clsT r l) (n:=v) fun i hi=>Int.le_of_lt (hTc i (by omega))
       have hle:iS (clsT r l) (v+1)<=r.to_-r.from_:=by
        rw [<- hTs]
        exact iS_le2 (fun i hi=>Int.le_of_lt (hTc i hi)) hvv
       have hst:iS (clsT r l) (v+1)=iS (clsT r l) v+clsT r l v:=rfl
       have hto:(iS (clsT r l) (v+1)).toNat=(iS (clsT r l) v).toNat+(clsT r l v).toNat:=by rw [hst,Int.toNat_add hnn hT0]
       have hok1:=tms_ok (hdv v hvv) hT0
       have hok2:=hso3.add hok1
       have hrv:=hrC2 v (by omega)
       have ihv:=fun (h:∀ i,i < r.tab.length->sgR t (uP p i+vP p v)<=sgR t (gT l r i v))=>ihv (v+1,s3+(clsT r l v:Rat)*vP p v) ⟨hvv,by dsimp only;rw [hs3,rS',Rat.add_assoc],by dsimp only;rw [hto];exact hok2.le (by omega),fun i j hi hj=>by
        dsimp only at hj
        by_cases e:j=v
        ·subst e;exact h i hi
        ·exact hce i j hi (by omega)⟩ (by dsimp only;omega)
       dsimp only at ihv
       clear hs3 hce
       repeat' first|(refine gp ?_;and_intros<;>first|exact trivial|repeat first|intro(Bk:Nat)|intro h)|(apply G.ld;rfl;exact LdV.slV (f:=hoV) (N:=w.heap.size) (.agg #[.int .i64 (clsAt r l v),.int .i64 (clsT r l v)]) hx (by (repeat (first|exact hmT _|apply List.Mem.tail))) rfl rfl;rfl)
       obtain ⟨B21,rfl⟩:∃ x,x=Bk:=⟨_,rfl⟩
       refine J.loop (c:=_) (0:Nat) (fun x=>r.tab.length-x) (fun x=>[(1,.slice b l.length d),(2,.slice (some ⟨bp,op,none⟩) ps.length pc),(8,.pointer (some ⟨B8,0,none⟩)),(11,.slice (some ⟨gv,0,none⟩) rs.length kv),(16,.func (.func (isF t)) #[] #[]),(17,.pointer (some ⟨B17,0,none⟩)),(18,.int .i64 k),(19,.pointer (some ⟨B19,0,none⟩)),(20,.int .i64 v),(21,.pointer (some ⟨B21,0,none⟩)),(69,.slice (some ⟨ba,oa,none⟩) rs.length c),(70,.int .i64 rs.length),(71,.int .i64 k),(79,.slice (some ⟨kb,ko,none⟩) (clsE r l).length kc),(80,.int .i64 (clsE r l).length),(81,.int .i64 v),(102,.slice (some ⟨bt,ot,none⟩) r.tab.length r.cap),(103,.int .i64 r.tab.length),(104,.int .i64 x)]) (fun x=>.blk B21 90 [.int .i64 (clsAt r l v),.int .i64 (clsT r l v)] 2::.blk B19 67 [.int .i64 r.from_,.int .i64 r.to_,.slice (some ⟨bt,ot,none⟩) r.tab.length r.cap,.int .i64 r.lo,.int .i64 r.hi] 5::.blk B17 25 (qW s3) 3::.blk gv 82 (flat clS T) (kv*1)::.blk B8 25 [.bool false,.string (bs []),.string (bs [])] 3::(rws (clF w.heap.size) T++[])) (fun x=>x<=r.tab.length/\∀ i,i < x->sgR t (uP p i+vP p v)<=sgR t (gT l r i v)) ?_ sbT sbL ?_
       ·exact ⟨Nat.zero_le _,fun i h=>absurd h (Nat.not_lt_zero _)⟩
       intro u ⟨hun,hcu⟩ ihu
       by_cases huu:u < r.tab.length
       ·clear ihv
        have hrt:=hrT2 u huu
        have hru:=hrS2 u (by omega)
        have hra:=hra v hvv u huu
        rw [<- hgt] at hra
        have b1:=hDK.big (hdu u huu) (by decide)
        have b2:=hDK.big (hdv v hvv) (by decide)
        have b3:=hDK.big ((hdu u huu).add (hdv v hvv)) (by decide)
        have hpl:=fun (M:List Row) w' (hw':Sat w M w') Bq Eq tq hm=>pls2 (B:=Bq) (E:=Eq) (tot:=tq) hw' rfl rfl b1 b2 b3 hm
        have b4:big (gT l r u v):=by rw [hgt];exact fewQ.big (hgf v u huu) (by decide)
        have his:=is_hold t b4 b3
        have ihu:=fun h=>ihu (u+1) ⟨huu,fun i hi=>by
         by_cases e:i=u
         ·subst e;exact h
         ·exact hcu i (by omega)⟩ (by omega)
        have hbad:sgR t (gT l r u v) < sgR t (uP p u+vP p v)->valE t rs l ps=(zero3,22):=fun h=>hcf (by
         cases hb:certB t l r p with
         | false=>rfl
         | true=>exact absurd (hci.1 hb h0t u v huu hvv) (Rat.not_le.2 h))
        clear b1 b2 b3 b4 hok1 hok2 hso3 hdu hdv hrT2 hrS2 hrC2 hgf hgt hcu hci hcf htT htT2 hDK
        by_cases hlt:sgR t (gT l r u v) < sgR t (uP p u+vP p v)
        ·rw [hbad hlt]
         rw [decide_eq_true hlt] at his
         clear ihu hbad hlt
         dsimp only [qV,qW] at hru hrv ⊢
         generalize rQ (uP p u+vP p v)=q1 at *
         generalize rQ (uP p u)=q2 at *
         generalize rQ (vP p v)=q3 at *
         generalize rQ (gT l r u v)=q4 at *
         generalize rQ s3=q5 at *
         obtain ⟨n1,u1,d1⟩:=q1
         obtain ⟨n2,u2,d2⟩:=q2
         obtain ⟨n3,u3,d3⟩:=q3
         obtain ⟨n4,u4,d4⟩:=q4
         dsimp only [qA] at hra his hpl hru hrv ⊢
         repeat' first|(refine gp ?_;and_intros<;>first|exact trivial|repeat first|intro(Bk:Nat)|intro h)|(apply J.regA (.q 0 <| .q 1 <| .q 2 <| .q 3 <| .q 4 <| .q 5 <| .q 6 <| .q 7 <| .q 8 <| .q 9 <| .q 10 <| .q 11 <| .q 12 <| .q 13 <| .q 14 <| .q 15 <| .q 16 <| .q 17 <| .q 18 <| .q 19 <| .q 20 <| .q 21 <| .e 22 <| .q 23 <| .q 24 <| .nil);exact Tryz.mixed;decide +kernel)|(apply G.cV (g:=43);rfl;rfl;exact fun w' hw=>hra w' hw.below)|(apply G.sliceL;rfl;rfl;rfl;rfl;rfl;rfl;rfl;rfl;intro Bs)|(apply G.cV (g:=40);rfl;rfl;exact fun w' hw'=>hpl _ w' hw' _ _ _ (by exact mm))|(apply G.cF (g:=isF t);rfl;rfl;rfl;exact fun w' _=>his w')
         all_goals refine ret2b Tryz.func11 Tryz.results11 ?_
         all_goals rfl
        ·have ihu:=ihu (Rat.not_lt.1 hlt)
         rw [decide_eq_false hlt] at his
         clear hbad hlt
         dsimp only [qV,qW] at hru hrv ihu ⊢
         generalize rQ (uP p u+vP p v)=q1 at *
         generalize rQ (uP p u)=q2 at *
         generalize rQ (vP p v)=q3 at *
         generalize rQ (gT l r u v)=q4 at *
         generalize rQ s3=q5 at *
         obtain ⟨n1,u1,d1⟩:=q1
         obtain ⟨n2,u2,d2⟩:=q2
         obtain ⟨n3,u3,d3⟩:=q3
         obtain ⟨n4,u4,d4⟩:=q4
         dsimp only [qA] at hra his hpl hru hrv ihu ⊢
         repeat' first|(refine gp ?_;and_intros<;>first|exact trivial|repeat first|intro(Bk:Nat)|intro h)|(apply J.regA (.q 0 <| .q 1 <| .q 2 <| .q 3 <| .q 4 <| .q 5 <| .q 6 <| .q 7 <| .q 8 <| .q 9 <| .q 10 <| .q 11 <| .q 12 <| .q 13 <| .q 14 <| .q 15 <| .q 16 <| .q 17 <| .q 18 <| .q 19 <| .q 20 <| .q 21 <| .e 22 <| .q 23 <| .q 24 <| .nil);exact Tryz.mixed;decide +kernel)|(apply G.cV (g:=43);rfl;rfl;exact fun w' hw=>hra w' hw.below)|(apply G.sliceL;rfl;rfl;rfl;rfl;rfl;rfl;rfl;rfl;intro Bs)|(apply G.cV (g:=40);rfl;rfl;exact fun w' hw'=>hpl _ w' hw' _ _ _ (by exact mm))|(apply G.cF (g:=isF t);rfl;rfl;rfl;exact fun w' _=>his w')
         exact J.finS ihu
       ·obtain rfl:u=r.tab.length:=by omega
        have ihv:=ihv hcu
        clear ihu hcu
        have htm:=tms_holds (n:=clsT r l v) (x:=vP p v) (by omega) (by omega) (hDK.big (hdv v hvv) (by decide))
        have b1:=hDK.big hso3 (by omega)
        have b2:=hDK.big hok1 (by omega)
        have b3:=hDK.big hok2 (by omega)
        have hpl:=fun (M:List Row) w' (hw':Sat w M w') Bq Eq tq hm=>pls2 (B:=Bq) (E:=Eq) (tot:=tq) hw' rfl rfl b1 b2 b3 hm
        clear b1 b2 b3 hok1 hok2 hso3 hdu hdv hrT2 hrS2 hrC2 hgf hgt hci hcf htT htT2 hDK hra
        dsimp only [qV,qW] at hrv ihv ⊢
        generalize rQ (s3+(clsT r l v:Rat)*vP p v)=q1 at *
        generalize rQ ((clsT r l v:Rat)*vP p v)=q2 at *
        generalize rQ s3=q3 at *
        generalize rQ (vP p v)=q4 at *
        obtain ⟨n1,u1,d1⟩:=q1
        obtain ⟨n2,u2,d2⟩:=q2
        obtain ⟨n3,u3,d3⟩:=q3
        obtain ⟨n4,u4,d4⟩:=q4
        dsimp only [qA] at htm hpl hrv ihv ⊢
        repeat' first|(refine gp ?_;and_intros<;>first|exact trivial|repeat first|intro(Bk:Nat)|intro h)|(apply J.regA (.q 0 <| .q 1 <| .q 2 <| .q 3 <| .q 4 <| .q 5 <| .q 6 <| .q 7 <| .q 8 <| .q 9 <| .q 10 <| .q 11 <| .r 12 <| .q 13 <| .r 14 <| .nil);exact Tryz.mixed;decide +kernel)|(apply G.cV (g:=41);rfl;rfl;exact fun w' _=>htm w')|(apply G.sliceL;rfl;rfl;rfl;rfl;rfl;rfl;rfl;rfl;intro Bs)|(apply G.cV (g:=40);rfl;rfl;exact fun w' hw'=>hpl _ w' hw' _ _ _ (by exact mm))
        exact J.finS ihv
      ·obtain rfl:v=(clsE r l).length:=by omega
       clear ihv
       have ihk:=ihk (hci.2 fun _ s c h1 h2=>hce s c h1 h2)
       rw [hTs] at hso3
       clear hce hcf hci hra hgf hgt
       all_goals (refine go ?_;and_intros<;>first|exact trivial|repeat first|intro(Bk:Nat)|intro h)
       refine J.loop (c:=_) ((0,s3):Nat×Rat) (fun x=>r.tab.length-x.1) (fun x=>[(1,.slice b l.length d),(2,.slice (some ⟨bp,op,none⟩) ps.length pc),(8,.pointer (some ⟨B8,0,none⟩)),(11,.slice (some ⟨gv,0,none⟩) rs.length kv),(16,.func (.func (isF t)) #[] #[]),(17,.pointer (some ⟨B17,0,none⟩)),(18,.int .i64 k),(69,.slice (some ⟨ba,oa,none⟩) rs.length c),(70,.int .i64 rs.length),(71,.int .i64 k),(152,.slice (some ⟨bt,ot,none⟩) r.tab.length r.cap),(153,.int .i64 r.tab.length),(154,.int .i64 x.1)]) (fun x=>.blk B17 25 (qW x.2) 3::.blk gv 82 (flat clS T) (kv*1)::.blk B8 25 [.bool false,.string (bs []),.string (bs [])] 3::(rws (clF w.heap.size) T++[])) (fun x=>x.1<=r.tab.length/\x.2=s3+rS' (fun i=>(tbT r i:Rat)*uP p i) x.1/\SumOk D B (2*tk+(r.to_-r.from_).toNat+(iS (tbT r) x.1).toNat) x.2) ?_ sbT sbL ?_
       ·exact ⟨Nat.zero_le _,(Rat.add_zero s3).symm,hso3⟩
       clear hso3
       intro ⟨u,s4⟩ ⟨hun,hs4,hso4⟩ ihu
       dsimp only at hun hs4 hso4 ⊢
       by_cases huu:u < r.tab.length
       ·clear ihk
        have hrt:=hrT2 u huu
        have hrs:=hrS2 u (by omega)
        have hT0:=htT u huu
        have hT2:=htT2 u huu
        have hnn:=iS_nn (f:=tbT r) (n:=u) fun i hi=>htT i (by omega)
        have hle:iS (tbT r) (u+1)<=r.to_-r.from_:=by
         rw [<- htS]
         exact iS_le2 htT huu
        have hok1:=tms_ok (hdu u huu) hT0
        have hok2:=hso4.add hok1
        have hst:iS (tbT r) (u+1)=iS (tbT r) u+tbT r u:=rfl
        have hto:(iS (tbT r) (u+1)).toNat=(iS (tbT r) u).toNat+(tbT r u).toNat:=by rw [hst,Int.toNat_add hnn hT0]
        have htm:=tms_holds (n:=tbT r u) (x:=uP p u) (by omega) (by omega) (hDK.big (hdu u huu) (by decide))
        have b1:=hDK.big hso4 (by omega)
        have b2:=hDK.big hok1 (by omega)
        have b3:=hDK.big hok2 (by omega)
        have hpl:=fun (M:List Row) w' (hw':Sat w M w') Bq Eq tq hm=>pls2 (B:=Bq) (E:=Eq) (tot:=tq) hw' rfl rfl b1 b2 b3 hm
        have ihu:=ihu (u+1,s4+(tbT r u:Rat)*uP p u) ⟨huu,by dsimp only;rw [hs4,rS',Rat.add_assoc],by dsimp only;rw [hto];exact hok2.le (by omega)⟩ (by dsimp only;omega)
        dsimp only at ihu
        clear b1 b2 b3 hok1 hok2 hso4 hs4 hs3 hdu hdv hrT2 hrS2 hrC2 htT htT2 hDK
        dsimp only [qW,qV] at hrs ihu ⊢
        generalize rQ (s4+(tbT r u:Rat)*uP p u)=q1 at *
        generalize rQ ((tbT r u:Rat)*uP p u)=q2 at *
        generalize rQ s4=q3 at *
        generalize rQ (uP p u)=q4 at *
        obtain ⟨n1,u1,d1⟩:=q1
        obtain ⟨n2,u2,d2⟩:=q2
        obtain ⟨n3,u3,d3⟩:=q3
        obtain ⟨n4,u4,d4⟩:=q4
        dsimp only [qA] at htm hpl hrs ihu ⊢
        repeat' first|(refine gp ?_;and_intros<;>first|exact trivial|repeat first|intro(Bk:Nat)|intro h)|(apply J.regA (.q 0 <| .q 1 <| .q 2 <| .q 3 <| .q 4 <| .q 5 <| .q 6 <| .q 7 <| .q 8 <| .q 9 <| .q 10 <| .q 11 <| .r 12 <| .q 13 <| .r 14 <| .nil);exact Tryz.mixed;decide +kernel)|(apply G.cV (g:=41);rfl;rfl;exact fun w' _=>htm w')|(apply G.sliceL;rfl;rfl;rfl;rfl;rfl;rfl;rfl;rfl;intro Bs)|(apply G.cV (g:=40);rfl;rfl;exact fun w' hw'=>hpl _ w' hw' _ _ _ (by exact mm))
        exact J.finS ihu
       ·obtain rfl:u=r.tab.length:=by omega
        clear ihu
        rw [Rat.add_comm (rS' _ r.tab.length),<- Rat.add_assoc,<- hs3,<- hs4] at ihk
        all_goals (refine go ?_;and_intros<;>first|exact trivial|repeat first|intro(Bk:Nat)|intro h)
        exact J.finS ihk
    ·obtain rfl:k=rs.length:=by omega
     rw [List.take_length,List.take_of_length_le (by omega)] at hsv
     rw [hvo fun i h1 h2=>hcw i h1 h2 h1,<- hsv]
     clear ihk hvo hcf hcw hsv hso
     dsimp only [qW,qV]
     generalize rQ s=q1
     obtain ⟨n1,u1,d1⟩:=q1
     all_goals (refine go ?_;and_intros<;>first|exact trivial|repeat first|intro(Bk:Nat)|intro h)
     all_goals refine ret2b Tryz.func11 Tryz.results11 ?_
     all_goals rfl
  ·have e:valE t rs l ps=(zero3,1):=by
    unfold valE;rw [if_neg (fun h=>h h0),if_pos hne]
   rw [e]
   rw [h0] at hck
   clear hA hB hM hP hfp hD e
   refine enterA [(0,.slice a rs.length c),(1,.slice b l.length d),(2,.slice pa ps.length pc),(3,.bool t)] Tryz.func11 Tryz.ntmps11 ?_
   repeat' first|(refine gp ?_;and_intros<;>first|exact trivial|repeat first|intro(Bk:Nat)|intro h)|(apply G.cV (g:=36);rfl;rfl;exact fun w' hw=>hck w' hw.below)
   all_goals refine ret2b Tryz.func11 Tryz.results11 ?_
   all_goals rfl
 ·have e:valE t rs l ps=(zero3,chkE rs l):=by
   unfold valE;rw [if_pos h0]
  rw [e]
  clear hA hB hM hP hfp hD e
  generalize chkE rs l=E at *
  refine enterA [(0,.slice a rs.length c),(1,.slice b l.length d),(2,.slice pa ps.length pc),(3,.bool t)] Tryz.func11 Tryz.ntmps11 ?_
  repeat' first|(refine gp ?_;and_intros<;>first|exact trivial|repeat first|intro(Bk:Nat)|intro h)|(apply G.cV (g:=36);rfl;rfl;exact fun w' hw=>hck w' hw.below)
  all_goals refine ret2b Tryz.func11 Tryz.results11 ?_
  all_goals rfl
structure ShM where
 la:Option Addr
 lc:Nat
 ha:Option Addr
 hc:Nat
 pa:Option Addr
 pc:Nat
 qa:Option Addr
 qc:Nat
def shA (s:Shp) (m:ShM):Value:=.agg #[.bool s.lo.neg,.string (bs s.lo.num),.string (bs s.lo.den),.bool s.hi.neg,.string (bs s.hi.num),.string (bs s.hi.den),.int .i64 s.lf,.slice m.la s.ls.length m.lc,.int .i64 s.hf,.slice m.ha s.hs.length m.hc,.slice m.pa s.lp.length m.pc,.slice m.qa s.hp.length m.qc]
set_option maxHeartbeats 8000000 in
theorem pholds_holds (a:Option Addr) (rs:List Rn) (c:Nat) (b:Option Addr) (l:List Spn) (d:Nat) (s:Shp) (m:ShM) (w:World)
  (hv1:∀ w',Below w.heap.size w w'->Calls Tryz.prog 11 #[.slice a rs.length c,.slice b l.length d,.slice m.pa s.lp.length m.pc,.bool false] w' fun e w''=>e=.returned (.tuple #[qA (valE false rs l s.lp).1,.int .i64 (valE false rs l s.lp).2])/\Below w'.heap.size w' w'')
  (hv2:∀ w',Below w.heap.size w w'->Calls Tryz.prog 11 #[.slice a rs.length c,.slice b l.length d,.slice m.qa s.hp.length m.qc,.bool true] w' fun e w''=>e=.returned (.tuple #[qA (valE true rs l s.hp).1,.int .i64 (valE true rs l s.hp).2])/\Below w'.heap.size w' w'')
  (hf1:fewQ 60000000 (valE false rs l s.lp).1) (hf2:fewQ 60000000 (valE true rs l s.hp).1) (hf3:fewQ 60000000 s.lo) (hf4:fewQ 60000000 s.hi) :
  Calls Tryz.prog 13 #[.slice a rs.length c,.slice b l.length d,shA s m] w fun e w'=>e=.returned (.bool (holdB rs l s))/\Below w.heap.size w w':=by
 have hc1:=fun w'=>ratCmp_holds (valE false rs l s.lp).1 s.lo w' (by have:=hf1.1;omega) (by have:=hf1.2;omega) (by have:=hf3.1;omega) (by have:=hf3.2;omega)
 have hc2:=fun w'=>ratCmp_holds (valE true rs l s.hp).1 s.hi w' (by have:=hf2.1;omega) (by have:=hf2.2;omega) (by have:=hf4.1;omega) (by have:=hf4.2;omega)
 unfold holdB shA
 obtain ⟨lo,hi,lf,ls,hf,hs,lp,hp⟩:=s
 obtain ⟨la,lc,ha,hc,pa,pc,qa,qc⟩:=m
 dsimp only at *
 clear hf1 hf2 hf3 hf4
 generalize sgnR (qR (valE false rs l lp).1-qR lo)=g1 at *
 generalize sgnR (qR (valE true rs l hp).1-qR hi)=g2 at *
 generalize valE false rs l lp=x1 at *
 generalize valE true rs l hp=x2 at *
 generalize ls.length=ll at *
 generalize hs.length=hl at *
 generalize lp.length=pl at *
 generalize hp.length=ql at *
 obtain ⟨⟨u3,n3,d3⟩,e1⟩:=x1
 obtain ⟨⟨u4,n4,d4⟩,e2⟩:=x2
 obtain ⟨u1,n1,d1⟩:=lo
 obtain ⟨u2,n2,d2⟩:=hi
 dsimp only [qA] at hv1 hv2 hc1 hc2 ⊢
 by_cases h1:e1=0
 all_goals by_cases h2:e2=0
 all_goals by_cases h3:0<=g1
 all_goals by_cases h4:g2<=0
 all_goals
  refine enterA [(0,.slice a rs.length c),(1,.slice b l.length d),(2,.agg #[.bool u1,.string (bs n1),.string (bs d1),.bool u2,.string (bs n2),.string (bs d2),.int .i64 lf,.slice la ll lc,.int .i64 hf,.slice ha hl hc,.slice pa pl pc,.slice qa ql qc])] Tryz.func13 Tryz.ntmps13 ?_
  repeat' first|(refine gp ?_;and_intros<;>first|exact trivial|repeat first|intro(Bk:Nat)|intro h)|(apply G.cV (g:=11) (d:=16);rfl;rfl;exact fun w' hw=>hv1 w' hw.below)|(apply G.cV (g:=11) (d:=24);rfl;rfl;exact fun w' hw=>hv2 w' hw.below)|(apply G.cV (g:=22) (d:=38);rfl;rfl;exact fun w' _=>hc1 w')|(apply G.cV (g:=22) (d:=46);rfl;rfl;exact fun w' _=>hc2 w')
  all_goals refine ret1b Tryz.func13 Tryz.results13 ?_
  all_goals exact ret_bool (by simp [h1,h2,h3,h4])
set_option maxHeartbeats 8000000 in
theorem paccept_holds (a:Option Addr) (rs:List Rn) (c:Nat) (b:Option Addr) (l:List Spn) (d:Nat) (s:Shp) (m:ShM) (w:World)
  (h1:∀ w',Below w.heap.size w w'->Calls Tryz.prog 13 #[.slice a rs.length c,.slice b l.length d,shA s m] w' fun e w''=>e=.returned (.bool (holdB rs l s))/\Below w'.heap.size w' w'')
  (h2:∀ w',Below w.heap.size w w'->Calls Tryz.prog 15 #[.slice a rs.length c,.slice b l.length d,shA s m] w' fun e w''=>e=.returned (.bool (attB rs l s))/\Below w'.heap.size w' w'') :
  Calls Tryz.prog 17 #[.slice a rs.length c,.slice b l.length d,shA s m] w fun e w'=>e=.returned (.bool (accB rs l s))/\Below w.heap.size w w':=by
 unfold accB
 generalize holdB rs l s=g1 at *
 generalize attB rs l s=g2 at *
 unfold shA at *
 obtain ⟨lo,hi,lf,ls,hf,hs,lp,hp⟩:=s
 obtain ⟨la,lc,ha,hc,pa,pc,qa,qc⟩:=m
 dsimp only at *
 generalize ls.length=ll at *
 generalize hs.length=hl at *
 generalize lp.length=pl at *
 generalize hp.length=ql at *
 generalize rs.length=n at *
 generalize l.length=nl at *
 obtain ⟨u1,n1,d1⟩:=lo
 obtain ⟨u2,n2,d2⟩:=hi
 cases g1
 all_goals cases g2
 all_goals
  refine enterA [(0,.slice a n c),(1,.slice b nl d),(2,.agg #[.bool u1,.string (bs n1),.string (bs d1),.bool u2,.string (bs n2),.string (bs d2),.int .i64 lf,.slice la ll lc,.int .i64 hf,.slice ha hl hc,.slice pa pl pc,.slice qa ql qc])] Tryz.func17 Tryz.ntmps17 ?_
  repeat' first|(refine gp ?_;and_intros<;>first|exact trivial|repeat first|intro(Bk:Nat)|intro h)|(apply G.cV (g:=13);rfl;rfl;exact fun w' hw=>h1 w' hw.below)|(apply G.cV (g:=15);rfl;rfl;exact fun w' hw=>h2 w' hw.below)
  all_goals refine ret1b Tryz.func17 Tryz.results17 ?_
  all_goals rfl
set_option maxHeartbeats 8000000 in
theorem patt_holds (a:Option Addr) (rs:List Rn) (c:Nat) (b:Option Addr) (l:List Spn) (d:Nat) (s:Shp) (m:ShM) (w:World)
  (hck:∀ w',Below w.heap.size w w'->Calls Tryz.prog 36 #[.slice a rs.length c,.slice b l.length d] w' fun e w''=>e=.returned (.int .i64 (chkE rs l))/\Below w'.heap.size w' w'')
  (ha1:∀ w',Below w.heap.size w w'->Calls Tryz.prog 20 #[.slice a rs.length c,.agg #[.int .i64 s.lf,.slice m.la s.ls.length m.lc]] w' fun e w''=>e=.returned (.bool (agreeB rs s.lf s.ls))/\Below w'.heap.size w' w'')
  (ha2:∀ w',Below w.heap.size w w'->Calls Tryz.prog 20 #[.slice a rs.length c,.agg #[.int .i64 s.hf,.slice m.ha s.hs.length m.hc]] w' fun e w''=>e=.returned (.bool (agreeB rs s.hf s.hs))/\Below w'.heap.size w' w'')
  (hv1:∀ w',Below w.heap.size w w'->Calls Tryz.prog 21 #[.agg #[.int .i64 s.lf,.slice m.la s.ls.length m.lc],.slice b l.length d] w' fun e w''=>e=.returned (.tuple #[qA (volE s.lf s.ls l).1,.int .i64 (volE s.lf s.ls l).2])/\Below w'.heap.size w' w'')
  (hv2:∀ w',Below w.heap.size w w'->Calls Tryz.prog 21 #[.agg #[.int .i64 s.hf,.slice m.ha s.hs.length m.hc],.slice b l.length d] w' fun e w''=>e=.returned (.tuple #[qA (volE s.hf s.hs l).1,.int .i64 (volE s.hf s.hs l).2])/\Below w'.heap.size w' w'') :
  Calls Tryz.prog 15 #[.slice a rs.length c,.slice b l.length d,shA s m] w fun e w'=>e=.returned (.bool (attB rs l s))/\Below w.heap.size w w':=by
 unfold attB shA
 obtain ⟨lo,hi,lf,ls,hf,hs,lp,hp⟩:=s
 obtain ⟨la,lc,ha,hc,pa,pc,qa,qc⟩:=m
 dsimp only at *
 generalize chkE rs l=E at *
 generalize agreeB rs lf ls=g1 at *
 generalize agreeB rs hf hs=g2 at *
 generalize volE lf ls l=x1 at *
 generalize volE hf hs l=x2 at *
 generalize ls.length=ll at *
 generalize hs.length=hl at *
 generalize lp.length=pl at *
 generalize hp.length=ql at *
 generalize rs.length=n at *
 generalize l.length=nl at *
 obtain ⟨⟨u3,n3,d3⟩,e1⟩:=x1
 obtain ⟨⟨u4,n4,d4⟩,e2⟩:=x2
 obtain ⟨u1,n1,d1⟩:=lo
 obtain ⟨u2,n2,d2⟩:=hi
 dsimp only [qA,madeA] at hv1 hv2 ⊢
 by_cases h0:E=0
 all_goals cases g1
 all_goals cases g2
 all_goals by_cases h1:e1=0
 all_goals by_cases h2:e2=0
 all_goals
  refine enterA [(0,.slice a n c),(1,.slice b nl d),(2,.agg #[.bool u1,.string (bs n1),.string (bs d1),.bool u2,.string (bs n2),.string (bs d2),.int .i64 lf,.slice la ll lc,.int .i64 hf,.slice ha hl hc,.slice pa pl pc,.slice qa ql qc])] Tryz.func15 Tryz.ntmps15 ?_
  repeat' first|(refine gp ?_;and_intros<;>first|exact trivial|repeat first|intro(Bk:Nat)|intro h)|(apply G.cV (g:=36);rfl;rfl;exact fun w' hw=>hck w' hw.below)|(apply G.cV (g:=20) (d:=19);rfl;rfl;exact fun w' hw=>ha1 w' hw.below)|(apply G.cV (g:=20) (d:=26);rfl;rfl;exact fun w' hw=>ha2 w' hw.below)|(apply G.cV (g:=21) (d:=33);rfl;rfl;exact fun w' hw=>hv1 w' hw.below)|(apply G.cV (g:=21) (d:=40);rfl;rfl;exact fun w' hw=>hv2 w' hw.below)|(apply G.eqR ⟨u3,n3,d3⟩ ⟨u1,n1,d1⟩ (d:=54);rfl;rfl;rfl;all_goals intro hq1)|(apply G.eqR ⟨u4,n4,d4⟩ ⟨u2,n2,d2⟩ (d:=61);rfl;rfl;rfl;all_goals intro hq2)
  all_goals refine ret1b Tryz.func15 Tryz.results15 ?_
  all_goals exact ret_bool (by simp_all)
instance (k:Nat) (a:Q3):Decidable (fewQ k a):=by unfold fewQ;exact inferInstance
def shortP (p:Prf):Prop:=(p.st++p.cl).length<=30/\∀ q∈p.st++p.cl,fewQ 40 q
def shortL (ps:List Prf):Prop:=ps.length<=30/\∀ p∈ps,shortP p
theorem SumOk.scale {D B n:Nat}{x:Rat} (h:SumOk D B n x) (E:Nat):SumOk (D*E) (B*E) n x:=by
 obtain ⟨N,h1,h2⟩:=h
 refine ⟨N*(E:Int),?_,?_⟩
 ·rw [Int.natCast_mul,Rat.intCast_mul,Rat.intCast_mul,<- Rat.mul_assoc,h1]
 ·rw [Int.natAbs_mul,Int.natAbs_natCast,<- Nat.mul_assoc]
  exact Nat.mul_le_mul_right _ h2
theorem SumOk.addB {D B B':Nat}{x y:Rat} (h:SumOk D B 1 x) (h2:SumOk D B' 1 y):SumOk D (B+B') 1 (x+y):=by
 obtain ⟨N,a1,a2⟩:=h
 obtain ⟨M,b1,b2⟩:=h2
 refine ⟨N+M,by rw [Rat.add_mul,a1,b1,Rat.intCast_add],?_⟩
 have:=Int.natAbs_add_le N M
 omega
theorem SumOk.mono {D B B' n:Nat}{x:Rat} (h:SumOk D B n x) (hB:B<=B'):SumOk D B' n x:=by
 obtain ⟨N,a1,a2⟩:=h
 exact ⟨N,a1,Nat.le_trans a2 (Nat.mul_le_mul_left _ hB)⟩
theorem SumOk.neg {D B n:Nat}{x:Rat} (h:SumOk D B n x):SumOk D B n (-x):=by
 obtain ⟨N,a1,a2⟩:=h
 exact ⟨-N,by rw [Rat.neg_mul,a1,Rat.intCast_neg],by rw [Int.natAbs_neg];exact a2⟩
theorem SumOk.sgR {D B n:Nat}{x:Rat}{t:Bool} (h:SumOk D B n x):SumOk D B n (sgR t x):=by
 cases t
 ·exact h
 ·exact h.neg
theorem DenR.scale {t:Bool}{l:List Spn}{D B:Nat}{r:Rn}{p:Prf} (h:DenR t l D B r p) (E:Nat):DenR t l (D*E) (B*E) r p :=
 ⟨fun a s b=>(h.u a s b).scale E,fun a c b=>(h.v a c b).scale E,fun a c b=>(h.g a c b).scale E,h.f⟩
theorem den_all {t:Bool}{l:List Spn}{k m:Nat}:∀ {ys:List (Rn×Prf)},(∀ y∈ys,∃ D,0 < D/\D<=256 ^ k/\DenR t l D (D*256 ^ m) y.1 y.2)->∃ D,0 < D/\D<=256 ^ (k*ys.length)/\∀ y∈ys,DenR t l D (D*256 ^ m) y.1 y.2
 | [],_=>⟨1,Nat.one_pos,Nat.pow_pos (by decide),fun y hy=>absurd hy List.not_mem_nil⟩
 | y::ys,h=>by
  obtain ⟨D,d0,d1,d2⟩:=h y (List.mem_cons_self ..)
  obtain ⟨E,e0,e1,e2⟩:=den_all (ys:=ys) fun z hz=>h z (List.mem_cons_of_mem _ hz)
  refine ⟨D*E,Nat.mul_pos d0 e0,?_,fun z hz=>?_⟩
  ·rw [List.length_cons,Nat.mul_succ,Nat.pow_add,Nat.mul_comm D E]
   exact Nat.mul_le_mul e1 d1
  ·rcases List.mem_cons.1 hz with rfl|hz
   ·have:=d2.scale E
    rwa [Nat.mul_right_comm] at this
   ·have:=(e2 z hz).scale D
    rwa [Nat.mul_right_comm,Nat.mul_comm E D] at this
theorem denK_of {D k m n:Nat} (h0:0 < D) (h:D<=256 ^ (k*n)) (hk:k*n+m+3<=50000000):DenK D (D*256 ^ m) (k*n+m+3):=by
 refine ⟨h0,Nat.lt_of_le_of_lt h (Nat.pow_lt_pow_right (by decide) (by omega)),?_,hk⟩
 rw [Nat.pow_add,Nat.pow_add]
 generalize hX:256 ^ (k*n)=X at *
 have hY:0 < 256 ^ m:=Nat.pow_pos (by decide)
 generalize 256 ^ m=Y at *
 have h1:D*Y<=X*Y:=Nat.mul_le_mul_right _ h
 have h2:0 < X*Y:=Nat.mul_pos (Nat.lt_of_lt_of_le h0 h) hY
 have h3:(256:Nat) ^ 3=16777216:=by decide
 rw [h3]
 generalize D*Y=p at *
 generalize X*Y=q at *
 omega
theorem one_ok {x:Rat}{D m:Nat} (hd:x.den ∣ D) (h0:0 < D) (hf:fewQ m (rQ x)):SumOk D (D*256 ^ m) 1 x:=by
 obtain ⟨h1,_⟩:=few_prt hf
 obtain ⟨e,rfl⟩:=hd
 refine ⟨x.num*(e:Int),?_,?_⟩
 ·rw [Int.natCast_mul,Rat.intCast_mul,Rat.intCast_mul,<- Rat.mul_assoc,den_eq]
 ·rw [Int.natAbs_mul,Int.natAbs_natCast,Nat.one_mul,Nat.mul_comm x.num.natAbs e]
  exact Nat.mul_le_mul (Nat.le_mul_of_pos_left _ x.den_pos) h1
theorem pow_le {a b:Nat} (h:a<=b):(256:Nat) ^ a<=256 ^ b:=Nat.pow_le_pow_right (by decide) h
theorem den_run {t:Bool}{l:List Spn}{r:Rn}{p:Prf}{k e m:Nat} (hk:k<=140) (he:4340<=e) (hm:140<=m) (hr:OkR r) (hf:∀ s∈l,fewS s) (hR:∀ s∈l,RightS s) (hc:(clsE r l).length<=31) (hw:wellB l r p=true) (hs:(p.st++p.cl).length<=30/\∀ q∈p.st++p.cl,fewQ k q) :
  ∃ D,0 < D/\D<=256 ^ e/\DenR t l D (D*256 ^ m) r p:=by
 by_cases h0:r.tab.length=0
 ·have hg:=hr.gap h0
  have hgf:∀ c,fewQ 140 (rQ (gapC t l r c)):=fun c=>fewQ_gapC hf hR ⟨hg.1,by omega⟩ ⟨by omega,hg.2.2⟩
  have hpos:0 < pN (fun c=>(gapC t l r c).den) (clsE r l).length:=pN_pos fun c _=>(gapC t l r c).den_pos
  refine ⟨_,hpos,?_,fun h=>absurd h0 h,fun h=>absurd h0 h,fun _ c hc=>one_ok (pN_dvd (fun c=>(gapC t l r c).den) hc) hpos (fewQ_le (hgf c) hm),?_⟩
  ·refine Nat.le_trans (pN_le (B:=256 ^ 140) fun c _=>(few_prt (hgf c)).2) ?_
   rw [<- Nat.pow_mul]
   exact pow_le (by omega)
  ·unfold wellB at hw
   rw [if_pos h0,decide_eq_true_eq] at hw
   have e1:p.st=[]:=List.length_eq_zero_iff.1 (by omega)
   have e2:p.cl=[]:=List.length_eq_zero_iff.1 (by omega)
   unfold fewF
   rw [e1,e2]
   exact ⟨fun a ha=>absurd ha List.not_mem_nil,fun a ha=>absurd ha List.not_mem_nil⟩
 ·obtain ⟨w1,w2,w3,w4⟩:=(well_iff h0).1 hw
  obtain ⟨s1,s2⟩:=hs
  rw [List.length_append] at s1
  have hu:∀ s,s < p.st.length->fewQ k (rQ (uP p s)):=fun s h=>by
   rw [<- uP_at h w3];exact s2 _ (List.mem_append_left _ (List.getElem_mem h))
  have hv:∀ c,c < p.cl.length->fewQ k (rQ (vP p c)):=fun c h=>by
   rw [<- vP_at h w4];exact s2 _ (List.mem_append_right _ (List.getElem_mem h))
  have p1:0 < pN (fun s=>(uP p s).den) p.st.length:=pN_pos fun s _=>(uP p s).den_pos
  have p2:0 < pN (fun c=>(vP p c).den) p.cl.length:=pN_pos fun c _=>(vP p c).den_pos
  have hpos:=Nat.mul_pos p1 p2
  refine ⟨pN (fun s=>(uP p s).den) p.st.length*pN (fun c=>(vP p c).den) p.cl.length,hpos,?_,fun _ s h=>one_ok (Nat.dvd_trans (pN_dvd (fun s=>(uP p s).den) (show s < p.st.length by omega)) (Nat.dvd_mul_right _ _)) hpos (fewQ_le (hu s (by omega)) (by omega)),fun _ c h=>one_ok (Nat.dvd_trans (pN_dvd (fun c=>(vP p c).den) (show c < p.cl.length by omega)) (Nat.dvd_mul_left _ _)) hpos (fewQ_le (hv c (by omega)) (by omega)),fun h=>absurd h h0,fun a ha=>fewQ_le (s2 a (List.mem_append_left _ ha)) (by omega),fun a ha=>fewQ_le (s2 a (List.mem_append_right _ ha)) (by omega)⟩
  have q1:=pN_le (B:=256 ^ k) (f:=fun s=>(uP p s).den) (n:=p.st.length) fun s h=>(few_prt (hu s h)).2
  have q2:=pN_le (B:=256 ^ k) (f:=fun c=>(vP p c).den) (n:=p.cl.length) fun c h=>(few_prt (hv c h)).2
  refine Nat.le_trans (Nat.mul_le_mul q1 q2) ?_
  rw [<- Nat.pow_mul,<- Nat.pow_mul,<- Nat.pow_add,<- Nat.mul_add]
  have:=Nat.mul_le_mul hk s1
  exact pow_le (by omega)
theorem den_short {t:Bool}{l:List Spn}{rs:List Rn}{ps:List Prf}{k:Nat} (hk:k<=140) (hM:Mod rs l) (h0:chkE rs l=0) (hw:∀ x∈rs.zip ps,wellB l x.1 x.2=true) (hs:∀ p∈ps,(p.st++p.cl).length<=30/\∀ q∈p.st++p.cl,fewQ k q) :
  ∃ D B K,DenK D B K/\∀ y∈rs.zip ps,DenR t l D B y.1 y.2:=by
 obtain ⟨_,_,hR,_,hok⟩:=chk_facts h0
 obtain ⟨e,he⟩:∃ e,e=4340:=⟨_,rfl⟩
 obtain ⟨m,hm⟩:∃ m,m=140:=⟨_,rfl⟩
 obtain ⟨D,d0,d1,d2⟩:=den_all (t:=t) (l:=l) (k:=e) (m:=m) (ys:=rs.zip ps) fun y hy =>
  den_run hk (by omega) (by omega) (hok _ (List.of_mem_zip hy).1) hM.few hR (hM.cls h0 _ (List.of_mem_zip hy).1) (hw y hy) (hs _ (List.of_mem_zip hy).2)
 have hn:(rs.zip ps).length<=64:=by
  rw [List.length_zip]
  have:=hM.len
  omega
 refine ⟨D,D*256 ^ m,e*(rs.zip ps).length+m+3,denK_of d0 d1 ?_,d2⟩
 subst he hm
 omega
theorem valL_ok {t:Bool}{l:List Spn}{D B:Nat} (hl:InOrd 0 l):∀ {rs:List Rn}{ps:List Prf},(∀ r∈rs,OkR r)->(∀ y∈rs.zip ps,DenR t l D B y.1 y.2)->SumOk D B (2*tickN rs) (valL t l rs ps)
 | [],ps,_,_=>by
  rw [show valL t l [] ps=0 from by cases ps<;>rfl]
  exact (SumOk.zero D B).le (Nat.zero_le _)
 | r::rs,[],_,_=>by
  rw [show valL t l (r::rs) []=0 from rfl]
  exact (SumOk.zero D B).le (Nat.zero_le _)
 | r::rs,p::ps,ho,h=>by
  have ih:=valL_ok hl (rs:=rs) (ps:=ps) (fun x hx=>ho x (List.mem_cons_of_mem _ hx)) fun y hy=>h y (by rw [List.zip_cons_cons];exact List.mem_cons_of_mem _ hy)
  have h1:=valR_ok (ho r (List.mem_cons_self ..)) hl (h (r,p) (by rw [List.zip_cons_cons];exact List.mem_cons_self ..))
  rw [valL,tickN,Nat.mul_add]
  exact h1.add ih
theorem valE_bad {t:Bool}{rs:List Rn}{l:List Spn}{ps:List Prf} (h:(valE t rs l ps).2≠0):(valE t rs l ps).1=zero3:=by
 unfold valE at h ⊢
 repeat' split
 all_goals first
  | rfl
  | (exfalso;simp_all)
theorem valE_few {t:Bool}{rs:List Rn}{l:List Spn}{ps:List Prf}{D B K:Nat} (hD:chkE rs l=0->ps.length=rs.length->(∀ x∈rs.zip ps,wellB l x.1 x.2=true)->DenK D B K/\∀ y∈rs.zip ps,DenR t l D B y.1 y.2):fewQ 60000000 (valE t rs l ps).1:=by
 by_cases h:(valE t rs l ps).2=0
 ·obtain ⟨c1,c2,c3,_,c5⟩:=val_ok h
  obtain ⟨h1,h2⟩:=hD c1 c2 c3
  obtain ⟨hio,_,_,_,hok⟩:=chk_facts c1
  rw [c5]
  have ht:=tickN_le (chk_ok c1).1
  exact fewQ_le (h1.few (valL_ok hio hok h2) (by omega)) (Nat.le_trans h1.le (by decide))
 ·rw [valE_bad h];exact ⟨Nat.zero_le _,Nat.zero_le _⟩
section
variable {t:Bool}{r:Rn}{l:List Spn}{x:Int}{A:List Int}{pi vv:Nat->Rat}
structure PotS (t:Bool) (r:Rn) (l:List Spn) (A:List Int) (pi vv:Nat->Rat):Prop where
 inv:PotInv (clsE r l).length (fun a s=>thS r l A a s) (gS t r l) ((dM t r l:Int):Rat) (-(2*((256 ^ 10000000:Nat):Int)*(dM t r l:Int))) pi (fun b=>sgR t (vv b))
 np:∀ b,b < (clsE r l).length->sgR t (vv b)<=0
def potN (t:Bool) (r:Rn) (l:List Spn) (vv:Nat->Rat):Nat:=potM (clsE r l).length ((dM t r l:Int):Rat) (-(2*((256 ^ 10000000:Nat):Int)*(dM t r l:Int))) (fun b=>sgR t (vv b))
theorem PotS.start (hb:BestR t l r A) (h:OkR r) (h0:r.tab.length≠0) (hl:InOrd x l):∃ pi,PotS t r l A pi (fun _=>0):=by
 obtain ⟨pi,h⟩:=pot_init hb h h0 hl
 exact ⟨pi,by simp only [sgR_zero];exact h,fun b _=>by rw [sgR_zero];exact Rat.le_refl⟩
theorem dM_pos:0 < dM t r l:=denM_pos _ _ _
theorem PotS.step (h:PotS t r l A pi vv) (h0:r.tab.length≠0) (ha:AgP r A) {a b s:Nat} (hac:a < (clsE r l).length) (hbc:b < (clsE r l).length) (hs:thS r l A a (s:Int)) {y:Rat} (hy:y=vv a+clsG l (clsAt r l b) (s:Int)-clsG l (clsAt r l a) (s:Int)) (hlt:sgR t y < sgR t (vv b)) :
  PotS t r l A pi (putV vv b y)/\potN t r l (putV vv b y) < potN t r l vv:=by
 have e:sgR t y=sgR t (vv a)+(gS t r l s b-gS t r l s a):=by
  rw [hy,sgR_sub,sgR_add];unfold gS;grind
 have hD:(0:Rat) < ((dM t r l:Int):Rat):=Rat.intCast_pos.2 (by have:=dM_pos (t:=t) (r:=r) (l:=l);omega)
 obtain ⟨p1,p2⟩:=h.inv.step hD (pot_iq h0 ha) hac hbc hs (by rw [<- e];exact hlt)
 have ef:putV (fun b=>sgR t (vv b)) b (sgR t (vv a)+(gS t r l s b-gS t r l s a))=fun c=>sgR t (putV vv b y c):=funext fun c=>by
  unfold putV
  split
  ·exact e.symm
  ·rfl
 try dsimp only at p1 p2
 rw [ef] at p1 p2
 refine ⟨⟨p1,fun c hc=>?_⟩,p2⟩
 unfold putV
 split
 ·exact Rat.le_of_lt (Std.lt_of_lt_of_le hlt (h.np b hbc))
 ·exact h.np c hc
theorem dM_le (hf:∀ s∈l,fewS s) (hR:∀ s∈l,RightS s) (ht:∀ s,s < r.tab.length->0<=tbS r s/\tbS r s<=1000) (hn:(clsE r l).length<=31) (hS:r.tab.length<=64) {e:Nat} (he:277760<=e):dM t r l<=256 ^ e:=by
 unfold dM
 refine Nat.le_trans (denM_le (B:=256 ^ 140) fun s c hs _=>(few_prt (fewQ_sgR (fewQ_clsG hf hR (ht s hs)))).2) ?_
 rw [<- Nat.pow_mul]
 have:=Nat.mul_le_mul hn hS
 exact pow_le (by omega)
theorem PotS.few (h:PotS t r l A pi vv) {e:Nat} (he:e=277760) (hd:dM t r l<=256 ^ e) {b:Nat} (hb:b < (clsE r l).length):fewQ 10300000 (rQ (vv b)):=by
 have h1:fewQ (e+10000001) (rQ (sgR t (vv b))):=by
  refine pot_few h.inv dM_pos ?_ ?_ hb (h.np b hb)
  ·exact Nat.lt_of_le_of_lt hd (Nat.pow_lt_pow_right (by decide) (by omega))
  ·obtain ⟨m,hm⟩:∃ m,m=10000000:=⟨_,rfl⟩
   rw [show e+10000001=e+m+1 by omega,<- hm,Nat.pow_add,Nat.pow_add,Nat.mul_comm 2,Nat.mul_assoc,Nat.mul_comm]
   have hp:0 < 256 ^ e*256 ^ m:=Nat.mul_pos (Nat.pow_pos (by decide)) (Nat.pow_pos (by decide))
   have hq:dM t r l*256 ^ m<=256 ^ e*256 ^ m:=Nat.mul_le_mul_right _ hd
   have e3:2*dM t r l*256 ^ m=2*(dM t r l*256 ^ m):=Nat.mul_assoc _ _ _
   rw [e3]
   generalize dM t r l*256 ^ m=u at *
   generalize 256 ^ e*256 ^ m=v at *
   omega
 have h2:=fewQ_sgR (t:=t) h1
 rw [sgR_sg] at h2
 exact fewQ_le h2 (by omega)
def PotE (t:Bool) (r:Rn) (l:List Spn) (A:List Int) (vv:Nat->Rat):Prop:=∀ a b s,a < (clsE r l).length->b < (clsE r l).length->thS r l A a s->¬ sgR t (vv a+clsG l (clsAt r l b) s-clsG l (clsAt r l a) s) < sgR t (vv b)
def uU (t:Bool) (r:Rn) (l:List Spn) (vv:Nat->Rat) (s c:Nat):Rat:=sgR t (leastU (fun s c=>sgR t (gT l r s c)) (fun c=>sgR t (vv c)) s c)
theorem uU_zero (s:Nat):uU t r l vv s 0=gT l r s 0-vv 0:=by
 unfold uU
 rw [leastU,<- sgR_sub,sgR_sg]
theorem uU_step (s c:Nat):uU t r l vv s (c+1)=if sgR t (gT l r s c-vv c) < sgR t (uU t r l vv s c) then gT l r s c-vv c else uU t r l vv s c:=by
 unfold uU
 rw [leastU,sgR_sg,<- sgR_sub]
 split
 ·rw [sgR_sg]
 ·rfl
theorem uU_is (s n:Nat):∃ c,(c=0∨c < n)/\uU t r l vv s n=gT l r s c-vv c:=by
 induction n with
 | zero=>exact ⟨0,.inl rfl,uU_zero s⟩
 | succ n ih =>
  rw [uU_step]
  split
  ·exact ⟨n,.inr (Nat.lt_succ_self _),rfl⟩
  ·obtain ⟨c,h1,h2⟩:=ih
   exact ⟨c,h1.imp id fun h=>by omega,h2⟩
def potP (t:Bool) (r:Rn) (l:List Spn) (vv:Nat->Rat) (sa:Option Addr) (sc:Nat) (ca:Option Addr) (cc:Nat):Prf where
 st:=(List.range r.tab.length).map fun s=>rQ (uU t r l vv s (clsE r l).length)
 sa:=sa
 sc:=sc
 cl:=(List.range (clsE r l).length).map fun c=>rQ (vv c)
 ca:=ca
 cc:=cc
theorem validQ_rQ (x:Rat):validQ (rQ x):=by
 have h:=clean_q (rQ x)
 rw [qR_rQ] at h
 by_cases hv:validQ (rQ x)
 ·exact hv
 ·rw [if_neg hv] at h
  rw [h];decide
theorem potP_u {sa:Option Addr}{sc:Nat}{ca:Option Addr}{cc s:Nat} (h:s < r.tab.length):uP (potP t r l vv sa sc ca cc) s=uU t r l vv s (clsE r l).length:=by
 unfold uP potP
 rw [List.getD_eq_getElem?_getD,List.getElem?_map,List.getElem?_range h]
 exact qR_rQ _
theorem potP_v {sa:Option Addr}{sc:Nat}{ca:Option Addr}{cc c:Nat} (h:c < (clsE r l).length):vP (potP t r l vv sa sc ca cc) c=vv c:=by
 unfold vP potP
 rw [List.getD_eq_getElem?_getD,List.getElem?_map,List.getElem?_range h]
 exact qR_rQ _
theorem potP_well {sa:Option Addr}{sc:Nat}{ca:Option Addr}{cc:Nat} (h0:r.tab.length≠0):wellB l r (potP t r l vv sa sc ca cc)=true:=by
 refine (well_iff h0).2 ⟨by simp [potP],by simp [potP],fun a ha=>?_,fun a ha=>?_⟩
 ·obtain ⟨s,_,rfl⟩:=List.mem_map.1 ha;exact validQ_rQ _
 ·obtain ⟨s,_,rfl⟩:=List.mem_map.1 ha;exact validQ_rQ _
theorem potP_end (h:OkR r) (h0:r.tab.length≠0) (hl:InOrd x l) (ha:AgP r A) (hE:PotE t r l A vv) {sa:Option Addr}{sc:Nat}{ca:Option Addr}{cc:Nat}:certB t l r (potP t r l vv sa sc ca cc)=true/\tabV l r (potP t r l vv sa sc ca cc)=volSum l r.from_ A :=
 pot_end h h0 hl ha hE (fun c hc=>potP_v hc) fun s hs=>by rw [potP_u hs];unfold uU;rw [sgR_sg]
theorem potP_den (hP:PotS t r l A pi vv) (hf:∀ s∈l,fewS s) (hR:∀ s∈l,RightS s) (h0:r.tab.length≠0) (hn0:0 < (clsE r l).length) (ht:∀ s,s < r.tab.length->0<=tbS r s/\tbS r s<=1000) {e m:Nat} (he:e=277760) (hm:m=10000001) (hd:dM t r l<=256 ^ e) {sa:Option Addr}{sc:Nat}{ca:Option Addr}{cc:Nat}:DenR t l (dM t r l) (dM t r l*256 ^ m) r (potP t r l vv sa sc ca cc):=by
 have hD0:=dM_pos (t:=t) (r:=r) (l:=l)
 have hD1:(0:Rat) < ((dM t r l:Int):Rat):=Rat.intCast_pos.2 (by omega)
 obtain ⟨M,hM⟩:∃ M,M=10000000:=⟨_,rfl⟩
 have hv:∀ c,c < (clsE r l).length->SumOk (dM t r l) (dM t r l*(2*256 ^ M)) 1 (vv c):=fun c hc=>by
  subst hM
  obtain ⟨N,hN⟩:=hP.inv.iq c hc
  have h1:=hP.inv.num hD1 hc
  try dsimp only at hN h1
  rw [hN,Rat.num_intCast] at h1
  have h2:N<=0:=by
   have:=Rat.mul_le_mul_of_nonneg_right (hP.np c hc) (Rat.le_of_lt hD1)
   rw [hN,Rat.zero_mul] at this
   exact Rat.intCast_le_intCast.1 (show (N:Rat)<=((0:Int):Rat) from this)
  have h3:SumOk (dM t r l) (dM t r l*(2*256 ^ 10000000)) 1 (sgR t (vv c)):=by
   refine ⟨N,hN,?_⟩
   rw [Nat.one_mul]
   generalize 256 ^ 10000000=B at *
   have e1:((dM t r l*(2*B):Nat):Int)=2*(B:Int)*(dM t r l:Int):=by
    rw [Int.natCast_mul,Int.natCast_mul,Int.mul_comm];rfl
   omega
  have h4:=h3.sgR (t:=t)
  rwa [sgR_sg] at h4
 have hg:∀ s c,s < r.tab.length->c < (clsE r l).length->SumOk (dM t r l) (dM t r l*256 ^ 140) 1 (gT l r s c):=fun s c hs hc=>by
  have h1:=one_ok (x:=sgR t (gT l r s c)) (D:=dM t r l) (m:=140) (Nat.dvd_trans (pN_dvd (fun c=>(sgR t (gT l r s c)).den) hc) (pN_dvd (fun s=>pN (fun c=>(sgR t (gT l r s c)).den) (clsE r l).length) hs)) hD0 (fewQ_sgR (fewQ_clsG hf hR (ht s hs)))
  have h2:=h1.sgR (t:=t)
  rwa [sgR_sg] at h2
 have hB:dM t r l*256 ^ 140+dM t r l*(2*256 ^ M)<=dM t r l*256 ^ m:=by
  rw [<- Nat.mul_add]
  refine Nat.mul_le_mul_left _ ?_
  have h1:=pow_le (a:=140) (b:=M) (by omega)
  have h2:256 ^ m=256 ^ M*256:=by rw [show m=M+1 by omega,Nat.pow_succ]
  rw [h2]
  generalize 256 ^ M=B at *
  generalize 256 ^ 140=B2 at *
  omega
 have hu:∀ s,s < r.tab.length->SumOk (dM t r l) (dM t r l*256 ^ m) 1 (uU t r l vv s (clsE r l).length):=fun s hs=>by
  obtain ⟨c,h1,h2⟩:=uU_is (t:=t) (r:=r) (l:=l) (vv:=vv) s (clsE r l).length
  have hc:c < (clsE r l).length:=by rcases h1 with h1|h1<;>omega
  rw [h2,Rat.sub_eq_add_neg]
  exact ((hg s c hs hc).addB (hv c hc).neg).mono hB
 have hk:∀ y,SumOk (dM t r l) (dM t r l*256 ^ m) 1 y->fewQ 20000000 (rQ y):=fun y hy=>by
  refine fewQ_le (hy.few (k:=e+m+1) hD0 (Nat.lt_of_le_of_lt hd (Nat.pow_lt_pow_right (by decide) (by omega))) ?_) (by omega)
  rw [Nat.one_mul,Nat.pow_succ,Nat.pow_add]
  have h1:dM t r l*256 ^ m<=256 ^ e*256 ^ m:=Nat.mul_le_mul_right _ hd
  have h2:0 < 256 ^ e*256 ^ m:=Nat.mul_pos (Nat.pow_pos (by decide)) (Nat.pow_pos (by decide))
  generalize 256 ^ e*256 ^ m=X at *
  generalize dM t r l*256 ^ m=Y at *
  omega
 refine ⟨fun _ s hs=>by rw [potP_u hs];exact hu s hs,fun _ c hc=>by rw [potP_v hc];exact (hv c hc).mono (Nat.le_trans (Nat.le_add_left _ _) hB),fun h=>absurd h h0,fun a ha=>?_,fun a ha=>?_⟩
 ·obtain ⟨s,hs,rfl⟩:=List.mem_map.1 ha
  exact hk _ (hu s (List.mem_range.1 hs))
 ·obtain ⟨c,hc,rfl⟩:=List.mem_map.1 ha
  exact hk _ ((hv c (List.mem_range.1 hc)).mono (Nat.le_trans (Nat.le_add_left _ _) hB))
end
end Go.Proofs.YtjcecdmbfmccoaaGreatDoor
/-
 Contracts of proofs: what potentials leans on: the place of a tick,the class of a span,maps of stages.
-/
namespace Go.Proofs.YtjcecdmbfmccoaaGreatDoor
open Go.RowKit Go.Sl Go.Num
theorem pt1_holds (k:Nat) (x:Int) (B1 B3 bb ob d:Nat) (l:List Spn) (w:World) (hk:k < l.length) (h1:RowAt w B1 0 [.slice (some ⟨bb,ob,none⟩) l.length d]) (h2:RowAt w B3 0 [.int .i64 x]) (h3:RowAt w bb (ob+k*7) (spV l[k])) :
  Calls Tryz.prog 149 #[.int .i64 k,.pointer (some ⟨B1,0,none⟩),.pointer (some ⟨B3,0,none⟩)] w fun e w'=>e=.returned (.bool (decide (x < l[k].to_)))/\Below w.heap.size w w':=by
 generalize l[k]=s at *
 dsimp only [spV] at *
 refine enterA [(0,.int .i64 k),(1,.pointer (some ⟨B1,0,none⟩)),(2,.pointer (some ⟨B3,0,none⟩))] Tryz.func149 Tryz.ntmps149 ?_
 all_goals (refine go ?_;and_intros<;>first|exact trivial|repeat first|intro(Bk:Nat)|intro h)
 all_goals refine ret1b Tryz.func149 Tryz.results149 ?_
 all_goals exact ret_bool (by first|(rw [decide_eq_true (by omega)])|(rw [decide_eq_false (by omega)]))
theorem search_pt {w0 w:World}{M:List Row}{B1 B3 e1 e3 t1 t3 d:Nat}{b:Option Addr}{l:List Spn}{x:Int} (hA:SlAt w0 b 7 (l.map spV)) (hl:InOrd 0 l) (hn:l.length<=400) (hw:Sat w0 M w) (hm1:Row.blk B1 e1 [.slice b l.length d] t1∈M) (hm3:Row.blk B3 e3 [.int .i64 x] t3∈M) :
  Calls Tryz.prog 124 #[.int .i64 l.length,.func (.func 149) #[] #[.pointer (some ⟨B1,0,none⟩),.pointer (some ⟨B3,0,none⟩)]] w fun e w'=>e=.returned (.int .i64 (kT l x))/\Below w.heap.size w w':=by
 refine search_holds 149 _ l.length (kT l x) (fun i=>match l[i]? with|none=>true|some s=>decide (x < s.to_)) w (by omega) (kT_le l x) (fun i hi=>?_) (fun i h1 h2=>?_) fun k hk w' hb=>?_
 ·have h1:=k0_lt (r:=mkR x 0 0) hi
  have h4:(mkR x 0 0).from_=x:=rfl
  rw [List.getElem?_eq_getElem (Nat.lt_of_lt_of_le hi (kT_le l x))]
  exact decide_eq_false (by omega)
 ·rw [List.getElem?_eq_getElem h2]
  exact decide_eq_true (k0_ge (r:=mkR x 0 0) hl h1 h2)
 ·rw [List.getElem?_eq_getElem hk]
  obtain ⟨bb,ob,rfl,hrow⟩:=SlAt.all hA (by omega)
  exact pt1_holds k x B1 B3 bb ob d l w' hk ((hw.rowAt hm1).below hb) ((hw.rowAt hm3).below hb) (((hrow k hk).below hw.below).below hb)
theorem pt2_holds (s:Int×Int) (x:Int) (B:Nat) (w:World) (h1:RowAt w B 0 [.int .i64 x]) :
  Calls Tryz.prog 151 #[.agg #[.int .i64 s.1,.int .i64 s.2],.pointer (some ⟨B,0,none⟩)] w fun e w'=>e=.returned (.bool (decide (s.1=x)))/\Below w.heap.size w w':=by
 obtain ⟨p,T⟩:=s
 dsimp only
 refine enterA [(0,.agg #[.int .i64 p,.int .i64 T]),(1,.pointer (some ⟨B,0,none⟩))] Tryz.func151 Tryz.ntmps151 ?_
 all_goals (refine go ?_;and_intros<;>first|exact trivial|repeat first|intro(Bk:Nat)|intro h)
 all_goals refine ret1b Tryz.func151 Tryz.results151 ?_
 all_goals exact ret_bool (by first|(rw [decide_eq_true (by omega)])|(rw [decide_eq_false (by omega)]))
theorem idxC_holds (p:Int×Int->Bool) (g:FuncId) (B:Nat) [hF:Fun Tryz.prog g] (a:Option Addr) (l:List (Int×Int)) (c:Nat) (w:World) (hA:SlAt w a 2 (l.map hoV)) (hl:l.length<=1000000000)
  (hf:∀ s∈l,∀ w',Below w.heap.size w w'->Calls Tryz.prog g (#[.agg #[.int .i64 s.1,.int .i64 s.2]]++#[.pointer (some ⟨B,0,none⟩)]) w' fun e w2=>e=.returned (.bool (p s))/\Below w'.heap.size w' w2) (hlt:l.findIdx p < l.length) :
  Calls Tryz.prog 150 #[.slice a l.length c,.func (.func g) #[] #[.pointer (some ⟨B,0,none⟩)]] w fun e w'=>e=.returned (.int .i64 (l.findIdx p:Nat))/\Below w.heap.size w w':=by
 refine enterA [(0,.slice a l.length c),(1,.func (.func g) #[] #[.pointer (some ⟨B,0,none⟩)])] Tryz.func150 Tryz.ntmps150 ?_
 all_goals (refine go ?_;and_intros<;>first|exact trivial|repeat first|intro(Bk:Nat)|intro h)
 refine J.loop (c:=_) (0:Nat) (fun s=>l.length-s) (fun s=>[(0,.slice a l.length c),(1,.func (.func g) #[] #[.pointer (some ⟨B,0,none⟩)]),(7,.int .i64 l.length),(8,.int .i64 s)]) (fun s=>[]) (fun s=>s<=l.findIdx p) ?_ sbT sbL ?_
 ·exact Nat.zero_le _
 intro k h1 ih
 have hk:k < l.length:=by omega
 obtain ⟨ba,oa,rfl,hra⟩:=SlAt.all hA (by omega)
 have hr:=hra k hk
 have hfk:=hf l[k] (List.getElem_mem hk)
 by_cases hq:l.findIdx p=k
 ·have hp:p l[k]=true:=by
   have:=List.findIdx_getElem (w:=hlt)
   simpa only [hq] using this
  rw [hq]
  rw [hp] at hfk
  clear hra hf
  generalize l[k]=s at *
  obtain ⟨s1,s2⟩:=s
  dsimp only [hoV] at *
  repeat' first|(refine gp ?_;and_intros<;>first|exact trivial|repeat first|intro(Bk:Nat)|intro h)|(apply G.cF (g:=g);rfl;rfl;rfl;exact fun w' hw=>hfk w' hw.below)
  all_goals refine ret1b Tryz.func150 Tryz.results150 ?_
  all_goals rfl
 ·have hp:p l[k]=false:=by
   have:=List.not_of_lt_findIdx (show k < l.findIdx p by omega)
   simpa using this
  rw [hp] at hfk
  have ih:=ih (k+1) (by omega) (by omega)
  clear hra hf
  generalize l[k]=s at *
  obtain ⟨s1,s2⟩:=s
  dsimp only [hoV] at *
  repeat' first|(refine gp ?_;and_intros<;>first|exact trivial|repeat first|intro(Bk:Nat)|intro h)|(apply G.cF (g:=g);rfl;rfl;rfl;exact fun w' hw=>hfk w' hw.below)
  exact J.fin ih
theorem cls_en {w0 w:World}{M:List Row}{B e t kc:Nat}{ka:Option Addr}{r:Rn}{l:List Spn}{x:Int} (hK:SlAt w0 ka 2 ((clsE r l).map hoV)) (hn:(clsE r l).length<=100000) (hw:Sat w0 M w) (hm:Row.blk B e [.int .i64 (placeI l x)] t∈M) (hlt:clsIx r l x < (clsE r l).length) :
  Calls Tryz.prog 150 #[.slice ka (clsE r l).length kc,.func (.func 151) #[] #[.pointer (some ⟨B,0,none⟩)]] w fun e w'=>e=.returned (.int .i64 (clsIx r l x:Nat))/\Below w.heap.size w w' :=
 idxC_holds (fun c=>decide (c.1=placeI l x)) 151 B ka (clsE r l) kc w (hK.below hw.below) (by omega) (fun s hs w' hb=>pt2_holds s (placeI l x) B w' ((hw.rowAt hm).below hb)) hlt
section
variable {κ:Type} [DecidableEq κ]
theorem putM_keys (x y:κ) (v:Value):∀ L:List (κ×Value),y∈(putM x v L).map (·.1) ↔ y=x∨y∈L.map (·.1)
 | []=>by simp [putM]
 | (z,u)::L=>by
  rw [putM]
  by_cases h:x=z
  ·subst h
   rw [if_pos rfl]
   simp only [List.map_cons,List.mem_cons]
   constructor
   ·exact fun h=>h.elim .inl fun h=>.inr (.inr h)
   ·exact fun h=>h.elim .inl fun h=>h
  ·rw [if_neg h]
   simp only [List.map_cons,List.mem_cons,putM_keys x y v L]
   constructor
   ·rintro (h|h|h)
    ·exact .inr (.inl h)
    ·exact .inl h
    ·exact .inr (.inr h)
   ·rintro (h|h|h)
    ·exact .inr (.inl h)
    ·exact .inl h
    ·exact .inr (.inr h)
end
theorem mem_or_erase {α:Type}{y:α}:∀ {R:List α}{j:Nat} (h:j < R.length),y∈R->y=R[j]∨y∈R.eraseIdx j
 | [],_,h,_=>absurd h (Nat.not_lt_zero _)
 | a::R,0,_,hy=>by
  rcases List.mem_cons.1 hy with h|h
  ·exact .inl h
  ·exact .inr h
 | a::R,j+1,h,hy=>by
  rcases List.mem_cons.1 hy with h1|h1
  ·exact .inr (by rw [List.eraseIdx_cons_succ,h1];exact List.mem_cons_self ..)
  ·rcases mem_or_erase (by simpa using h) h1 with h2|h2
   ·exact .inl (by rw [List.getElem_cons_succ];exact h2)
   ·exact .inr (by rw [List.eraseIdx_cons_succ];exact List.mem_cons_of_mem _ h2)
instance:TMap Tryz.prog 202 3 4 (.bool false):=⟨by kernel_rfl,fun w=>Tryz.zeroValue4 w⟩
abbrev MpT:=Nat×Array MapEntry×Nat×List (Int×Value)
def mpF (e:MpT):Row:=.obj e.1 (.map e.2.1 e.2.2.1)
def moV (o:Option Nat):List Value:=[.map o]
theorem moV_len (o:Option Nat):(moV o).length=1:=rfl
theorem zero_moV (n:Nat):flat (fun x:List Value=>x) (List.replicate n [.map none])=flat moV (List.replicate n none):=by
 induction n with
 | zero=>rfl
 | succ n ih=>rw [List.replicate_succ,List.replicate_succ,flat_cons,flat_cons,ih];rfl
def mpO (T:List MpT) (n:Nat):List (Option Nat):=T.map (fun e=>some e.1)++List.replicate (n-T.length) none
theorem mpO_len {T:List MpT}{n:Nat} (h:T.length<=n):(mpO T n).length=n:=by
 rw [mpO,List.length_append,List.length_map,List.length_replicate];omega
theorem mpO_put {T:List MpT}{n:Nat} (h:T.length < n) (e:MpT):(mpO T n).set T.length (some e.1)=mpO (T++[e]) n:=by
 unfold mpO
 rw [List.set_append_right _ _ (by rw [List.length_map];exact Nat.le_refl _),List.length_map,Nat.sub_self,List.map_append,List.append_assoc,List.length_append,List.length_singleton]
 rw [show n-T.length=(n-(T.length+1))+1 by omega,List.replicate_succ,List.set_cons_zero]
 rfl
theorem mpO_all {T:List MpT}{n:Nat} (h:T.length=n):mpO T n=T.map fun e=>some e.1:=by
 rw [mpO,show n-T.length=0 by omega,List.replicate_zero,List.append_nil]
theorem mo_get {T:List MpT}{c:Nat} (h:c < T.length):(flat moV (T.map fun e=>some e.1))[0+c*1]?=some (.map (some T[c].1)):=flat_one (f:=moV) moV_len (by rw [List.length_map];exact h) (by rw [List.getElem_map];rfl)
def TIn (r:Rn) (l:List Spn) (A:List Int) (j:Nat) (T:List MpT):Prop:=∀ c (h:c < T.length),MapIs (Value.int .i64) T[c].2.1 T[c].2.2.1 T[c].2.2.2/\∀ s,s∈T[c].2.2.2.map (·.1) ↔ ∃ i,i < j/\A[i]?=some s/\(kL r l)[i]?=some c
theorem TIn.step {r:Rn}{l:List Spn}{A:List Int}{j c:Nat}{T:List MpT}{s:Int} (h:TIn r l A j T) (hc:c < T.length) (hA:A[j]?=some s) (hK:(kL r l)[j]?=some c) {es:Array MapEntry}{ck:Nat}{v:Value} (hI:MapIs (Value.int .i64) es ck (putM s v T[c].2.2.2)) :
  TIn r l A (j+1) (T.set c (T[c].1,es,ck,putM s v T[c].2.2.2)):=fun d hd=>by
 rw [List.length_set] at hd
 obtain ⟨h1,h2⟩:=h d hd
 by_cases e:c=d
 ·subst e
  rw [List.getElem_set_self]
  refine ⟨hI,fun y=>?_⟩
  dsimp only
  rw [putM_keys,h2]
  constructor
  ·rintro (rfl|⟨i,i1,i2,i3⟩)
   ·exact ⟨j,Nat.lt_succ_self _,hA,hK⟩
   ·exact ⟨i,by omega,i2,i3⟩
  ·rintro ⟨i,i1,i2,i3⟩
   by_cases e:i=j
   ·subst e;rw [hA] at i2;cases i2;exact .inl rfl
   ·exact .inr ⟨i,by omega,i2,i3⟩
 ·rw [List.getElem_set_ne e]
  refine ⟨h1,fun y=>?_⟩
  rw [h2]
  constructor
  ·rintro ⟨i,i1,i2,i3⟩;exact ⟨i,by omega,i2,i3⟩
  ·rintro ⟨i,i1,i2,i3⟩
   by_cases e2:i=j
   ·subst e2;rw [hK] at i3;cases i3;exact absurd rfl e
   ·exact ⟨i,by omega,i2,i3⟩
theorem TIn.all {r:Rn}{l:List Spn}{A:List Int}{j c:Nat}{T:List MpT} (h:TIn r l A j T) (hj:A.length<=j) (hc:c < T.length) (s:Int):s∈T[c].2.2.2.map (·.1) ↔ thS r l A c s:=by
 rw [(h c hc).2]
 constructor
 ·rintro ⟨i,_,i2,i3⟩;exact ⟨i,i2,i3⟩
 ·rintro ⟨i,i2,i3⟩;exact ⟨i,Nat.lt_of_lt_of_le (List.getElem?_eq_some_iff.1 i2).1 hj,i2,i3⟩
theorem mp_set (T:List MpT) (c:Nat) (B:Nat) (es:Array MapEntry) (ck:Nat) (L:List (Int×Value)):(rws mpF T).set c (.obj B (.map es ck))=rws mpF (T.set c (B,es,ck,L)):=by rw [<- rws_set];rfl
theorem mp_map {T:List MpT}{c:Nat} (hc:c < T.length) (es:Array MapEntry) (ck:Nat) (L:List (Int×Value)):(T.set c (T[c].1,es,ck,L)).map (fun e=>some e.1)=T.map fun e=>some e.1:=by
 apply List.ext_getElem
 ·simp
 ·intro i h1 h2
  rw [List.getElem_map,List.getElem_map]
  by_cases e:c=i
  ·subst e;rw [List.getElem_set_self]
  ·rw [List.getElem_set_ne e]
def vvL (vv:Nat->Rat) (n:Nat):List Rat:=(List.range n).map vv
theorem vvL_len (vv:Nat->Rat) (n:Nat):(vvL vv n).length=n:=by rw [vvL,List.length_map,List.length_range]
theorem vvL_at {vv:Nat->Rat}{n c:Nat} (h:c < n):(vvL vv n)[c]?=some (vv c):=by rw [vvL,List.getElem?_map,List.getElem?_range h];rfl
theorem vvL_put {vv:Nat->Rat}{n b:Nat} (y:Rat):(vvL vv n).set b y=vvL (putV vv b y) n:=by
 apply List.ext_getElem?
 intro i
 by_cases hi:i < n
 ·rw [vvL_at hi]
  by_cases e:b=i
  ·subst e
   rw [List.getElem?_set_self (by rw [vvL_len];exact hi)]
   unfold putV;rw [if_pos rfl]
  ·rw [List.getElem?_set_ne e,vvL_at hi]
   unfold putV;rw [if_neg (fun h=>e h.symm)]
 ·rw [List.getElem?_eq_none (by rw [List.length_set,vvL_len];omega),List.getElem?_eq_none (by rw [vvL_len];omega)]
theorem vvL_zero (n:Nat):vvL (fun _=>0) n=List.replicate n 0:=by
 unfold vvL
 rw [List.map_const',List.length_range]
end Go.Proofs.YtjcecdmbfmccoaaGreatDoor
