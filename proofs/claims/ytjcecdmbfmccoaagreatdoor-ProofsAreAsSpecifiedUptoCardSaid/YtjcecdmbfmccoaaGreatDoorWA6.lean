/-
  Contracts of curves: Check of the program and of the specification.
-/
import Derived.Test.YtjcecdmbfmccoaaGreatDoorWA5
set_option linter.unusedVariables false
set_option linter.unusedSimpArgs false
set_option linter.unusedSectionVars false
namespace Go.Proofs.YtjcecdmbfmccoaaGreatDoor
open Go.RowKit Go.Sl Go.Num
abbrev Pnt:=Int×Q3
def ptV (p:Pnt):List Value:=[.int .i64 p.1,.bool p.2.neg,.string (bs p.2.num),.string (bs p.2.den)]
def iK (l:List Pnt):Prop:=l.length<=20/\∀ p∈l,aH 12 p.2
def iL (prev:Option Pnt):List Pnt->Int
 | []=>0
 | p::r=>if p.1 < -1000∨2000 < p.1 then 3 else if ¬ aP p.2∨p.2.neg=true then 1 else
  match prev with
  | none=>iL (some p) r
  | some q=>if p.1<=q.1∨dR (qR p.2-qR q.2) < 0 then 1 else iL (some p) r
def bM (l:List Pnt):Int:=if l.length < 1∨16 < l.length then 2 else iL none l
theorem BJ (s:Int) (w:World):CR 167 #[.int .i64 s] w (.bool (!decide (s < -1000∨2000 < s))):=by
 refine aB [(0,.int .i64 s)] Tryz.func167 Tryz.ntmps167 ?_;all_goals (refine go ?_;and_intros<;>first|exact trivial|repeat first|intro(Bk:Nat)|intro h)
 all_goals refine aA Tryz.func167 Tryz.results167 ?_
 all_goals exact bL (by first|(rw [dT om];rfl)|(rw [dF om];rfl))
theorem Ab (a:Q3) (w:World) (h1:a.num.length<=536870912) (h2:a.den.length<=536870912) :
  CR 168 #[qA a] w (.bool (!decide (¬ aP a∨a.neg=true))):=by
 have hv:=fun w'=>fX a w' h1 h2
 generalize hc:decide (¬ aP a∨a.neg=true)=c;by_cases h:aP a
 ·rw [dT h] at hv
  have hn:a.neg=c:=by rw [<- hc];simp [h]
  obtain ⟨s,n,d⟩:=a;dsimp only at hn;subst hn;clear hc;refine aB [(0,qA ⟨s,n,d⟩)] Tryz.func168 Tryz.ntmps168 ?_;cases s;all_goals skip
  repeat' first|(refine gp ?_;and_intros<;>first|exact trivial|repeat first|intro(Bk:Nat)|intro h)|(apply G.cV (g:=26);rfl;rfl;exact fun w' _=>hv w')
  all_goals exact aA Tryz.func168 Tryz.results168 rfl
 ·rw [dF h] at hv
  have hn:c=true:=by rw [<- hc];simp [h]
  subst hn;clear hc;refine aB [(0,qA a)] Tryz.func168 Tryz.ntmps168 ?_;repeat' first|(refine gp ?_;and_intros<;>first|exact trivial|repeat first|intro(Bk:Nat)|intro h)|(apply G.cV (g:=26);rfl;rfl;exact fun w' _=>hv w')
  all_goals exact aA Tryz.func168 Tryz.results168 rfl
theorem xQ {l:List Pnt}{k:Nat} (hk:k < l.length):iL (prv l k) (l.drop k)=if l[k].1 < -1000∨2000 < l[k].1 then 3 else if ¬ aP l[k].2∨l[k].2.neg=true then 1 else
  match prv l k with
  | none=>iL (prv l (k+1)) (l.drop (k+1))
  | some q=>if l[k].1<=q.1∨dR (qR l[k].2-qR q.2) < 0 then 1 else iL (prv l (k+1)) (l.drop (k+1)):=by
 rw [List.drop_eq_getElem_cons hk,prv,gE hk];cases prv l k<;>rfl
theorem Ac {l:List Pnt}{q:Option Pnt}:iL q (l.drop l.length)=0:=by
 rw [List.drop_length];rfl
theorem Ad (a:Option Addr) (l:List Pnt) (c:Nat) (w:World) (hA:aE w a 4 (l.map ptV)) (hf:iK l) :
  CR 163 #[.agg #[.slice a l.length c]] w (.int .i64 (bM l)):=by
 obtain ⟨hf1,hf2⟩:=hf;refine aB [(0,.agg #[.slice a l.length c])] Tryz.func163 Tryz.ntmps163 ?_;by_cases hl:l.length < 1∨16 < l.length
 ·rw [bM,if_pos hl]
  all_goals (refine go ?_;and_intros<;>first|exact trivial|repeat first|intro(Bk:Nat)|intro h)
  all_goals exact aA Tryz.func163 Tryz.results163 rfl
 have hI:bM l=iL (prv l 0) (l.drop 0):=by rw [bM,if_neg hl];rfl
 generalize bM l=E at *;all_goals (refine go ?_;and_intros<;>first|exact trivial|repeat first|intro(Bk:Nat)|intro h)
 refine J.loop (c:=_) (0:Nat) (fun s=>l.length-s) (fun s=>[(1,.pointer (some ⟨Bk,0,none⟩)),(3,.int .i64 s)]) (fun s=>[.blk Bk 117 [.slice a l.length c] 1]) (fun s=>s<=l.length/\E=iL (prv l s) (l.drop s)) ?_ sbT sbL ?_
 ·exact ⟨Nat.zero_le _,hI⟩
 clear hI;intro k ⟨h1,hI⟩ ih;by_cases hk:k < l.length
 ·obtain ⟨ba,oa,rfl,hrow⟩:=aE.all hA om
  have hq:=hf2 _ (gM hk);have hv:=fun w'=>kU l[k].2 w' (aF hq dc).1 (aF hq dc).2
  have hr:=hrow k hk;rw [xQ hk] at hI;rcases k with _|j
  ·rw [show prv l 0=none from rfl] at hI
   dsimp only at hI;generalize l[0]=p at *;obtain ⟨s,ng,n,d⟩:=p;dsimp only [ptV] at *;by_cases c1:s < -1000∨2000 < s
   ·rw [if_pos c1] at hI
    subst hI;all_goals (refine go ?_;and_intros<;>first|exact trivial|repeat first|intro(Bk:Nat)|intro h)
    all_goals exact aA Tryz.func163 Tryz.results163 rfl
   rw [if_neg c1] at hI;by_cases c2:aP ⟨ng,n,d⟩
   ·rw [dT c2] at hv
    cases ng
    ·rw [if_neg (by simp [c2])] at hI
     repeat' first|(refine gp ?_;and_intros<;>first|exact trivial|repeat first|intro(Bk:Nat)|intro h)|(apply G.cV (g:=86);rfl;rfl;exact fun w' _=>hv w')
     exact J.fin (ih 1 ⟨hk,hI⟩ om)
    ·rw [if_pos (.inr rfl)] at hI
     subst hI;repeat' first|(refine gp ?_;and_intros<;>first|exact trivial|repeat first|intro(Bk:Nat)|intro h)|(apply G.cV (g:=86);rfl;rfl;exact fun w' _=>hv w')
     all_goals exact aA Tryz.func163 Tryz.results163 rfl
   ·rw [dF c2] at hv
    rw [if_pos (.inl c2)] at hI;subst hI;repeat' first|(refine gp ?_;and_intros<;>first|exact trivial|repeat first|intro(Bk:Nat)|intro h)|(apply G.cV (g:=86);rfl;rfl;exact fun w' _=>hv w')
    all_goals exact aA Tryz.func163 Tryz.results163 rfl
  ·have hj:=hrow j om
   have hqj:=hf2 _ (gM (show j < l.length by omega))
   have g1:=Cb hqj;have hc:=fun w'=>oD l[j+1].2 l[j].2 w' (aF hq dc).1 (aF hq dc).2 (aF hqj dc).1 (aF hqj dc).2 om om
   rw [show prv l (j+1)=some l[j] from gE om] at hI
   dsimp only at hI;clear hqj g1 hq;generalize l[j+1]=p at *;generalize l[j]=p2 at *;obtain ⟨s,ng,n,d⟩:=p;obtain ⟨s2,ng2,n2,d2⟩:=p2;dsimp only [ptV] at *;generalize dR (qR ⟨ng,n,d⟩-qR ⟨ng2,n2,d2⟩)=sg at *;by_cases c1:s < -1000∨2000 < s
   ·rw [if_pos c1] at hI
    subst hI;all_goals (refine go ?_;and_intros<;>first|exact trivial|repeat first|intro(Bk:Nat)|intro h)
    all_goals exact aA Tryz.func163 Tryz.results163 rfl
   rw [if_neg c1] at hI;by_cases c2:aP ⟨ng,n,d⟩
   ·rw [dT c2] at hv
    cases ng
    ·rw [if_neg (by simp [c2])] at hI
     by_cases c3:s<=s2∨sg < 0
     ·rw [if_pos c3] at hI
      subst hI;repeat' first|(refine gp ?_;and_intros<;>first|exact trivial|repeat first|intro(Bk:Nat)|intro h)|(apply G.cV (g:=86);rfl;rfl;exact fun w' _=>hv w')|(apply G.cV (g:=51);rfl;rfl;exact fun w' _=>hc w')
      all_goals exact aA Tryz.func163 Tryz.results163 rfl
     ·rw [if_neg c3] at hI
      repeat' first|(refine gp ?_;and_intros<;>first|exact trivial|repeat first|intro(Bk:Nat)|intro h)|(apply G.cV (g:=86);rfl;rfl;exact fun w' _=>hv w')|(apply G.cV (g:=51);rfl;rfl;exact fun w' _=>hc w')
      exact J.fin (ih (j+2) ⟨hk,hI⟩ om)
    ·rw [if_pos (.inr rfl)] at hI
     subst hI;repeat' first|(refine gp ?_;and_intros<;>first|exact trivial|repeat first|intro(Bk:Nat)|intro h)|(apply G.cV (g:=86);rfl;rfl;exact fun w' _=>hv w')
     all_goals exact aA Tryz.func163 Tryz.results163 rfl
   ·rw [dF c2] at hv
    rw [if_pos (.inl c2)] at hI;subst hI;repeat' first|(refine gp ?_;and_intros<;>first|exact trivial|repeat first|intro(Bk:Nat)|intro h)|(apply G.cV (g:=86);rfl;rfl;exact fun w' _=>hv w')
    all_goals exact aA Tryz.func163 Tryz.results163 rfl
 ·rw [show k=l.length by omega,Ac] at hI
  subst hI;all_goals (refine go ?_;and_intros<;>first|exact trivial|repeat first|intro(Bk:Nat)|intro h)
  all_goals exact aA Tryz.func163 Tryz.results163 rfl
theorem nC (a:Option Addr) (l:List Pnt) (c:Nat) (w:World) (hA:aE w a 4 (l.map ptV)) (hf:iK l) :
  CR 142 #[.agg #[.slice a l.length c]] w (.int .i64 (bM l)):=by
 obtain ⟨hf1,hf2⟩:=hf;refine aB [(0,.agg #[.slice a l.length c])] Tryz.func142 Tryz.ntmps142 ?_;by_cases hl:l.length < 1∨16 < l.length
 ·rw [bM,if_pos hl]
  all_goals (refine go ?_;and_intros<;>first|exact trivial|repeat first|intro(Bk:Nat)|intro h)
  all_goals exact aA Tryz.func142 Tryz.results142 rfl
 have hI:bM l=iL (prv l 0) (l.drop 0):=by rw [bM,if_neg hl];rfl
 generalize bM l=E at *;all_goals (refine go ?_;and_intros<;>first|exact trivial|repeat first|intro(Bk:Nat)|intro h)
 refine J.loop (c:=_) (0:Nat) (fun s=>l.length-s) (fun s=>[(1,.pointer (some ⟨Bk,0,none⟩)),(16,.slice a l.length c),(17,.int .i64 l.length),(18,.int .i64 s)]) (fun s=>[.blk Bk 117 [.slice a l.length c] 1]) (fun s=>s<=l.length/\E=iL (prv l s) (l.drop s)) ?_ sbT sbL ?_
 ·exact ⟨Nat.zero_le _,hI⟩
 clear hI;intro k ⟨h1,hI⟩ ih;by_cases hk:k < l.length
 ·obtain ⟨ba,oa,rfl,hrow⟩:=aE.all hA om
  have hq:=hf2 _ (gM hk);have hv:=fun w'=>Ab l[k].2 w' (aF hq dc).1 (aF hq dc).2
  have hon:=fun w'=>BJ l[k].1 w'
  have hr:=hrow k hk;rw [xQ hk] at hI;rcases k with _|j
  ·rw [show prv l 0=none from rfl] at hI
   dsimp only at hI;generalize l[0]=p at *;obtain ⟨s,ng,n,d⟩:=p;dsimp only [ptV] at *;by_cases c1:s < -1000∨2000 < s
   ·rw [if_pos c1] at hI
    rw [dT c1] at hon;subst hI;repeat' first|(refine gp ?_;and_intros<;>first|exact trivial|repeat first|intro(Bk:Nat)|intro h)|(apply G.cV (g:=167);rfl;rfl;exact fun w' _=>hon w')|(apply G.cV (g:=168);rfl;rfl;exact fun w' _=>hv w')
    all_goals exact aA Tryz.func142 Tryz.results142 rfl
   rw [if_neg c1] at hI;rw [dF c1] at hon;by_cases c2:¬ aP ⟨ng,n,d⟩∨ng=true
   ·rw [dT c2] at hv
    rw [if_pos c2] at hI;subst hI;repeat' first|(refine gp ?_;and_intros<;>first|exact trivial|repeat first|intro(Bk:Nat)|intro h)|(apply G.cV (g:=167);rfl;rfl;exact fun w' _=>hon w')|(apply G.cV (g:=168);rfl;rfl;exact fun w' _=>hv w')
    all_goals exact aA Tryz.func142 Tryz.results142 rfl
   rw [dF c2] at hv;rw [if_neg c2] at hI;repeat' first|(refine gp ?_;and_intros<;>first|exact trivial|repeat first|intro(Bk:Nat)|intro h)|(apply G.cV (g:=167);rfl;rfl;exact fun w' _=>hon w')|(apply G.cV (g:=168);rfl;rfl;exact fun w' _=>hv w')
   exact J.fin (ih 1 ⟨hk,hI⟩ om)
  ·have hj:=hrow j om
   have hqj:=hf2 _ (gM (show j < l.length by omega))
   have hc:=fun w'=>kS l[j+1].2 l[j].2 w' (aF hq dc).1 (aF hq dc).2 (aF hqj dc).1 (aF hqj dc).2
   rw [show prv l (j+1)=some l[j] from gE om] at hI
   dsimp only at hI;clear hqj hq;generalize l[j+1]=p at *;generalize l[j]=p2 at *;obtain ⟨s,ng,n,d⟩:=p;obtain ⟨s2,ng2,n2,d2⟩:=p2;dsimp only [ptV] at *;generalize dR (qR ⟨ng,n,d⟩-qR ⟨ng2,n2,d2⟩)=sg at *;by_cases c1:s < -1000∨2000 < s
   ·rw [if_pos c1] at hI
    rw [dT c1] at hon;subst hI;repeat' first|(refine gp ?_;and_intros<;>first|exact trivial|repeat first|intro(Bk:Nat)|intro h)|(apply G.cV (g:=167);rfl;rfl;exact fun w' _=>hon w')|(apply G.cV (g:=168);rfl;rfl;exact fun w' _=>hv w')
    all_goals exact aA Tryz.func142 Tryz.results142 rfl
   rw [if_neg c1] at hI;rw [dF c1] at hon;by_cases c2:¬ aP ⟨ng,n,d⟩∨ng=true
   ·rw [dT c2] at hv
    rw [if_pos c2] at hI;subst hI;repeat' first|(refine gp ?_;and_intros<;>first|exact trivial|repeat first|intro(Bk:Nat)|intro h)|(apply G.cV (g:=167);rfl;rfl;exact fun w' _=>hon w')|(apply G.cV (g:=168);rfl;rfl;exact fun w' _=>hv w')
    all_goals exact aA Tryz.func142 Tryz.results142 rfl
   rw [dF c2] at hv;rw [if_neg c2] at hI;by_cases c3:s<=s2∨sg < 0
   ·rw [if_pos c3] at hI
    subst hI;repeat' first|(refine gp ?_;and_intros<;>first|exact trivial|repeat first|intro(Bk:Nat)|intro h)|(apply G.cV (g:=167);rfl;rfl;exact fun w' _=>hon w')|(apply G.cV (g:=168);rfl;rfl;exact fun w' _=>hv w')|(apply G.cV (g:=22);rfl;rfl;exact fun w' _=>hc w')
    all_goals exact aA Tryz.func142 Tryz.results142 rfl
   rw [if_neg c3] at hI;repeat' first|(refine gp ?_;and_intros<;>first|exact trivial|repeat first|intro(Bk:Nat)|intro h)|(apply G.cV (g:=167);rfl;rfl;exact fun w' _=>hon w')|(apply G.cV (g:=168);rfl;rfl;exact fun w' _=>hv w')|(apply G.cV (g:=22);rfl;rfl;exact fun w' _=>hc w')
   exact J.fin (ih (j+2) ⟨hk,hI⟩ om)
 ·rw [show k=l.length by omega,Ac] at hI
  subst hI;all_goals (refine go ?_;and_intros<;>first|exact trivial|repeat first|intro(Bk:Nat)|intro h)
  all_goals exact aA Tryz.func142 Tryz.results142 rfl
theorem kW (g:FuncId) [hF:Fun Tryz.prog g] (cap:Array Value) (n m:Nat) (p:Nat->Bool) (w:World) (hn:n < 4611686018427387904) (hmn:m<=n) (h1:∀ i,i < m->p i=false) (h2:∀ i,m<=i->i < n->p i=true)
  (hf:∀ k,k < n->∀ w',Below w.heap.size w w'->Calls Tryz.prog g (#[.int .i64 k]++cap) w' fun e w2=>e=.returned (.bool (p k))/\Below w'.heap.size w' w2) :
  CR 124 #[.int .i64 n,.func (.func g) #[] cap] w (.int .i64 m):=by
 refine aB [(0,.int .i64 n),(1,.func (.func g) #[] cap)] Tryz.func124 Tryz.ntmps124 ?_;all_goals (refine go ?_;and_intros<;>first|exact trivial|repeat first|intro(Bk:Nat)|intro h)
 refine J.loop (c:=_) ((0,n):Nat×Nat) (fun s=>s.2-s.1) (fun s=>[(1,.func (.func g) #[] cap),(5,.int .i64 s.1),(6,.int .i64 s.2)]) (fun s=>[]) (fun s=>s.1<=m/\m<=s.2/\s.2<=n) ?_ sbT sbL ?_
 ·exact ⟨Nat.zero_le _,hmn,Nat.le_refl _⟩
 intro ⟨i,j⟩ ⟨g1,g2,g3⟩ ih;dsimp only at g1 g2 g3 ⊢;by_cases hij:i < j
 ·have hm:((i:Int)+(j:Int)).fdiv (2 ^ (min 1 IntKind.u64.bits))=(((i+j) / 2:Nat):Int):=by
   rw [show (2:Int) ^ (min 1 IntKind.u64.bits)=2 from rfl,Int.fdiv_eq_ediv_of_nonneg _ dc];omega
  have q1:i<=(i+j) / 2:=by omega
  have q2:(i+j) / 2 < j:=by omega
  generalize (i+j) / 2=r at *;have hfr:=hf r om;have e1:p r=true->m<=r:=fun e=>by
   rcases Nat.lt_or_ge r m with h|h
   ·rw [h1 r h] at e;cases e
   ·exact h
  have e2:p r=false->r < m:=fun e=>by
   rcases Nat.lt_or_ge r m with h|h
   ·exact h
   ·rw [h2 r h om] at e;cases e
  generalize p r=b at *;cases b
  ·have e2:=e2 rfl
   repeat' (first|(apply G.PN (n:=1);rfl;rfl;rfl;exact hm;rfl;rfl;rfl)|(apply G.PQ (g:=g);rfl;rfl;rfl;rfl;rfl;exact fun w' hw=>hfr w' hw.below)|(apply G.pu;rfl;rfl;first|exact trivial|omega)|(apply J.ct;rfl)|(apply G.nil;rfl)|(apply G.cm;rfl;rfl;all_goals intro h;all_goals try (exfalso;omega))|(apply G.fa;rfl;rfl)|(apply G.ld;rfl;(first|(apply LdV.one;(first|exact aC.P0 (by assumption) rfl|exact aC.rowS (by assumption) rfl|exact aC.Px (by assumption) rfl|(apply aC.blk;exact mm;rfl)))|(apply LdV.Pw;exact mm;rfl)|(apply LdV.part;exact mm;rfl;rfl)|(apply LdV.Pv;assumption;rfl)|(apply LdV.Ps;assumption;rfl;rfl));rfl)|(apply G.sk;rfl)|(apply G.ls;rfl;rfl)|(apply G.ix;rfl;rfl;rfl;omega;rfl)|(apply G.ix;rfl;rfl;(first|exact bU _|exact bJ _);omega;rfl)|(apply G.lt;rfl;rfl)|(apply G.bu;rfl;rfl;rfl)|(apply G.fd;rfl;rfl;rfl)|(apply G.cv;rfl;rfl;rfl;omega)|(apply G.beq;rfl;rfl;rfl)|(apply G.P9;rfl;rfl;rfl)|(apply G.mm;rfl;rfl)|(apply G.mf;rfl;rfl)|(apply G.mx;rfl;rfl;rfl)|(apply G.mn;rfl;rfl;rfl)|(apply G.bx;rfl;rfl;rfl;intro Bk)|(apply G.al;rfl;intro Bk)|(apply G.so;rfl;rfl;(repeat (first|exact RAt.head|apply RAt.tail));rfl;rfl)|(apply G.ss;rfl;rfl;(repeat (first|exact RAt.head|apply RAt.tail));rfl;rfl)|(apply J.Pz;exact Tryz.Pr;decide +kernel)|(apply J.P4;exact Tryz.Pr;decide +kernel)|apply J.PA)
   exact J.fin (ih (r+1,j) ⟨by dsimp only;omega,g2,g3⟩ (by dsimp only;omega))
  ·have e1:=e1 rfl
   repeat' (first|(apply G.PN (n:=1);rfl;rfl;rfl;exact hm;rfl;rfl;rfl)|(apply G.PQ (g:=g);rfl;rfl;rfl;rfl;rfl;exact fun w' hw=>hfr w' hw.below)|(apply G.pu;rfl;rfl;first|exact trivial|omega)|(apply J.ct;rfl)|(apply G.nil;rfl)|(apply G.cm;rfl;rfl;all_goals intro h;all_goals try (exfalso;omega))|(apply G.fa;rfl;rfl)|(apply G.ld;rfl;(first|(apply LdV.one;(first|exact aC.P0 (by assumption) rfl|exact aC.rowS (by assumption) rfl|exact aC.Px (by assumption) rfl|(apply aC.blk;exact mm;rfl)))|(apply LdV.Pw;exact mm;rfl)|(apply LdV.part;exact mm;rfl;rfl)|(apply LdV.Pv;assumption;rfl)|(apply LdV.Ps;assumption;rfl;rfl));rfl)|(apply G.sk;rfl)|(apply G.ls;rfl;rfl)|(apply G.ix;rfl;rfl;rfl;omega;rfl)|(apply G.ix;rfl;rfl;(first|exact bU _|exact bJ _);omega;rfl)|(apply G.lt;rfl;rfl)|(apply G.bu;rfl;rfl;rfl)|(apply G.fd;rfl;rfl;rfl)|(apply G.cv;rfl;rfl;rfl;omega)|(apply G.beq;rfl;rfl;rfl)|(apply G.P9;rfl;rfl;rfl)|(apply G.mm;rfl;rfl)|(apply G.mf;rfl;rfl)|(apply G.mx;rfl;rfl;rfl)|(apply G.mn;rfl;rfl;rfl)|(apply G.bx;rfl;rfl;rfl;intro Bk)|(apply G.al;rfl;intro Bk)|(apply G.so;rfl;rfl;(repeat (first|exact RAt.head|apply RAt.tail));rfl;rfl)|(apply G.ss;rfl;rfl;(repeat (first|exact RAt.head|apply RAt.tail));rfl;rfl)|(apply J.Pz;exact Tryz.Pr;decide +kernel)|(apply J.P4;exact Tryz.Pr;decide +kernel)|apply J.PA)
   exact J.fin (ih (i,r) ⟨g1,e1,by dsimp only;omega⟩ (by dsimp only;omega))
 ·obtain rfl:i=m:=by omega
  all_goals (refine go ?_;and_intros<;>first|exact trivial|repeat first|intro(Bk:Nat)|intro h)
  all_goals exact aA Tryz.func124 Tryz.results124 rfl
def nx (l:List Pnt) (s:Int):Nat:=l.findIdx fun p=>decide (s < p.1)
def jD (p q:Pnt) (s:Int):Rat:=qR p.2+((s-p.1:Int):Rat) / ((q.1-p.1:Int):Rat)*(qR q.2-qR p.2)
def cG (l:List Pnt) (s:Int):Rat :=
 match nx l s with
 | 0=>0
 | n+1=>match l[n]? with
  | none=>0
  | some p=>match l[n+1]? with
   | none=>qR p.2
   | some q=>jD p q s
theorem wF {prev:Option Pnt}:∀ {l:List Pnt},iL prev l=0->(∀ p∈l,-1000<=p.1/\p.1<=2000/\aP p.2)/\(∀ q,prev=some q->∀ p,l[0]?=some p->q.1 < p.1)/\∀ k (h:k+1 < l.length),l[k].1 < l[k+1].1
 | [],_=>⟨by simp,by simp,by simp⟩
 | p::r,h=>by
  rw [iL.eq_def] at h
  dsimp only at h
  split at h
  ·cases h
  split at h
  ·cases h
  rename_i c1 c2;have c3:aP p.2:=Classical.byContradiction fun e=>c2 (.inl e)
  cases prev with
  | none =>
   obtain ⟨i1,i2,i3⟩:=wF (l:=r) h;refine ⟨fun x hx=>?_,by simp,fun k hk=>?_⟩
   ·rcases List.mem_cons.1 hx with rfl|hx
    ·exact ⟨by omega,by omega,c3⟩
    ·exact i1 x hx
   ·cases k with
    | zero=>exact i2 p rfl _ (gE (by simpa using hk))
    | succ j=>exact i3 j (by simpa using hk)
  | some q =>
   dsimp only at h
   split at h
   ·cases h
   rename_i c4;obtain ⟨i1,i2,i3⟩:=wF (l:=r) h;refine ⟨fun x hx=>?_,fun x hx y hy=>?_,fun k hk=>?_⟩
   ·rcases List.mem_cons.1 hx with rfl|hx
    ·exact ⟨by omega,by omega,c3⟩
    ·exact i1 x hx
   ·cases hx;cases hy;omega
   ·cases k with
    | zero=>exact i2 p rfl _ (gE (by simpa using hk))
    | succ j=>exact i3 j (by simpa using hk)
structure oE (l:List Pnt):Prop where
 len:1<=l.length/\l.length<=16
 mem:∀ k (h:k < l.length),-1000<=l[k].1/\l[k].1<=2000/\aP l[k].2
 lt:∀ k (h:k+1 < l.length),l[k].1 < l[k+1].1
theorem Dh {l:List Pnt} (h:bM l=0):oE l:=by
 rw [bM] at h
 split at h
 ·cases h
 rename_i c1;obtain ⟨h1,_,h3⟩:=wF h;exact ⟨by omega,fun k hk=>h1 _ (gM hk),h3⟩
theorem oE.le {l:List Pnt} (h:oE l):∀ d i (hj:i+d < l.length),l[i].1<=l[i+d].1
 | 0,i,hj=>Int.le_refl _
 | d+1,i,hj=>by
  have h1:=h.le d i om;have h2:=h.lt (i+d) hj;have h3:l[i+(d+1)].1=l[i+d+1].1:=rfl;omega
theorem xR (l:List Pnt) (s:Int):nx l s<=l.length:=List.findIdx_le_length
theorem xS {l:List Pnt}{s:Int}{i:Nat} (h:i < nx l s):(l[i]'(Nat.lt_of_lt_of_le h (xR l s))).1<=s:=by
 have:=List.not_of_lt_findIdx h;simpa using this
theorem Es {l:List Pnt}{s:Int} (h:nx l s < l.length):s < l[nx l s].1:=by
 have:decide (s < l[nx l s].1)=true:=List.findIdx_getElem (w:=h);exact of_decide_eq_true this
theorem Ha {l:List Pnt} (hr:oE l) {s:Int}{i:Nat} (h:nx l s<=i) (hi:i < l.length):s < l[i].1:=by
 have h1:=Es (l:=l) (s:=s) om;obtain ⟨d,rfl⟩:=Nat.exists_eq_add_of_le h;have:=hr.le d (nx l s) hi;omega
theorem oF {l:List Pnt}{s:Int} (h:nx l s=0):cG l s=0:=by rw [cG,h]
theorem oG {l:List Pnt}{s:Int}{n:Nat} (h:nx l s=n+1) (hn:n+1=l.length):cG l s=qR (l[n]'om).2:=by
 rw [cG,h];simp only [gE (show n < l.length by omega),List.getElem?_eq_none (show l.length<=n+1 by omega)]
theorem pY {l:List Pnt}{s:Int}{n:Nat} (h:nx l s=n+1) (hn:n+1 < l.length):cG l s=jD l[n] l[n+1] s:=by
 rw [cG,h];simp only [gE (show n < l.length by omega),gE hn]
theorem Ic (k:Nat) (s:Int) (B1 B2 ba oa c:Nat) (l:List Pnt) (w:World) (hk:k < l.length) (h1:bG w B1 0 [.slice (some ⟨ba,oa,none⟩) l.length c]) (h2:bG w B2 0 [.int .i64 s]) (h3:bG w ba (oa+k*4) (ptV l[k])) :
  CR 181 #[.int .i64 k,.pointer (some ⟨B1,0,none⟩),.pointer (some ⟨B2,0,none⟩)] w (.bool (decide (s < l[k].1))):=by
 generalize l[k]=p at *;obtain ⟨t,q⟩:=p;dsimp only [ptV] at *;refine aB [(0,.int .i64 k),(1,.pointer (some ⟨B1,0,none⟩)),(2,.pointer (some ⟨B2,0,none⟩))] Tryz.func181 Tryz.ntmps181 ?_;all_goals (refine go ?_;and_intros<;>first|exact trivial|repeat first|intro(Bk:Nat)|intro h)
 all_goals refine aA Tryz.func181 Tryz.results181 ?_
 all_goals exact bL (by first|(rw [dT om])|(rw [dF om]))
theorem Cc {w0 w:World}{M:List Row}{B1 B2 e1 e2 t1 t2 c:Nat}{a:Option Addr}{l:List Pnt}{s:Int} (hA:aE w0 a 4 (l.map ptV)) (hr:oE l) (hw:Sat w0 M w) (hm1:Row.blk B1 e1 [.slice a l.length c] t1∈M) (hm2:Row.blk B2 e2 [.int .i64 s] t2∈M) :
  CR 124 #[.int .i64 l.length,.func (.func 181) #[] #[.pointer (some ⟨B1,0,none⟩),.pointer (some ⟨B2,0,none⟩)]] w (.int .i64 (nx l s)):=by
 have hl:=hr.len;obtain ⟨ba,oa,rfl,hrow⟩:=aE.all hA om;refine kW 181 _ l.length (nx l s) (fun i=>match l[i]? with|none=>true|some p=>decide (s < p.1)) w om (xR l s) (fun i hi=>?_) (fun i h1 h2=>?_) fun k hk w' hb=>?_
 ·have:=xS hi
  rw [gE (Nat.lt_of_lt_of_le hi (xR l s))];exact dF om
 ·rw [gE h2]
  exact dT (Ha hr h1 h2)
 ·rw [gE hk]
  exact Ic k s B1 B2 ba oa c l w' hk ((hw.rowAt hm1).below hb) ((hw.rowAt hm2).below hb) (((hrow k hk).below hw.below).below hb)
theorem Id (a:Option Addr) (l:List Pnt) (c:Nat) (s:Int) (w:World) (hA:aE w a 4 (l.map ptV)) (hr:oE l) (hf:iK l) (hs1:-100000<=s) (hs2:s<=100000) :
  CR 173 #[.agg #[.slice a l.length c],.int .i64 s] w (qA (rQ (cG l s))):=by
 have hl:=hr.len;have hle:=xR l s;obtain ⟨ba,oa,ha,hrow⟩:=aE.all hA om;rcases hn:nx l s with _|n
 ·have hsr:=fun (M:List Row) w' (hw:Sat w M w') B1 B2 e1 e2 t1 t2 h1 h2=>Cc (B1:=B1) (B2:=B2) (e1:=e1) (e2:=e2) (t1:=t1) (t2:=t2) (c:=c) (s:=s) hA hr hw h1 h2
  rw [oF hn];rw [hn] at hsr;refine aB [(0,.agg #[.slice a l.length c]),(1,.int .i64 s)] Tryz.func173 Tryz.ntmps173 ?_;repeat' first|(refine gp ?_;and_intros<;>first|exact trivial|repeat first|intro(Bk:Nat)|intro h)|(apply G.cV (g:=124);rfl;rfl;exact fun w' hw=>hsr _ w' hw _ _ _ _ _ _ (by exact mm) (by exact mm))
  all_goals exact aA Tryz.func173 Tryz.results173 rfl
 have hsr:=fun (M:List Row) w' (hw:Sat w M w') B1 B2 e1 e2 t1 t2 h1 h2=>Cc (B1:=B1) (B2:=B2) (e1:=e1) (e2:=e2) (t1:=t1) (t2:=t2) (c:=c) (s:=s) hA hr hw h1 h2
 rw [hn] at hsr;subst ha;have hp:=hrow n om;have q1:=xS (l:=l) (s:=s) (i:=n) om;have m1:=hr.mem n om;have v1:=hf.2 _ (gM (show n < l.length by omega))
 by_cases hlast:n+1=l.length
 ·rw [oG hn hlast,Je m1.2.2]
  generalize l[n]=p at *;obtain ⟨ps,pn,pm,pd⟩:=p;dsimp only [ptV] at *;refine aB [(0,.agg #[.slice (some ⟨ba,oa,none⟩) l.length c]),(1,.int .i64 s)] Tryz.func173 Tryz.ntmps173 ?_;repeat' first|(refine gp ?_;and_intros<;>first|exact trivial|repeat first|intro(Bk:Nat)|intro h)|(apply G.cV (g:=124);rfl;rfl;exact fun w' hw=>hsr _ w' hw _ _ _ _ _ _ (by exact mm) (by exact mm))
  all_goals exact aA Tryz.func173 Tryz.results173 rfl
 have hq:=hrow (n+1) om;have q2:=Es (l:=l) (s:=s) om;have q2:s < (l[n+1]'om).1:=by simpa only [hn] using q2
 have m2:=hr.mem (n+1) om;have v2:=hf.2 _ (gM (show n+1 < l.length by omega))
 rw [pY hn om,jD];generalize l[n]=p at *;generalize l[n+1]=q at *;obtain ⟨ps,p⟩:=p;obtain ⟨qs,q⟩:=q;dsimp only [ptV] at *;obtain ⟨m1,m1',m1''⟩:=m1;obtain ⟨m2,m2',m2''⟩:=m2;have mk:=fun w'=>FA (s-ps) (qs-ps) w' om om om om om
 have z1:=zZ (m:=s-ps) (n:=qs-ps) om om om om om;have sb:=fun w'=>nZ q p w' (aF v2 dc).1 (aF v2 dc).2 (aF v1 dc).1 (aF v1 dc).2
 have z2:=jX (cQ v2) (cQ v1) dc dc;generalize ((s-ps:Int):Rat) / ((qs-ps:Int):Rat)=X at *;generalize qR q-qR p=D at *;have ml:=fun w'=>kR (rQ X) (rQ D) w' (aF z1 dc).1 (aF z1 dc).2 (aF z2 dc).1 (aF z2 dc).2
 have z3:=fY z1 z2 dc dc;rw [bR,bR] at ml;have ad:=fun w'=>jA p (rQ (X*D)) w' (aF v1 dc).1 (aF v1 dc).2 (aF z3 dc).1 (aF z3 dc).2
 rw [bR] at ad;generalize rQ (qR p+X*D)=R at *;generalize rQ (X*D)=XD at *;generalize rQ X=X at *;generalize rQ D=D at *;obtain ⟨pn,pm,pd⟩:=p;obtain ⟨qn,qm,qd⟩:=q;clear hf hr m1'' m2'';refine aB [(0,.agg #[.slice (some ⟨ba,oa,none⟩) l.length c]),(1,.int .i64 s)] Tryz.func173 Tryz.ntmps173 ?_;repeat' first|(refine gp ?_;and_intros<;>first|exact trivial|repeat first|intro(Bk:Nat)|intro h)|(apply G.cV (g:=124);rfl;rfl;exact fun w' hw=>hsr _ w' hw _ _ _ _ _ _ (by exact mm) (by exact mm))|(apply G.cV (g:=182);rfl;rfl;exact fun w' _=>mk w')|(apply G.cV (g:=28);rfl;rfl;exact fun w' _=>sb w')|(apply G.cV (g:=83);rfl;rfl;exact fun w' _=>ml w')|(apply G.cV (g:=27);rfl;rfl;exact fun w' _=>ad w')
 all_goals exact aA Tryz.func173 Tryz.results173 rfl
def dO (l:List Pnt) (s:Int):Rat:=if bM l=0 then cG l s else 0
theorem FD (a:Option Addr) (l:List Pnt) (c:Nat) (s:Int) (w:World) (hA:aE w a 4 (l.map ptV)) (hf:iK l) (hs1:-100000<=s) (hs2:s<=100000) :
  CR 162 #[.agg #[.slice a l.length c],.int .i64 s] w (qA (rQ (dO l s))):=by
 have hc:=fun w' (hb:Below w.heap.size w w')=>nC a l c w' (hA.below hb) hf
 have ha:=fun (h:bM l=0) w' (hb:Below w.heap.size w w')=>Id a l c s w' (hA.below hb) (Dh h) hf hs1 hs2
 rw [dO];by_cases h:bM l=0
 ·have ha:=ha h
  rw [h] at hc;rw [if_pos h];refine aB [(0,.agg #[.slice a l.length c]),(1,.int .i64 s)] Tryz.func162 Tryz.ntmps162 ?_;repeat' first|(refine gp ?_;and_intros<;>first|exact trivial|repeat first|intro(Bk:Nat)|intro h)|(apply G.cV (g:=142);rfl;rfl;exact fun w' hw=>hc w' hw.below)|(apply G.cV (g:=173);rfl;rfl;exact fun w' hw=>ha w' hw.below)
  all_goals exact aA Tryz.func162 Tryz.results162 rfl
 ·rw [if_neg h]
  generalize bM l=E at *;clear ha;refine aB [(0,.agg #[.slice a l.length c]),(1,.int .i64 s)] Tryz.func162 Tryz.ntmps162 ?_;repeat' first|(refine gp ?_;and_intros<;>first|exact trivial|repeat first|intro(Bk:Nat)|intro h)|(apply G.cV (g:=142);rfl;rfl;exact fun w' hw=>hc w' hw.below)
  all_goals exact aA Tryz.func162 Tryz.results162 rfl
structure Spn where
 from_:Int
 to_:Int
 wt:Q3
 dat:Int
 pts:List Pnt
 adr:Option Addr
 cap:Nat
def spV (s:Spn):List Value:=[.int .i64 s.from_,.int .i64 s.to_,.bool s.wt.neg,.string (bs s.wt.num),.string (bs s.wt.den),.int .i64 s.dat,.slice s.adr s.pts.length s.cap]
def spA (s:Spn):Value:=.agg #[.int .i64 s.from_,.int .i64 s.to_,.bool s.wt.neg,.string (bs s.wt.num),.string (bs s.wt.den),.int .i64 s.dat,.slice s.adr s.pts.length s.cap]
def fewS (s:Spn):Prop:=iK s.pts/\aH 80 s.wt
def lM (w:World) (s:Spn):Prop:=aE w s.adr 4 (s.pts.map ptV)
def aN (w:World) (a:Option Addr) (l:List Spn):Prop:=aE w a 7 (l.map spV)/\∀ s∈l,lM w s
theorem aN.below {w w':World}{a:Option Addr}{l:List Spn} (h:aN w a l) (hb:Below w.heap.size w w'):aN w' a l:=⟨h.1.below hb,fun s hs=>(h.2 s hs).below hb⟩
def aQ (s:Spn):Prop:=(0<=s.from_/\s.from_ < s.to_/\s.to_<=1402560/\-1000<=s.dat/\s.dat<=1000)/\aP s.wt/\bM s.pts=0
instance (s:Spn):Decidable (aQ s):=by unfold aQ;exact inferInstance
theorem uQ (s:Spn) (w:World) (hA:lM w s) (hf:fewS s) :
  CR 107 #[spA s] w (.bool (decide (aQ s))):=by
 have hv:=fun w'=>fX s.wt w' (aF hf.2 dc).1 (aF hf.2 dc).2
 have hc:=fun w' (hb:Below w.heap.size w w')=>nC s.adr s.pts s.cap w' (aE.below hA hb) hf.1
 have hR:aQ s ↔ (0<=s.from_/\s.from_ < s.to_/\s.to_<=1402560/\-1000<=s.dat/\s.dat<=1000)/\aP s.wt/\bM s.pts=0:=Iff.rfl;generalize hb:decide (aQ s)=b;have hb:b=true ↔ (0<=s.from_/\s.from_ < s.to_/\s.to_<=1402560/\-1000<=s.dat/\s.dat<=1000)/\aP s.wt/\bM s.pts=0:=by rw [<- hb,decide_eq_true_iff,hR]
 clear hA hf hR;obtain ⟨f,t,wt,d,pts,adr,cap⟩:=s;dsimp only [spA] at *;generalize bM pts=E at *;generalize hV:decide (aP wt)=V at *;have hV:aP wt ↔ V=true:=by rw [<- hV,decide_eq_true_iff]
 rw [hV] at hb;clear hV;refine aB [(0,.agg #[.int .i64 f,.int .i64 t,.bool wt.neg,.string (bs wt.num),.string (bs wt.den),.int .i64 d,.slice adr pts.length cap])] Tryz.func107 Tryz.ntmps107 ?_;cases V<;>cases b
 all_goals simp only [true_iff,false_iff,iff_false,iff_true,and_false,false_and,reduceCtorEq,true_and,eq_self] at hb
 repeat' first|(refine gp ?_;and_intros<;>first|exact trivial|repeat first|intro(Bk:Nat)|intro h)|(apply G.cV (g:=26);rfl;rfl;exact fun w' _=>hv w')|(apply G.cV (g:=142);rfl;rfl;exact fun w' hw=>hc w' hw.below)
 all_goals refine aA Tryz.func107 Tryz.results107 ?_
 all_goals (first|rfl|(exfalso;simp at hb;done)|(exfalso;omega))
def mI (last:Int):List Spn->Int
 | []=>0
 | s::r=>if (!decide (aQ s) || decide (s.from_ < last))=true then 1 else mI s.to_ r
def aZ (l:List Spn):Int:=if 400 < l.length then 2 else mI 0 l
theorem Ae {l:List Spn}{k:Nat}{x:Int} (hk:k < l.length):mI x (l.drop k)=if (!decide (aQ l[k]) || decide (l[k].from_ < x))=true then 1 else mI l[k].to_ (l.drop (k+1)):=by
 rw [List.drop_eq_getElem_cons hk];rfl
theorem lN (a:Option Addr) (l:List Spn) (c:Nat) (w:World) (hA:aN w a l) (hf:∀ s∈l,fewS s) :
  CR 58 #[.slice a l.length c] w (.int .i64 (aZ l)):=by
 refine aB [(0,.slice a l.length c)] Tryz.func58 Tryz.ntmps58 ?_;rw [aZ];by_cases hl:400 < l.length
 ·rw [if_pos hl]
  all_goals (refine go ?_;and_intros<;>first|exact trivial|repeat first|intro(Bk:Nat)|intro h)
  all_goals exact aA Tryz.func58 Tryz.results58 rfl
 rw [if_neg hl];generalize hE:mI 0 l=E;all_goals (refine go ?_;and_intros<;>first|exact trivial|repeat first|intro(Bk:Nat)|intro h)
 refine J.loop (c:=_) ((0,0):Nat×Int) (fun s=>l.length-s.1) (fun s=>[(3,.int .i64 s.2),(9,.slice a l.length c),(10,.int .i64 l.length),(11,.int .i64 s.1)]) (fun s=>[]) (fun s=>s.1<=l.length/\mI s.2 (l.drop s.1)=E) ?_ sbT sbL ?_
 ·exact ⟨Nat.zero_le _,hE⟩
 clear hE;intro ⟨k,x⟩ ⟨h1,h2⟩ ih;dsimp only at h1 h2 ⊢;by_cases hk:k < l.length
 ·obtain ⟨ba,oa,rfl,hrow⟩:=aE.all hA.1 om
  have hr:=hrow k hk;have hm:=gM hk;have hv:=fun w' (hb:Below w.heap.size w w')=>uQ l[k] w' (aE.below (hA.2 _ hm) hb) (hf _ hm)
  rw [Ae hk] at h2;clear hm;generalize decide (aQ l[k])=R at *;generalize l[k]=s at *;obtain ⟨f,t,wt,d,pts,adr,cap⟩:=s;dsimp only [spV,spA] at *;by_cases hx:f < x
  ·rw [if_pos (by simp [hx])] at h2
   subst h2;cases R;all_goals skip
   repeat' first|(refine gp ?_;and_intros<;>first|exact trivial|repeat first|intro(Bk:Nat)|intro h)|(apply G.cV (g:=107);rfl;rfl;exact fun w' hw=>hv w' hw.below)
   all_goals exact aA Tryz.func58 Tryz.results58 rfl
  cases R
  ·rw [if_pos (by simp)] at h2
   subst h2;repeat' first|(refine gp ?_;and_intros<;>first|exact trivial|repeat first|intro(Bk:Nat)|intro h)|(apply G.cV (g:=107);rfl;rfl;exact fun w' hw=>hv w' hw.below)
   all_goals exact aA Tryz.func58 Tryz.results58 rfl
  ·rw [if_neg (by simp [hx])] at h2
   repeat' first|(refine gp ?_;and_intros<;>first|exact trivial|repeat first|intro(Bk:Nat)|intro h)|(apply G.cV (g:=107);rfl;rfl;exact fun w' hw=>hv w' hw.below)
   exact J.fin (ih (k+1,t) ⟨hk,h2⟩ (by dsimp only;omega))
 ·rw [show k=l.length by omega,List.drop_length] at h2
  subst h2;all_goals (refine go ?_;and_intros<;>first|exact trivial|repeat first|intro(Bk:Nat)|intro h)
  all_goals exact aA Tryz.func58 Tryz.results58 rfl
theorem FE {l:List Pnt}{s:Int} (hr:oE l) (hf:iK l) (hs1:-100000<=s) (hs2:s<=100000):aH 60 (rQ (cG l s)):=by
 have hle:=xR l s;rcases hn:nx l s with _|n
 ·rw [oF hn];exact dX
 have v1:=hf.2 _ (gM (show n < l.length by omega))
 by_cases hlast:n+1=l.length
 ·rw [oG hn hlast]
  exact aF (cQ v1) dc
 have v2:=hf.2 _ (gM (show n+1 < l.length by omega))
 have m1:=hr.mem n om;have m2:=hr.mem (n+1) om;have q1:=xS (l:=l) (s:=s) (i:=n) om;have q2:s < (l[n+1]'om).1:=Ha hr om om;rw [pY hn om,jD];exact aF (eT (cQ v1) (fY (zZ om om om om om) (jX (cQ v2) (cQ v1) dc dc) dc dc) dc dc) dc
theorem wG {l:List Pnt}{s:Int} (hf:iK l) (hs1:-100000<=s) (hs2:s<=100000):aH 60 (rQ (dO l s)):=by
 rw [dO];split
 ·exact FE (Dh (by assumption)) hf hs1 hs2
 ·exact dX
def bC (s:Spn) (t:Int):Rat:=qR s.wt*dO s.pts (t+s.dat)
theorem nD {s:Spn}{t:Int} (hf:fewS s) (hR:aQ s) (h1:0<=t) (h2:t<=1000):aH 140 (rQ (bC s t)):=by
 obtain ⟨hR,_,_⟩:=hR;exact fY (cQ hf.2) (wG hf.1 om om) dc dc
theorem xT (s:Spn) (t:Int) (w:World) (hA:lM w s) (hf:fewS s) (hR:aQ s) (h1:0<=t) (h2:t<=1000) :
  CR 129 #[spA s,.int .i64 t] w (qA (rQ (bC s t))):=by
 obtain ⟨hR,_,_⟩:=hR;have hc:=fun w' (hb:Below w.heap.size w w')=>FD s.adr s.pts s.cap (t+s.dat) w' (aE.below hA hb) hf.1 om om
 have hfl:=wG (s:=t+s.dat) hf.1 om om;have ml:=fun w'=>kR s.wt (rQ (dO s.pts (t+s.dat))) w' (aF hf.2 dc).1 (aF hf.2 dc).2 (aF hfl dc).1 (aF hfl dc).2
 rw [bR] at ml;rw [bC];clear hA hf hfl;obtain ⟨f,u,wt,d,pts,adr,cap⟩:=s;dsimp only [spA] at *;generalize rQ (qR wt*dO pts (t+d))=R at *;generalize rQ (dO pts (t+d))=F at *;refine aB [(0,.agg #[.int .i64 f,.int .i64 u,.bool wt.neg,.string (bs wt.num),.string (bs wt.den),.int .i64 d,.slice adr pts.length cap]),(1,.int .i64 t)] Tryz.func129 Tryz.ntmps129 ?_;repeat' first|(refine gp ?_;and_intros<;>first|exact trivial|repeat first|intro(Bk:Nat)|intro h)|(apply G.cV (g:=162);rfl;rfl;exact fun w' hw=>hc w' hw.below)|(apply G.cV (g:=83);rfl;rfl;exact fun w' _=>ml w')
 all_goals exact aA Tryz.func129 Tryz.results129 rfl
def Et (s:Spn) (t:Int):Q3×Int:=if ¬ aQ s then (aY,1) else if t < 0∨1000 < t then (aY,3) else (rQ (bC s t),0)
abbrev nE (x:Q3×Int):Value:=.agg #[.bool x.1.neg,.string (bs x.1.num),.string (bs x.1.den),.int .i64 x.2]
theorem xU (s:Spn) (t:Int) (w:World) (hA:lM w s) (hf:fewS s) :
  CR 84 #[spA s,.int .i64 t] w (.tuple #[qA (Et s t).1,.int .i64 (Et s t).2]):=by
 have hv:=fun w' (hb:Below w.heap.size w w')=>uQ s w' (aE.below hA hb) hf
 rw [Et];by_cases hR:aQ s
 ·rw [dT hR] at hv
  rw [if_neg (fun h=>h hR)]
  by_cases ht:t < 0∨1000 < t
  ·rw [if_pos ht]
   clear hA hf hR;obtain ⟨f,u,wt,d,pts,adr,cap⟩:=s;dsimp only [spA] at *;refine aB [(0,.agg #[.int .i64 f,.int .i64 u,.bool wt.neg,.string (bs wt.num),.string (bs wt.den),.int .i64 d,.slice adr pts.length cap]),(1,.int .i64 t)] Tryz.func84 Tryz.ntmps84 ?_;repeat' first|(refine gp ?_;and_intros<;>first|exact trivial|repeat first|intro(Bk:Nat)|intro h)|(apply G.cV (g:=107);rfl;rfl;exact fun w' hw=>hv w' hw.below)
   all_goals exact hU Tryz.func84 Tryz.results84 rfl
  ·rw [if_neg ht]
   have hr:=fun w' (hb:Below w.heap.size w w')=>xT s t w' (aE.below hA hb) hf hR om om
   generalize rQ (bC s t)=R at *;clear hA hf hR;obtain ⟨f,u,wt,d,pts,adr,cap⟩:=s;dsimp only [spA] at *;refine aB [(0,.agg #[.int .i64 f,.int .i64 u,.bool wt.neg,.string (bs wt.num),.string (bs wt.den),.int .i64 d,.slice adr pts.length cap]),(1,.int .i64 t)] Tryz.func84 Tryz.ntmps84 ?_;repeat' first|(refine gp ?_;and_intros<;>first|exact trivial|repeat first|intro(Bk:Nat)|intro h)|(apply G.cV (g:=107);rfl;rfl;exact fun w' hw=>hv w' hw.below)|(apply G.cV (g:=129);rfl;rfl;exact fun w' hw=>hr w' hw.below)
   all_goals exact hU Tryz.func84 Tryz.results84 rfl
 ·rw [dF hR] at hv
  rw [if_pos hR];clear hA hf hR;obtain ⟨f,u,wt,d,pts,adr,cap⟩:=s;dsimp only [spA] at *;refine aB [(0,.agg #[.int .i64 f,.int .i64 u,.bool wt.neg,.string (bs wt.num),.string (bs wt.den),.int .i64 d,.slice adr pts.length cap]),(1,.int .i64 t)] Tryz.func84 Tryz.ntmps84 ?_;repeat' first|(refine gp ?_;and_intros<;>first|exact trivial|repeat first|intro(Bk:Nat)|intro h)|(apply G.cV (g:=107);rfl;rfl;exact fun w' hw=>hv w' hw.below)
  all_goals exact hU Tryz.func84 Tryz.results84 rfl
end Go.Proofs.YtjcecdmbfmccoaaGreatDoor
/-
 Contracts: the same curves and spans;few of them.
-/
namespace Go.Sl
open Go.RowKit Go.Num
variable {C:Ctx}{st:List (Nat×Value)}{M:List Row}{k:List Item}{q q':Md}{all rest:List Oper}{d:Nat}{opn:Op}{ty:TypeId}{pos:String}{after:Array Edge}{gd:Option (Nat×Bool)}
class Pq (P:Program) (T:TypeId):Prop where
 h:∀ (s:Int) (a:Bool) (x u:ByteArray) w,(Op.equal T (.agg #[.int .i64 s,.bool a,.string x,.string u]) (.agg #[.int .i64 s,.bool a,.string x,.string u])).run P w=.ok true w
 g:P.eqGuardType P.depth T=false
end Go.Sl
namespace Go.Proofs.YtjcecdmbfmccoaaGreatDoor
open Go.RowKit Go.Sl Go.Num
instance (k:Nat) (a:Q3):Decidable (aH k a):=by unfold aH;exact inferInstance
instance (l:List Pnt):Decidable (iK l):=by unfold iK;exact inferInstance
def wH (s:Spn):Prop:=iK s.pts/\aH 40 s.wt
instance (s:Spn):Decidable (wH s):=by unfold wH;exact inferInstance
def kH (most:Nat) (l:List Spn):Prop:=¬ (most < l.length/\l.length<=400∨410 < l.length)/\∀ s∈l,wH s
instance (most:Nat) (l:List Spn):Decidable (kH most l):=by unfold kH;exact inferInstance
theorem kH.ok {n:Nat}{l:List Spn} (h:kH n l):∀ s∈l,fewS s:=fun s hs=>⟨(h.2 s hs).1,aF (h.2 s hs).2 dc⟩
def inS (t:Int) (s:Spn):Bool:=decide (s.from_<=t) && decide (t < s.to_)
def bW (l:List Spn) (t:Int):Nat:=l.findIdx (inS t)
theorem lE (l:List Spn) (t:Int):bW l t<=l.length:=List.findIdx_le_length
theorem wI {l:List Spn}{t:Int} (h:bW l t < l.length):inS t l[bW l t]=true:=List.findIdx_getElem (w:=h)
def bO (l:List Spn) (t:Int):Int:=if bW l t < l.length then (bW l t:Int) else -1
def bH (l:List Spn) (t st:Int):Rat:=match l[bW l t]? with
 | none=>0
 | some s=>bC s st
theorem fL (n lo hi:Int) (w:World):CR 57 #[.int .i64 n,.int .i64 lo,.int .i64 hi] w (.bool (decide (lo<=n/\n<=hi))):=by
 refine aB [(0,.int .i64 n),(1,.int .i64 lo),(2,.int .i64 hi)] Tryz.func57 Tryz.ntmps57 ?_;all_goals (refine go ?_;and_intros<;>first|exact trivial|repeat first|intro(Bk:Nat)|intro h)
 all_goals refine aA Tryz.func57 Tryz.results57 ?_
 all_goals exact bL (by first|(rw [dT om])|(rw [dF om]))
def jM (s:Int):Bool:=!decide (0<=s/\s<=1000)
theorem Di (s:Int) (w:World):CR 106 #[.int .i64 s] w (.bool (jM s)):=by
 have hw1:=fun w'=>fL s 0 1000 w'
 rw [jM];generalize decide (0<=s/\s<=1000)=b at *;refine aB [(0,.int .i64 s)] Tryz.func106 Tryz.ntmps106 ?_;cases b;all_goals skip
 repeat' first|(refine gp ?_;and_intros<;>first|exact trivial|repeat first|intro(Bk:Nat)|intro h)|(apply G.cV (g:=57);rfl;rfl;exact fun w' _=>hw1 w')
 all_goals exact aA Tryz.func106 Tryz.results106 rfl
def L9 (l:List Int) (p:Int->Bool):Int:=if l.findIdx p < l.length then (l.findIdx p:Int) else -1
theorem yG (g:FuncId) [hF:Fun Tryz.prog g] (p:Int->Bool) (a:Option Addr) (l:List Int) (c:Nat) (w:World) (hA:aE w a 1 (l.map isV)) (hl:l.length<=1000000000)
  (hf:∀ s w',Calls Tryz.prog g (#[.int .i64 s]++#[]) w' fun e w2=>e=.returned (.bool (p s))/\Below w'.heap.size w' w2) :
  CR 141 #[.slice a l.length c,.func (.func g) #[] #[]] w (.int .i64 (L9 l p)):=by
 have hle:l.findIdx p<=l.length:=List.findIdx_le_length;refine aB [(0,.slice a l.length c),(1,.func (.func g) #[] #[])] Tryz.func141 Tryz.ntmps141 ?_;all_goals (refine go ?_;and_intros<;>first|exact trivial|repeat first|intro(Bk:Nat)|intro h)
 refine J.loop (c:=_) (0:Nat) (fun s=>l.length-s) (fun s=>[(0,.slice a l.length c),(1,.func (.func g) #[] #[]),(7,.int .i64 l.length),(8,.int .i64 s)]) (fun s=>[]) (fun s=>s<=l.findIdx p) ?_ sbT sbL ?_
 ·exact Nat.zero_le _
 intro k h1 ih;by_cases hk:k < l.length
 ·obtain ⟨ba,oa,rfl,hra⟩:=aE.all hA om
  have hr:=hra k hk;have hfk:=hf l[k];by_cases hq:l.findIdx p=k
  ·have hp:p l[k]=true:=by
    have:=List.findIdx_getElem (w:=(show l.findIdx p < l.length by omega))
    simpa only [hq] using this
   rw [L9,if_pos om,hq];rw [hp] at hfk;generalize l[k]=s at *;dsimp only [isV] at *;repeat' first|(refine gp ?_;and_intros<;>first|exact trivial|repeat first|intro(Bk:Nat)|intro h)|(apply G.PQ (g:=g);rfl;rfl;rfl;rfl;rfl;exact fun w' _=>hfk w')
   all_goals exact aA Tryz.func141 Tryz.results141 rfl
  ·have hp:p l[k]=false:=by
    have:=List.not_of_lt_findIdx (show k < l.findIdx p by omega)
    simpa using this
   rw [hp] at hfk;generalize l[k]=s at *;dsimp only [isV] at *;repeat' first|(refine gp ?_;and_intros<;>first|exact trivial|repeat first|intro(Bk:Nat)|intro h)|(apply G.PQ (g:=g);rfl;rfl;rfl;rfl;rfl;exact fun w' _=>hfk w')
   exact J.fin (ih (k+1) om om)
 ·rw [L9,if_neg om]
  all_goals (refine go ?_;and_intros<;>first|exact trivial|repeat first|intro(Bk:Nat)|intro h)
  all_goals exact aA Tryz.func141 Tryz.results141 rfl
theorem tF (g:FuncId) [hF:Fun Tryz.prog g] (p:Int->Bool) (a:Option Addr) (l:List Int) (c:Nat) (w:World) (hA:aE w a 1 (l.map isV)) (hl:l.length<=1000000000)
  (hf:∀ s w',Calls Tryz.prog g (#[.int .i64 s]++#[]) w' fun e w2=>e=.returned (.bool (p s))/\Below w'.heap.size w' w2) :
  CR 105 #[.slice a l.length c,.func (.func g) #[] #[]] w (.bool (l.any p)):=by
 have hi:=fun w' (hb:Below w.heap.size w w')=>yG g p a l c w' (hA.below hb) hl hf
 have hlt:l.findIdx p < l.length ↔ l.any p=true:=by rw [List.findIdx_lt_length,List.any_eq_true]
 rw [L9] at hi;generalize l.any p=b at *;by_cases h:l.findIdx p < l.length
 ·rw [if_pos h] at hi
  have hb:=hlt.1 h;subst hb;generalize l.findIdx p=j at *;refine aB [(0,.slice a l.length c),(1,.func (.func g) #[] #[])] Tryz.func105 Tryz.ntmps105 ?_;repeat' first|(refine gp ?_;and_intros<;>first|exact trivial|repeat first|intro(Bk:Nat)|intro h)|(apply G.cV (g:=141);rfl;rfl;exact fun w' hw=>hi w' hw.below)
  all_goals exact aA Tryz.func105 Tryz.results105 rfl
 ·rw [if_neg h] at hi
  have hb:b=false:=by cases b<;>simp_all
  subst hb;refine aB [(0,.slice a l.length c),(1,.func (.func g) #[] #[])] Tryz.func105 Tryz.ntmps105 ?_;repeat' first|(refine gp ?_;and_intros<;>first|exact trivial|repeat first|intro(Bk:Nat)|intro h)|(apply G.cV (g:=141);rfl;rfl;exact fun w' hw=>hi w' hw.below)
  all_goals exact aA Tryz.func105 Tryz.results105 rfl
def dK (f:Int) (l:List Int):Bool:=decide (l.length<=40000/\0<=f/\f<=1402560-l.length) && !l.any jM
theorem oH (f:Int) (a:Option Addr) (l:List Int) (c:Nat) (w:World) (hA:aE w a 1 (l.map isV)) (hl:l.length<=1000000000) :
  CR 55 #[.agg #[.int .i64 f,.slice a l.length c]] w (.bool (dK f l)):=by
 have hc:=fun w' (hb:Below w.heap.size w w')=>tF 106 jM a l c w' (hA.below hb) hl (fun s w2=>by rw [Array.append_empty];exact Di s w2)
 have hw1:=fun w'=>fL f 0 (1402560-l.length) w'
 rw [dK];generalize l.any jM=b at *;by_cases h1:l.length<=40000
 ·by_cases h2:0<=f/\f<=1402560-l.length
  ·rw [dT h2] at hw1
   rw [dT ⟨h1,h2⟩];refine aB [(0,.agg #[.int .i64 f,.slice a l.length c])] Tryz.func55 Tryz.ntmps55 ?_;cases b;all_goals skip
   repeat' first|(refine gp ?_;and_intros<;>first|exact trivial|repeat first|intro(Bk:Nat)|intro h)|(apply G.cV (g:=57);rfl;rfl;exact fun w' _=>hw1 w')|(apply G.cV (g:=105);rfl;rfl;exact fun w' hw=>hc w' hw.below)
   all_goals exact aA Tryz.func55 Tryz.results55 rfl
  ·rw [dF h2] at hw1
   rw [dF (fun e=>h2 e.2)]
   refine aB [(0,.agg #[.int .i64 f,.slice a l.length c])] Tryz.func55 Tryz.ntmps55 ?_;repeat' first|(refine gp ?_;and_intros<;>first|exact trivial|repeat first|intro(Bk:Nat)|intro h)|(apply G.cV (g:=57);rfl;rfl;exact fun w' _=>hw1 w')
   all_goals exact aA Tryz.func55 Tryz.results55 rfl
 ·rw [dF (fun e=>h1 e.1)]
  refine aB [(0,.agg #[.int .i64 f,.slice a l.length c])] Tryz.func55 Tryz.ntmps55 ?_;all_goals (refine go ?_;and_intros<;>first|exact trivial|repeat first|intro(Bk:Nat)|intro h)
  all_goals exact aA Tryz.func55 Tryz.results55 rfl
def aI (l:List Spn):Int->List Int->Rat
 | _,[]=>0
 | f,s::r=>bH l f s+aI l (f+1) r
def pZ (f:Int) (n:Nat) (s:Spn):Bool:=decide (s.from_ < f) || decide (f+n < s.to_)
def kI (f:Int) (h:List Int) (l:List Spn):Q3×Int :=
 if aZ l≠0 then (aY,aZ l) else if dK f h=false then (aY,1) else if l.any (pZ f h.length)=true then (aY,19) else (rQ (aI l f h),0)
theorem Eu {l:List Spn}{x:Int} (h:mI x l=0):∀ s∈l,aQ s:=by
 induction l generalizing x with
 | nil=>simp
 | cons s r ih =>
  rw [mI] at h
  split at h
  ·cases h
  rename_i c1;intro t ht;rcases List.mem_cons.1 ht with rfl|ht
  ·simp only [Bool.or_eq_true,Bool.not_eq_true',decide_eq_false_iff_not,decide_eq_true_eq,not_or,Decidable.not_not] at c1
   exact c1.1
  ·exact ih h t ht
theorem cT {l:List Spn} (h:aZ l=0):l.length<=400/\∀ s∈l,aQ s:=by
 rw [aZ] at h
 split at h
 ·cases h
 ·exact ⟨by omega,Eu h⟩
theorem nF {f:Int}{h:List Int} (hr:dK f h=true):(h.length<=40000/\0<=f/\f<=1402560-h.length)/\∀ i (hi:i < h.length),0<=h[i]/\h[i]<=1000:=by
 rw [dK,Bool.and_eq_true,decide_eq_true_eq,Bool.not_eq_true'] at hr;refine ⟨hr.1,fun i hi=>?_⟩
 have:=List.any_eq_false.1 hr.2 _ (gM hi);rw [jM] at this;simpa using this
theorem Af {l:List Spn}{t st:Int} (hf:∀ s∈l,fewS s) (hR:∀ s∈l,aQ s) (h1:0<=st) (h2:st<=1000):aH 140 (rQ (bH l t st)):=by
 rw [bH];split
 ·exact dX
 ·rename_i s hs
  have hm:=List.mem_of_getElem? hs;exact nD (hf _ hm) (hR _ hm) h1 h2
structure Rn where
 from_:Int
 to_:Int
 tab:List (Int×Int)
 adr:Option Addr
 cap:Nat
 lo:Int
 hi:Int
def hoV (h:Int×Int):List Value:=[.int .i64 h.1,.int .i64 h.2]
def rnV (r:Rn):List Value:=[.int .i64 r.from_,.int .i64 r.to_,.slice r.adr r.tab.length r.cap,.int .i64 r.lo,.int .i64 r.hi]
def rnA (r:Rn):Value:=.agg #[.int .i64 r.from_,.int .i64 r.to_,.slice r.adr r.tab.length r.cap,.int .i64 r.lo,.int .i64 r.hi]
def mJ (w:World) (r:Rn):Prop:=aE w r.adr 2 (r.tab.map hoV)
def aW (w:World) (a:Option Addr) (l:List Rn):Prop:=aE w a 5 (l.map rnV)/\∀ r∈l,mJ w r
theorem aW.below {w w':World}{a:Option Addr}{l:List Rn} (h:aW w a l) (hb:Below w.heap.size w w'):aW w' a l:=⟨h.1.below hb,fun s hs=>(h.2 s hs).below hb⟩
def nG (h:Int×Int):Bool:=!decide (0<=h.1/\h.1<=1000) || !decide (1<=h.2/\h.2<=1402560)
def cJ:Option (Int×Int)->List (Int×Int)->Bool
 | _,[]=>true
 | p,h::r=>(match p with|none=>true|some q=>decide (q.1 < h.1)) && cJ (some h) r
def iM:List (Int×Int)->Int
 | []=>0
 | h::r=>h.2+iM r
def eB (r:Rn):Int:=if r.tab.length=0 then (if r.lo < 0∨r.hi < r.lo∨1000 < r.hi then 3 else 0) else if r.tab.any nG=true then 3 else if cJ none r.tab=true/\iM r.tab=r.to_-r.from_/\r.lo=0/\r.hi=0 then 0 else 1
theorem uR {l:List (Int×Int)}{k:Nat} (hk:k < l.length):cJ (prv l k) (l.drop k)=((match prv l k with|none=>true|some q=>decide (q.1 < l[k].1)) && cJ (prv l (k+1)) (l.drop (k+1))):=by
 rw [List.drop_eq_getElem_cons hk,prv,gE hk];cases prv l k<;>rfl
theorem wJ (r:Rn) (w:World):CR 56 #[rnA r] w (.bool (decide (r.tab.length=0))):=by
 obtain ⟨f,t,tab,adr,cap,lo,hi⟩:=r;dsimp only [rnA];refine aB [(0,.agg #[.int .i64 f,.int .i64 t,.slice adr tab.length cap,.int .i64 lo,.int .i64 hi])] Tryz.func56 Tryz.ntmps56 ?_;all_goals (refine go ?_;and_intros<;>first|exact trivial|repeat first|intro(Bk:Nat)|intro h)
 all_goals refine aA Tryz.func56 Tryz.results56 ?_
 all_goals exact bL (by first|(rw [dT om])|(rw [dF om]))
theorem FF (r:Rn) (w:World) (hA:mJ w r) (hl:r.tab.length<=64) (hr:0<=r.from_/\r.from_ < r.to_/\r.to_<=1402560) :
  CR 121 #[rnA r] w (.int .i64 (eB r)):=by
 rw [eB];obtain ⟨f,t,tab,adr,cap,lo,hi⟩:=r;dsimp only [rnA,mJ] at *;refine aB [(0,.agg #[.int .i64 f,.int .i64 t,.slice adr tab.length cap,.int .i64 lo,.int .i64 hi])] Tryz.func121 Tryz.ntmps121 ?_;by_cases h0:tab.length=0
 ·rw [if_pos h0]
  by_cases h1:lo < 0∨hi < lo∨1000 < hi
  ·rw [if_pos h1]
   all_goals (refine go ?_;and_intros<;>first|exact trivial|repeat first|intro(Bk:Nat)|intro h)
   all_goals exact aA Tryz.func121 Tryz.results121 rfl
  ·rw [if_neg h1]
   all_goals (refine go ?_;and_intros<;>first|exact trivial|repeat first|intro(Bk:Nat)|intro h)
   all_goals exact aA Tryz.func121 Tryz.results121 rfl
 rw [if_neg h0];all_goals (refine go ?_;and_intros<;>first|exact trivial|repeat first|intro(Bk:Nat)|intro h)
 refine J.loop (c:=_) (0:Nat) (fun s=>tab.length-s) (fun s=>[(1,.pointer (some ⟨_,0,none⟩)),(3,.int .i64 s)]) (fun s=>[.blk _ 67 [.int .i64 f,.int .i64 t,.slice adr tab.length cap,.int .i64 lo,.int .i64 hi] 5]) (fun s=>s<=tab.length/\∀ i (h:i < tab.length),i < s->nG tab[i]=false) ?_ sbT sbL ?_
 ·exact ⟨Nat.zero_le _,fun i h h2=>absurd h2 (Nat.not_lt_zero _)⟩
 intro k ⟨h3,h4⟩ ih;obtain ⟨ba,oa,rfl,hra⟩:=aE.all hA om;by_cases hk:k < tab.length
 ·have hrk:=hra k hk
  by_cases hq:nG tab[k]=true
  ·rw [if_pos (List.any_eq_true.2 ⟨_,gM hk,hq⟩)]
   simp only [nG,Bool.or_eq_true,Bool.not_eq_true',decide_eq_false_iff_not] at hq;clear ih h4;generalize tab[k]=s at *;obtain ⟨x,y⟩:=s;dsimp only [hoV] at *;all_goals (refine go ?_;and_intros<;>first|exact trivial|repeat first|intro(Bk:Nat)|intro h)
   all_goals exact aA Tryz.func121 Tryz.results121 rfl
  ·have hq2:nG tab[k]=false:=by simpa using hq
   have h4:∀ i (h:i < tab.length),i < k+1->nG tab[i]=false:=fun i h h5=>by
    rcases Nat.lt_or_ge i k with h6|h6
    ·exact h4 i h h6
    ·obtain rfl:i=k:=by omega
     exact hq2
   simp only [nG,Bool.or_eq_false_iff,Bool.not_eq_false',decide_eq_true_eq] at hq2;clear hq;generalize tab[k]=s at *;obtain ⟨x,y⟩:=s;dsimp only [hoV] at *;all_goals (refine go ?_;and_intros<;>first|exact trivial|repeat first|intro(Bk:Nat)|intro h)
   exact J.fin (ih (k+1) ⟨by omega,h4⟩ om)
 rw [show tab.any nG=false from List.any_eq_false.2 fun x hx=>by
  obtain ⟨i,h5,rfl⟩:=List.getElem_of_mem hx;rw [h4 i h5 om];decide]
 rw [if_neg dc];have h4:∀ i (h:i < tab.length),1<=tab[i].2/\tab[i].2<=1402560:=fun i h=>by
  have:=h4 i h om;simp only [nG,Bool.or_eq_false_iff,Bool.not_eq_false',decide_eq_true_eq] at this;exact this.2
 clear ih;generalize hS:iM tab=S;generalize hO:cJ none tab=O;all_goals (refine go ?_;and_intros<;>first|exact trivial|repeat first|intro(Bk:Nat)|intro h)
 clear hk h3;refine J.loop (c:=_) ((0,0):Nat×Int) (fun s=>tab.length-s.1) (fun s=>[(1,.pointer (some ⟨_,0,none⟩)),(5,.int .i64 s.2),(6,.int .i64 s.1)]) (fun s=>[.blk _ 67 [.int .i64 f,.int .i64 t,.slice (some ⟨ba,oa,none⟩) tab.length cap,.int .i64 lo,.int .i64 hi] 5]) (fun s=>s.1<=tab.length/\(0<=s.2/\s.2<=1402560*s.1)/\s.2+iM (tab.drop s.1)=S/\cJ (prv tab s.1) (tab.drop s.1)=O) ?_ sbT sbL ?_
 ·exact ⟨Nat.zero_le _,⟨Int.le_refl _,Int.le_refl _⟩,by rw [Int.zero_add];exact hS,hO⟩
 clear hS hO;intro ⟨k,x⟩ ⟨h3,⟨h5,h5'⟩,h6,h7⟩ ih;dsimp only at h3 h5 h5' h6 h7 ⊢;by_cases hk:k < tab.length
 ·have hrk:=hra k hk
  have h8:=h4 k hk;rw [uR hk] at h7;rw [List.drop_eq_getElem_cons hk,iM,<- Int.add_assoc] at h6;rcases k with _|j
  ·rw [show prv tab 0=none from rfl] at h7
   dsimp only at h7;rw [Bool.true_and] at h7;generalize tab[0]=s at *;obtain ⟨u,v⟩:=s;dsimp only [hoV] at *;all_goals (refine go ?_;and_intros<;>first|exact trivial|repeat first|intro(Bk:Nat)|intro h)
   exact J.fin (ih (1,x+v) ⟨hk,⟨by dsimp only;omega,by dsimp only;omega⟩,h6,h7⟩ (by dsimp only;omega))
  ·have hrj:=hra j om
   rw [show prv tab (j+1)=some tab[j] from gE om] at h7
   dsimp only at h7;generalize tab[j+1]=s at *;generalize tab[j]=p at *;obtain ⟨u,v⟩:=s;obtain ⟨u2,v2⟩:=p;dsimp only [hoV] at *;by_cases hlt:u2 < u
   ·rw [dT hlt,Bool.true_and] at h7
    all_goals (refine go ?_;and_intros<;>first|exact trivial|repeat first|intro(Bk:Nat)|intro h)
    exact J.fin (ih (j+2,x+v) ⟨hk,⟨by dsimp only;omega,by dsimp only;omega⟩,h6,h7⟩ (by dsimp only;omega))
   ·rw [dF hlt,Bool.false_and] at h7
    rw [if_neg (by rw [<- h7];simp)]
    clear ih;all_goals (refine go ?_;and_intros<;>first|exact trivial|repeat first|intro(Bk:Nat)|intro h)
    all_goals exact aA Tryz.func121 Tryz.results121 rfl
 ·rw [show k=tab.length by omega,List.drop_length] at h6 h7
  rw [cJ] at h7;rw [iM,Int.add_zero] at h6;subst h6 h7;clear ih;by_cases h9:x=t-f/\lo=0/\hi=0
  ·rw [if_pos ⟨rfl,h9⟩]
   all_goals (refine go ?_;and_intros<;>first|exact trivial|repeat first|intro(Bk:Nat)|intro h)
   all_goals exact aA Tryz.func121 Tryz.results121 rfl
  ·rw [if_neg (fun e=>h9 e.2)]
   all_goals (refine go ?_;and_intros<;>first|exact trivial|repeat first|intro(Bk:Nat)|intro h)
   all_goals exact aA Tryz.func121 Tryz.results121 rfl
theorem FG (r:Rn) (w:World) (hA:mJ w r) (hl:r.tab.length<=64) (hr:0<=r.from_/\r.from_ < r.to_/\r.to_<=1402560) :
  CR 104 #[rnA r] w (.int .i64 (eB r)):=by
 rw [eB];have hg:=fun w'=>wJ r w'
 obtain ⟨f,t,tab,adr,cap,lo,hi⟩:=r;dsimp only [rnA,mJ] at *;refine aB [(0,.agg #[.int .i64 f,.int .i64 t,.slice adr tab.length cap,.int .i64 lo,.int .i64 hi])] Tryz.func104 Tryz.ntmps104 ?_;by_cases h0:tab.length=0
 ·rw [if_pos h0]
  rw [dT h0] at hg;by_cases h1:lo < 0∨hi < lo∨1000 < hi
  ·rw [if_pos h1]
   repeat' first|(refine gp ?_;and_intros<;>first|exact trivial|repeat first|intro(Bk:Nat)|intro h)|(apply G.cV (g:=56);rfl;rfl;exact fun w' _=>hg w')
   all_goals exact aA Tryz.func104 Tryz.results104 rfl
  ·rw [if_neg h1]
   repeat' first|(refine gp ?_;and_intros<;>first|exact trivial|repeat first|intro(Bk:Nat)|intro h)|(apply G.cV (g:=56);rfl;rfl;exact fun w' _=>hg w')
   all_goals exact aA Tryz.func104 Tryz.results104 rfl
 rw [if_neg h0];rw [dF h0] at hg;repeat' first|(refine gp ?_;and_intros<;>first|exact trivial|repeat first|intro(Bk:Nat)|intro h)|(apply G.cV (g:=56);rfl;rfl;exact fun w' _=>hg w')
 refine J.loop (c:=_) (0:Nat) (fun s=>tab.length-s) (fun s=>[(1,.pointer (some ⟨_,0,none⟩)),(41,.slice adr tab.length cap),(42,.int .i64 tab.length),(43,.int .i64 s)]) (fun s=>[.blk _ 67 [.int .i64 f,.int .i64 t,.slice adr tab.length cap,.int .i64 lo,.int .i64 hi] 5]) (fun s=>s<=tab.length/\∀ i (h:i < tab.length),i < s->nG tab[i]=false) ?_ sbT sbL ?_
 ·exact ⟨Nat.zero_le _,fun i h h2=>absurd h2 (Nat.not_lt_zero _)⟩
 intro k ⟨h3,h4⟩ ih;obtain ⟨ba,oa,rfl,hra⟩:=aE.all hA om;by_cases hk:k < tab.length
 ·have hrk:=hra k hk
  by_cases hq:nG tab[k]=true
  ·rw [if_pos (List.any_eq_true.2 ⟨_,gM hk,hq⟩)]
   rw [nG] at hq;clear ih h4;generalize tab[k]=s at *;obtain ⟨x,y⟩:=s;dsimp only [hoV] at *;have hw1:=fun w'=>fL x 0 1000 w'
   have hw2:=fun w'=>fL y 1 1402560 w'
   generalize decide (0<=x/\x<=1000)=b1 at *;generalize decide (1<=y/\y<=1402560)=b2 at *;cases b1<;>cases b2
   all_goals try (exact absurd hq dc)
   repeat' first|(refine gp ?_;and_intros<;>first|exact trivial|repeat first|intro(Bk:Nat)|intro h)|(apply G.cV (g:=57) (vs:=[.int .i64 x,.int .i64 0,.int .i64 1000]);rfl;rfl;exact fun w' _=>hw1 w')|(apply G.cV (g:=57) (vs:=[.int .i64 y,.int .i64 1,.int .i64 1402560]);rfl;rfl;exact fun w' _=>hw2 w')
   all_goals exact aA Tryz.func104 Tryz.results104 rfl
  ·have hq2:nG tab[k]=false:=by simpa using hq
   have h4:∀ i (h:i < tab.length),i < k+1->nG tab[i]=false:=fun i h h5=>by
    rcases Nat.lt_or_ge i k with h6|h6
    ·exact h4 i h h6
    ·obtain rfl:i=k:=by omega
     exact hq2
   rw [nG] at hq2;clear hq;generalize tab[k]=s at *;obtain ⟨x,y⟩:=s;dsimp only [hoV] at *;have hw1:=fun w'=>fL x 0 1000 w'
   have hw2:=fun w'=>fL y 1 1402560 w'
   generalize decide (0<=x/\x<=1000)=b1 at *;generalize decide (1<=y/\y<=1402560)=b2 at *;cases b1<;>cases b2
   all_goals try (exact absurd hq2 dc)
   repeat' first|(refine gp ?_;and_intros<;>first|exact trivial|repeat first|intro(Bk:Nat)|intro h)|(apply G.cV (g:=57) (vs:=[.int .i64 x,.int .i64 0,.int .i64 1000]);rfl;rfl;exact fun w' _=>hw1 w')|(apply G.cV (g:=57) (vs:=[.int .i64 y,.int .i64 1,.int .i64 1402560]);rfl;rfl;exact fun w' _=>hw2 w')
   exact J.fin (ih (k+1) ⟨by omega,h4⟩ om)
 rw [show tab.any nG=false from List.any_eq_false.2 fun x hx=>by
  obtain ⟨i,h5,rfl⟩:=List.getElem_of_mem hx;rw [h4 i h5 om];decide]
 rw [if_neg dc];have h4:∀ i (h:i < tab.length),1<=tab[i].2/\tab[i].2<=1402560:=fun i h=>by
  have:=h4 i h om;simp only [nG,Bool.or_eq_false_iff,Bool.not_eq_false',decide_eq_true_eq] at this;exact this.2
 clear ih;generalize hS:iM tab=S;generalize hO:cJ none tab=O;all_goals (refine go ?_;and_intros<;>first|exact trivial|repeat first|intro(Bk:Nat)|intro h)
 clear hk h3;refine J.loop (c:=_) ((0,0):Nat×Int) (fun s=>tab.length-s.1) (fun s=>[(1,.pointer (some ⟨_,0,none⟩)),(5,.int .i64 s.2),(59,.slice (some ⟨ba,oa,none⟩) tab.length cap),(60,.int .i64 tab.length),(61,.int .i64 s.1)]) (fun s=>[.blk _ 67 [.int .i64 f,.int .i64 t,.slice (some ⟨ba,oa,none⟩) tab.length cap,.int .i64 lo,.int .i64 hi] 5]) (fun s=>s.1<=tab.length/\(0<=s.2/\s.2<=1402560*s.1)/\s.2+iM (tab.drop s.1)=S/\cJ (prv tab s.1) (tab.drop s.1)=O) ?_ sbT sbL ?_
 ·exact ⟨Nat.zero_le _,⟨Int.le_refl _,Int.le_refl _⟩,by rw [Int.zero_add];exact hS,hO⟩
 clear hS hO;intro ⟨k,x⟩ ⟨h3,⟨h5,h5'⟩,h6,h7⟩ ih;dsimp only at h3 h5 h5' h6 h7 ⊢;by_cases hk:k < tab.length
 ·have hrk:=hra k hk
  have h8:=h4 k hk;rw [uR hk] at h7;rw [List.drop_eq_getElem_cons hk,iM,<- Int.add_assoc] at h6;rcases k with _|j
  ·rw [show prv tab 0=none from rfl] at h7
   dsimp only at h7;rw [Bool.true_and] at h7;generalize tab[0]=s at *;obtain ⟨u,v⟩:=s;dsimp only [hoV] at *;all_goals (refine go ?_;and_intros<;>first|exact trivial|repeat first|intro(Bk:Nat)|intro h)
   exact J.fin (ih (1,x+v) ⟨hk,⟨by dsimp only;omega,by dsimp only;omega⟩,h6,h7⟩ (by dsimp only;omega))
  ·have hrj:=hra j om
   rw [show prv tab (j+1)=some tab[j] from gE om] at h7
   dsimp only at h7;generalize tab[j+1]=s at *;generalize tab[j]=p at *;obtain ⟨u,v⟩:=s;obtain ⟨u2,v2⟩:=p;dsimp only [hoV] at *;by_cases hlt:u2 < u
   ·rw [dT hlt,Bool.true_and] at h7
    all_goals (refine go ?_;and_intros<;>first|exact trivial|repeat first|intro(Bk:Nat)|intro h)
    exact J.fin (ih (j+2,x+v) ⟨hk,⟨by dsimp only;omega,by dsimp only;omega⟩,h6,h7⟩ (by dsimp only;omega))
   ·rw [dF hlt,Bool.false_and] at h7
    rw [if_neg (by rw [<- h7];simp)]
    clear ih;all_goals (refine go ?_;and_intros<;>first|exact trivial|repeat first|intro(Bk:Nat)|intro h)
    all_goals exact aA Tryz.func104 Tryz.results104 rfl
 ·rw [show k=tab.length by omega,List.drop_length] at h6 h7
  rw [cJ] at h7;rw [iM,Int.add_zero] at h6;subst h6 h7;clear ih;by_cases h9:x=t-f/\lo=0/\hi=0
  ·rw [if_pos ⟨rfl,h9⟩]
   all_goals (refine go ?_;and_intros<;>first|exact trivial|repeat first|intro(Bk:Nat)|intro h)
   all_goals exact aA Tryz.func104 Tryz.results104 rfl
  ·rw [if_neg (fun e=>h9 e.2)]
   all_goals (refine go ?_;and_intros<;>first|exact trivial|repeat first|intro(Bk:Nat)|intro h)
   all_goals exact aA Tryz.func104 Tryz.results104 rfl
def inT (r:Rn):Bool:=decide (0<=r.from_/\r.from_ < r.to_/\r.to_<=1402560)
def gP (prev:Option Rn):List Rn->Int
 | []=>0
 | r::t=>if inT r=false then 3 else if (match prev with|none=>false|some q=>decide (r.from_≠q.to_))=true then 1 else if eB r≠0 then eB r else gP (some r) t
def pA (l:List Rn):Int:=match l[0]?,l[l.length-1]? with
 | some a,some b=>b.to_-a.from_
 | _,_=>0
def aX (l:List Rn):Int:=if 2000 < l.length then 2 else if gP none l≠0 then gP none l else if 40000 < pA l then 2 else 0
theorem Ag {l:List Rn}{k:Nat} (hk:k < l.length):gP (prv l k) (l.drop k)=if inT l[k]=false then 3 else if (match prv l k with|none=>false|some q=>decide (l[k].from_≠q.to_))=true then 1 else if eB l[k]≠0 then eB l[k] else gP (prv l (k+1)) (l.drop (k+1)):=by
 rw [List.drop_eq_getElem_cons hk,prv,gE hk];cases prv l k<;>rfl
theorem Cd {l:List Rn}{q:Option Rn}:gP q (l.drop l.length)=0:=by
 rw [List.drop_length];rfl
theorem mK (a:Option Addr) (l:List Rn) (c:Nat) (w:World) (hA:aW w a l) (hf:∀ r∈l,r.tab.length<=64) :
  CR 71 #[.slice a l.length c] w (.int .i64 (aX l)):=by
 rw [aX];refine aB [(0,.slice a l.length c)] Tryz.func71 Tryz.ntmps71 ?_;by_cases hl:2000 < l.length
 ·rw [if_pos hl]
  all_goals (refine go ?_;and_intros<;>first|exact trivial|repeat first|intro(Bk:Nat)|intro h)
  all_goals exact aA Tryz.func71 Tryz.results71 rfl
 rw [if_neg hl];generalize hE:gP none l=E;all_goals (refine go ?_;and_intros<;>first|exact trivial|repeat first|intro(Bk:Nat)|intro h)
 refine J.loop (c:=_) (0:Nat) (fun s=>l.length-s) (fun s=>[(0,.slice a l.length c),(3,.int .i64 s)]) (fun s=>[]) (fun s=>s<=l.length/\gP (prv l s) (l.drop s)=E/\∀ i (h:i < l.length),i < s->inT l[i]=true) ?_ sbT sbL ?_
 ·exact ⟨Nat.zero_le _,hE,fun i h h2=>absurd h2 (Nat.not_lt_zero _)⟩
 clear hE;intro k ⟨h1,h2,h3⟩ ih;by_cases hk:k < l.length
 ·obtain ⟨ba,oa,rfl,hra⟩:=aE.all hA.1 om
  have hrk:=hra k hk;have hm:=gM hk;have ho:=fun (hi:inT l[k]=true) w' (hb:Below w.heap.size w w')=>FF l[k] w' (aE.below (hA.2 _ hm) hb) (hf _ hm) (by rw [inT,decide_eq_true_eq] at hi;exact hi)
  have h3:inT l[k]=true->∀ i (h:i < l.length),i < k+1->inT l[i]=true:=fun hq i h h5=>by
   rcases Nat.lt_or_ge i k with h6|h6
   ·exact h3 i h h6
   ·obtain rfl:i=k:=by omega
    exact hq
  rw [Ag hk] at h2;clear hm;by_cases hi:inT l[k]=true
  ·have ho:=ho hi
   have g3:=h3 hi;clear h3;rw [if_neg (by rw [hi];decide)] at h2
   rw [inT,decide_eq_true_eq] at hi;generalize eB l[k]=e at *;by_cases he:e=0
   ·subst he
    rcases k with _|j
    ·rw [show prv l 0=none from rfl] at h2
     dsimp only at h2;rw [if_neg dc,if_neg dc] at h2;generalize l[0]=s at *;obtain ⟨f,t,tab,adr,cap,lo,hi2⟩:=s;dsimp only [rnV,rnA] at *;repeat' first|(refine gp ?_;and_intros<;>first|exact trivial|repeat first|intro(Bk:Nat)|intro h)|(apply G.cV (g:=121);rfl;rfl;exact fun w' hw=>ho w' hw.below)
     exact J.fin (ih 1 ⟨hk,h2,g3⟩ om)
    ·have hrj:=hra j om
     rw [show prv l (j+1)=some l[j] from gE om] at h2
     dsimp only at h2;by_cases hn:l[j+1].from_=l[j].to_
     ·rw [if_neg (by simp [hn]),if_neg dc] at h2
      generalize l[j+1]=s at *;generalize l[j]=p at *;obtain ⟨f,t,tab,adr,cap,lo,hi2⟩:=s;obtain ⟨f2,t2,tab2,adr2,cap2,lo2,hi3⟩:=p;dsimp only [rnV,rnA] at *;repeat' first|(refine gp ?_;and_intros<;>first|exact trivial|repeat first|intro(Bk:Nat)|intro h)|(apply G.cV (g:=121);rfl;rfl;exact fun w' hw=>ho w' hw.below)
      exact J.fin (ih (j+2) ⟨hk,h2,g3⟩ om)
     ·rw [if_pos (by simp [hn])] at h2
      subst h2;clear ih g3;generalize l[j+1]=s at *;generalize l[j]=p at *;obtain ⟨f,t,tab,adr,cap,lo,hi2⟩:=s;obtain ⟨f2,t2,tab2,adr2,cap2,lo2,hi3⟩:=p;dsimp only [rnV,rnA] at *;repeat' first|(refine gp ?_;and_intros<;>first|exact trivial|repeat first|intro(Bk:Nat)|intro h)|(apply G.cV (g:=121);rfl;rfl;exact fun w' hw=>ho w' hw.below)
      all_goals exact aA Tryz.func71 Tryz.results71 rfl
   ·clear ih g3
    rcases k with _|j
    ·rw [show prv l 0=none from rfl] at h2
     dsimp only at h2;rw [if_neg dc,if_pos he] at h2;subst h2;generalize l[0]=s at *;obtain ⟨f,t,tab,adr,cap,lo,hi2⟩:=s;dsimp only [rnV,rnA] at *;rw [if_pos he];repeat' first|(refine gp ?_;and_intros<;>first|exact trivial|repeat first|intro(Bk:Nat)|intro h)|(apply G.cV (g:=121);rfl;rfl;exact fun w' hw=>ho w' hw.below)
     all_goals exact aA Tryz.func71 Tryz.results71 rfl
    ·have hrj:=hra j om
     rw [show prv l (j+1)=some l[j] from gE om] at h2
     dsimp only at h2;by_cases hn:l[j+1].from_=l[j].to_
     ·rw [if_neg (by simp [hn]),if_pos he] at h2
      subst h2;rw [if_pos he];generalize l[j+1]=s at *;generalize l[j]=p at *;obtain ⟨f,t,tab,adr,cap,lo,hi2⟩:=s;obtain ⟨f2,t2,tab2,adr2,cap2,lo2,hi3⟩:=p;dsimp only [rnV,rnA] at *;repeat' first|(refine gp ?_;and_intros<;>first|exact trivial|repeat first|intro(Bk:Nat)|intro h)|(apply G.cV (g:=121);rfl;rfl;exact fun w' hw=>ho w' hw.below)
      all_goals exact aA Tryz.func71 Tryz.results71 rfl
     ·rw [if_pos (by simp [hn])] at h2
      subst h2;generalize l[j+1]=s at *;generalize l[j]=p at *;obtain ⟨f,t,tab,adr,cap,lo,hi2⟩:=s;obtain ⟨f2,t2,tab2,adr2,cap2,lo2,hi3⟩:=p;dsimp only [rnV,rnA] at *;repeat' first|(refine gp ?_;and_intros<;>first|exact trivial|repeat first|intro(Bk:Nat)|intro h)|(apply G.cV (g:=121);rfl;rfl;exact fun w' hw=>ho w' hw.below)
      all_goals exact aA Tryz.func71 Tryz.results71 rfl
  ·have hi:inT l[k]=false:=by simpa using hi
   rw [if_pos hi] at h2;subst h2;rw [inT,decide_eq_false_iff_not] at hi;clear ih h3 ho;generalize l[k]=s at *;obtain ⟨f,t,tab,adr,cap,lo,hi2⟩:=s;dsimp only [rnV] at *;all_goals (refine go ?_;and_intros<;>first|exact trivial|repeat first|intro(Bk:Nat)|intro h)
   all_goals exact aA Tryz.func71 Tryz.results71 rfl
 ·obtain rfl:k=l.length:=by omega
  rw [Cd] at h2;subst h2;rw [if_neg dc];clear ih;rcases Nat.eq_zero_or_pos l.length with h0|h0
  ·rw [pA,List.getElem?_eq_none om]
   dsimp only;rw [if_neg dc];all_goals (refine go ?_;and_intros<;>first|exact trivial|repeat first|intro(Bk:Nat)|intro h)
   all_goals exact aA Tryz.func71 Tryz.results71 rfl
  ·obtain ⟨ba,oa,rfl,hra⟩:=aE.all hA.1 om
   have r1:=hra 0 h0;have r2:=hra (l.length-1) om;have i1:=h3 0 h0 om;have i2:=h3 (l.length-1) om om;have hz:(l.length:Int)-1=((l.length-1:Nat):Int):=by omega
   rw [pA,gE h0,gE (show l.length-1 < l.length by omega)]
   dsimp only;rw [inT,decide_eq_true_eq] at i1 i2;clear h3;generalize l[0]=x at *;generalize l[l.length-1]=y at *;obtain ⟨f,t,tab,adr,cap,lo,hi⟩:=x;obtain ⟨f2,t2,tab2,adr2,cap2,lo2,hi2⟩:=y;dsimp only [rnV] at *;by_cases hlen:40000 < t2-f
   ·rw [if_pos hlen]
    repeat' first|(refine gp ?_;and_intros<;>first|exact trivial|repeat first|intro(Bk:Nat)|intro h)|(apply G.ix;rfl;rfl;exact hz;omega;rfl)|(apply G.ix (i:=0);rfl;rfl;exact rfl;omega;rfl)
    all_goals exact aA Tryz.func71 Tryz.results71 rfl
   ·rw [if_neg hlen]
    repeat' first|(refine gp ?_;and_intros<;>first|exact trivial|repeat first|intro(Bk:Nat)|intro h)|(apply G.ix;rfl;rfl;exact hz;omega;rfl)|(apply G.ix (i:=0);rfl;rfl;exact rfl;omega;rfl)
    all_goals exact aA Tryz.func71 Tryz.results71 rfl
theorem xV (a:Option Addr) (l:List Rn) (c:Nat) (w:World) (hA:aW w a l) (hf:∀ r∈l,r.tab.length<=64) :
  CR 54 #[.slice a l.length c] w (.int .i64 (aX l)):=by
 rw [aX];refine aB [(0,.slice a l.length c)] Tryz.func54 Tryz.ntmps54 ?_;by_cases hl:2000 < l.length
 ·rw [if_pos hl]
  all_goals (refine go ?_;and_intros<;>first|exact trivial|repeat first|intro(Bk:Nat)|intro h)
  all_goals exact aA Tryz.func54 Tryz.results54 rfl
 rw [if_neg hl];generalize hE:gP none l=E;all_goals (refine go ?_;and_intros<;>first|exact trivial|repeat first|intro(Bk:Nat)|intro h)
 refine J.loop (c:=_) (0:Nat) (fun s=>l.length-s) (fun s=>[(0,.slice a l.length c),(10,.slice a l.length c),(11,.int .i64 l.length),(12,.int .i64 s)]) (fun s=>[]) (fun s=>s<=l.length/\gP (prv l s) (l.drop s)=E/\∀ i (h:i < l.length),i < s->inT l[i]=true) ?_ sbT sbL ?_
 ·exact ⟨Nat.zero_le _,hE,fun i h h2=>absurd h2 (Nat.not_lt_zero _)⟩
 clear hE;intro k ⟨h1,h2,h3⟩ ih;by_cases hk:k < l.length
 ·obtain ⟨ba,oa,rfl,hra⟩:=aE.all hA.1 om
  have hrk:=hra k hk;have hm:=gM hk;have ho:=fun (hi:inT l[k]=true) w' (hb:Below w.heap.size w w')=>FG l[k] w' (aE.below (hA.2 _ hm) hb) (hf _ hm) (by rw [inT,decide_eq_true_eq] at hi;exact hi)
  have h3:inT l[k]=true->∀ i (h:i < l.length),i < k+1->inT l[i]=true:=fun hq i h h5=>by
   rcases Nat.lt_or_ge i k with h6|h6
   ·exact h3 i h h6
   ·obtain rfl:i=k:=by omega
    exact hq
  rw [Ag hk] at h2;clear hm;by_cases hi:inT l[k]=true
  ·have ho:=ho hi
   have g3:=h3 hi;clear h3;rw [if_neg (by rw [hi];decide)] at h2
   rw [inT,decide_eq_true_eq] at hi;generalize eB l[k]=e at *;by_cases he:e=0
   ·subst he
    rcases k with _|j
    ·rw [show prv l 0=none from rfl] at h2
     dsimp only at h2;rw [if_neg dc,if_neg dc] at h2;generalize l[0]=s at *;obtain ⟨f,t,tab,adr,cap,lo,hi2⟩:=s;dsimp only [rnV,rnA] at *;repeat' first|(refine gp ?_;and_intros<;>first|exact trivial|repeat first|intro(Bk:Nat)|intro h)|(apply G.cV (g:=104);rfl;rfl;exact fun w' hw=>ho w' hw.below)
     exact J.fin (ih 1 ⟨hk,h2,g3⟩ om)
    ·have hrj:=hra j om
     rw [show prv l (j+1)=some l[j] from gE om] at h2
     dsimp only at h2;by_cases hn:l[j+1].from_=l[j].to_
     ·rw [if_neg (by simp [hn]),if_neg dc] at h2
      generalize l[j+1]=s at *;generalize l[j]=p at *;obtain ⟨f,t,tab,adr,cap,lo,hi2⟩:=s;obtain ⟨f2,t2,tab2,adr2,cap2,lo2,hi3⟩:=p;dsimp only [rnV,rnA] at *;repeat' first|(refine gp ?_;and_intros<;>first|exact trivial|repeat first|intro(Bk:Nat)|intro h)|(apply G.cV (g:=104);rfl;rfl;exact fun w' hw=>ho w' hw.below)
      exact J.fin (ih (j+2) ⟨hk,h2,g3⟩ om)
     ·rw [if_pos (by simp [hn])] at h2
      subst h2;clear ih g3;generalize l[j+1]=s at *;generalize l[j]=p at *;obtain ⟨f,t,tab,adr,cap,lo,hi2⟩:=s;obtain ⟨f2,t2,tab2,adr2,cap2,lo2,hi3⟩:=p;dsimp only [rnV,rnA] at *;repeat' first|(refine gp ?_;and_intros<;>first|exact trivial|repeat first|intro(Bk:Nat)|intro h)|(apply G.cV (g:=104);rfl;rfl;exact fun w' hw=>ho w' hw.below)
      all_goals exact aA Tryz.func54 Tryz.results54 rfl
   ·clear ih g3
    rcases k with _|j
    ·rw [show prv l 0=none from rfl] at h2
     dsimp only at h2;rw [if_neg dc,if_pos he] at h2;subst h2;generalize l[0]=s at *;obtain ⟨f,t,tab,adr,cap,lo,hi2⟩:=s;dsimp only [rnV,rnA] at *;rw [if_pos he];repeat' first|(refine gp ?_;and_intros<;>first|exact trivial|repeat first|intro(Bk:Nat)|intro h)|(apply G.cV (g:=104);rfl;rfl;exact fun w' hw=>ho w' hw.below)
     all_goals exact aA Tryz.func54 Tryz.results54 rfl
    ·have hrj:=hra j om
     rw [show prv l (j+1)=some l[j] from gE om] at h2
     dsimp only at h2;by_cases hn:l[j+1].from_=l[j].to_
     ·rw [if_neg (by simp [hn]),if_pos he] at h2
      subst h2;rw [if_pos he];generalize l[j+1]=s at *;generalize l[j]=p at *;obtain ⟨f,t,tab,adr,cap,lo,hi2⟩:=s;obtain ⟨f2,t2,tab2,adr2,cap2,lo2,hi3⟩:=p;dsimp only [rnV,rnA] at *;repeat' first|(refine gp ?_;and_intros<;>first|exact trivial|repeat first|intro(Bk:Nat)|intro h)|(apply G.cV (g:=104);rfl;rfl;exact fun w' hw=>ho w' hw.below)
      all_goals exact aA Tryz.func54 Tryz.results54 rfl
     ·rw [if_pos (by simp [hn])] at h2
      subst h2;generalize l[j+1]=s at *;generalize l[j]=p at *;obtain ⟨f,t,tab,adr,cap,lo,hi2⟩:=s;obtain ⟨f2,t2,tab2,adr2,cap2,lo2,hi3⟩:=p;dsimp only [rnV,rnA] at *;repeat' first|(refine gp ?_;and_intros<;>first|exact trivial|repeat first|intro(Bk:Nat)|intro h)|(apply G.cV (g:=104);rfl;rfl;exact fun w' hw=>ho w' hw.below)
      all_goals exact aA Tryz.func54 Tryz.results54 rfl
  ·have hi:inT l[k]=false:=by simpa using hi
   rw [if_pos hi] at h2;subst h2;rw [inT,decide_eq_false_iff_not] at hi;clear ih h3 ho;generalize l[k]=s at *;obtain ⟨f,t,tab,adr,cap,lo,hi2⟩:=s;dsimp only [rnV] at *;all_goals (refine go ?_;and_intros<;>first|exact trivial|repeat first|intro(Bk:Nat)|intro h)
   all_goals exact aA Tryz.func54 Tryz.results54 rfl
 ·obtain rfl:k=l.length:=by omega
  rw [Cd] at h2;subst h2;rw [if_neg dc];clear ih;rcases Nat.eq_zero_or_pos l.length with h0|h0
  ·rw [pA,List.getElem?_eq_none om]
   dsimp only;rw [if_neg dc];all_goals (refine go ?_;and_intros<;>first|exact trivial|repeat first|intro(Bk:Nat)|intro h)
   all_goals exact aA Tryz.func54 Tryz.results54 rfl
  ·obtain ⟨ba,oa,rfl,hra⟩:=aE.all hA.1 om
   have r1:=hra 0 h0;have r2:=hra (l.length-1) om;have i1:=h3 0 h0 om;have i2:=h3 (l.length-1) om om;have hz:(l.length:Int)-1=((l.length-1:Nat):Int):=by omega
   rw [pA,gE h0,gE (show l.length-1 < l.length by omega)]
   dsimp only;rw [inT,decide_eq_true_eq] at i1 i2;clear h3;generalize l[0]=x at *;generalize l[l.length-1]=y at *;obtain ⟨f,t,tab,adr,cap,lo,hi⟩:=x;obtain ⟨f2,t2,tab2,adr2,cap2,lo2,hi2⟩:=y;dsimp only [rnV] at *;by_cases hlen:40000 < t2-f
   ·rw [if_pos hlen]
    repeat' first|(refine gp ?_;and_intros<;>first|exact trivial|repeat first|intro(Bk:Nat)|intro h)|(apply G.ix;rfl;rfl;exact hz;omega;rfl)|(apply G.ix (i:=0);rfl;rfl;exact rfl;omega;rfl)
    all_goals exact aA Tryz.func54 Tryz.results54 rfl
   ·rw [if_neg hlen]
    repeat' first|(refine gp ?_;and_intros<;>first|exact trivial|repeat first|intro(Bk:Nat)|intro h)|(apply G.ix;rfl;rfl;exact hz;omega;rfl)|(apply G.ix (i:=0);rfl;rfl;exact rfl;omega;rfl)
    all_goals exact aA Tryz.func54 Tryz.results54 rfl
def J0 (x y:Int) (s:Spn):Spn:={ s with from_:=max s.from_ x,to_:=min s.to_ y }
def eP (x y:Int):List Spn->List Spn
 | []=>[]
 | s::r=>if max s.from_ x < min s.to_ y then J0 x y s::eP x y r else eP x y r
def N3 (q:Rat) (s:Spn):Spn:={ s with wt:=rQ (qR s.wt*q) }
def jE (m t:Nat) (l:List Rn):Prop:=l.length<=m/\(∀ r∈l,r.tab.length<=20)/\(aX l≠0∨l.length=0∨pA l<=t)
instance (m t:Nat) (l:List Rn):Decidable (jE m t l):=by unfold jE;exact inferInstance
theorem J1 {p:Option Rn}{l:List Rn} (h:gP p l=0):∀ r∈l,inT r=true:=by
 induction l generalizing p with
 | nil=>simp
 | cons s r ih =>
  obtain ⟨B,hs⟩:∃ B:Bool,(if inT s=false then 3 else if B=true then 1 else if eB s≠0 then eB s else gP (some s) r)=(0:Int):=by
   cases p with
   | none=>exact ⟨false,h⟩
   | some q=>exact ⟨decide (s.from_≠q.to_),h⟩
  by_cases c1:inT s=false
  ·rw [if_pos c1] at hs;cases hs
  rw [if_neg c1] at hs;cases B
  ·rw [if_neg dc] at hs
   by_cases c2:eB s≠0
   ·rw [if_pos c2] at hs;exact absurd hs c2
   rw [if_neg c2] at hs;intro t ht;rcases List.mem_cons.1 ht with rfl|ht
   ·simpa using c1
   ·exact ih hs t ht
  ·rw [if_pos rfl] at hs;cases hs
theorem jQ {l:List Rn} (h:aX l=0):l.length<=2000/\(∀ r∈l,inT r=true)/\pA l<=40000:=by
 rw [aX] at h
 split at h
 ·cases h
 split at h
 ·exact absurd h (by assumption)
 rename_i c1;split at h
 ·cases h
 exact ⟨by omega,J1 (Decidable.not_not.1 c1),by omega⟩
def J2 (x:Rn) (l:List Spn):Bool:=(List.range (x.to_-x.from_).toNat).any fun (i:Nat)=>decide (bH l (x.from_+i) x.lo≠bH l (x.from_+i) x.hi)
theorem rL (r:Rn) (w:World):CR 143 #[rnA r] w (.bool (decide (r.tab.length=1))):=by
 obtain ⟨f,t,tab,adr,cap,lo,hi⟩:=r;dsimp only [rnA];refine aB [(0,.agg #[.int .i64 f,.int .i64 t,.slice adr tab.length cap,.int .i64 lo,.int .i64 hi])] Tryz.func143 Tryz.ntmps143 ?_;all_goals (refine go ?_;and_intros<;>first|exact trivial|repeat first|intro(Bk:Nat)|intro h)
 all_goals refine aA Tryz.func143 Tryz.results143 ?_
 all_goals exact bL (by first|(rw [dT om])|(rw [dF om]))
theorem Ah (f t s:Int) (w:World) (h1:0<=f/\f<=1402560) (h2:0<=t/\t<=1402560) :
  Calls Tryz.prog 108 #[.int .i64 f,.int .i64 t,.int .i64 s] w fun e w'=>∃ a' c',e=.returned (.agg #[.int .i64 f,.int .i64 t,.slice a' 1 c',.int .i64 0,.int .i64 0])/\aE w' a' 2 ([(s,t-f)].map hoV)/\(∀ p,a'=some p->w.heap.size<=p.block)/\Below w.heap.size w w':=by
 refine aB [(0,.int .i64 f),(1,.int .i64 t),(2,.int .i64 s)] Tryz.func108 Tryz.ntmps108 ?_;repeat' first|(refine gp ?_;and_intros<;>first|exact trivial|repeat first|intro(Bk:Nat)|intro h)|(apply G.Pu;rfl;rfl;rfl;rfl;rfl;rfl;rfl;rfl;intro Bs)
 (refine kE Tryz.func108 Tryz.results108 ?_;intro w' hw)
 refine ⟨some ⟨_,0,none⟩,1,rfl,aE.P5 (f:=hoV) (sz:=2) (l:=[(s,t-f)]) (fun _=>rfl) hw (List.Mem.head _),fun p hp=>?_,hw.below⟩
 cases hp;exact ((hw.old _ (List.Mem.head _)).2 _ rfl).1
def k2V (p:Int×Int):Value:=.agg #[.int .i64 p.1,.int .i64 p.2]
instance:BG Tryz.prog 121 192 25 (qA aY):=⟨by kernel_rfl,fun w=>Tryz.zeroValue25 w⟩
theorem Pf (e:Bool) (a b:Int) (w:World):(Instr.checkKey e 10000 192 (.agg #[.int .i64 a,.int .i64 b])).run Tryz.prog w=.ok () w:=by
 show (Instr.checkKey e (9998+1+1) 192 _).run Tryz.prog w=_
 have h:=Pe 9998 e;generalize 9998=n at *;rw [Instr.checkKey];have hu:∀ w,(underlying 192).run Tryz.prog w=.ok (.array 2 3) w:=fun w=>by simp [underlying,Tryz.underlying192]
 have hs:∀ w,(Go.sizeOf 3).run Tryz.prog w=.ok 1 w:=fun w=>Tryz.sizeOf3 w
 simp only [Sem.run_bind,hu,Result.andThen_ok];simp only [Std.Legacy.Range.forIn_eq_forIn_range',Std.Legacy.Range.size];simp only [List.range',List.forIn_cons,List.forIn_nil,Sem.run_bind,hs,Result.andThen_ok];simp [part,h]
instance tk2:vY Tryz.prog 192 k2V:=vY.R0 Tryz.underlying192 (fun x y=>rfl) (fun e x w=>Pf e x.1 x.2 w) (fun x y w=>by
  rw [k2V,k2V,O0.h];congr 2;rw [Prod.ext_iff]) (fun x=>by simp [k2V,Instr.sameBits])
def ofR (l:List Spn) (k t:Int):Rat:=if k < 0 then 0 else match l[k.toNat]? with
 | some s=>bC s t
 | none=>0
def jF (l:List Spn) (o:Obj):Prop:=∃ es clock L,o=.map es clock/\dQ k2V es clock L/\∀ k t v,jP (k,t) L=some v->v=qA (rQ (ofR l k t))
theorem jF.nil {l:List Spn}:jF l (.map #[] 0):=⟨_,_,[],rfl,dQ.nil,fun k t v h=>by cases h⟩
theorem FH {l:List Spn}{k:Nat}{t:Int} (hk:k < l.length):ofR l (k:Int) t=bC l[k] t:=by
 rw [ofR,if_neg om,Int.toNat_natCast,gE hk]
theorem Hb {l:List Spn}{k t:Int} (hf:∀ s∈l,fewS s) (hR:∀ s∈l,aQ s) (ht:0<=t/\t<=1000):aH 140 (rQ (ofR l k t)):=by
 rw [ofR];split
 ·exact dX
 ·split
  ·rename_i s hs
   exact nD (hf _ (List.mem_of_getElem? hs)) (hR _ (List.mem_of_getElem? hs)) ht.1 ht.2
  ·exact dX
theorem J3 (w0:World) (M:List Row) (w:World) (bl bm N:Nat) (a:Option Addr) (l:List Spn) (c:Nat) (S:Q3) (k t:Int) (hw:Sat w0 (.blk bl 123 [.slice a l.length c,.map (some bm),.bool S.neg,.string (bs S.num),.string (bs S.den)] 5::.inv bm (jF l)::aL N a 7 (l.map spV)::M) w)
  (hP:∀ s∈l,lM w0 s) (hf:∀ s∈l,fewS s) (hR:∀ s∈l,aQ s) (hk:k < l.length) (ht:0<=t/\t<=1000) (hl:l.length<=1000000) (ha:∃ b off,a=some ⟨b,off,none⟩∨l=[]) :
  Calls Tryz.prog 110 #[.pointer (some ⟨bl,0,none⟩),.int .i64 k,.int .i64 t] w fun e w'=>e=.returned (qA (rQ (ofR l k t)))/\Sat w0 (.blk bl 123 [.slice a l.length c,.map (some bm),.bool S.neg,.string (bs S.num),.string (bs S.den)] 5::.inv bm (jF l)::aL N a 7 (l.map spV)::M) w':=by
 by_cases h0:k < 0
 ·rw [ofR,if_pos h0]
  refine vZ [(0,.pointer (some ⟨bl,0,none⟩)),(1,.int .i64 k),(2,.int .i64 t)] hw Tryz.func110 Tryz.ntmps110 ?_;all_goals (refine go ?_;and_intros<;>(try exact trivial)<;>intros)
  refine kE Tryz.func110 Tryz.results110 ?_;exact fun w' hw'=>⟨rfl,hw'.forget sbL⟩
 ·obtain ⟨n,rfl⟩:∃ n:Nat,k=n:=⟨k.toNat,by omega⟩
  have hn:n < l.length:=by omega
  obtain ⟨b,off,ha⟩:=ha;have ha:=ha.resolve_right (fun e=>by subst e;exact absurd hn (Nat.not_lt_zero _))
  subst ha;have hs:=gM hn;have hr:=fun w' (hb:Below w0.heap.size w0 w')=>xT l[n] t w' ((hP _ hs).below hb) (hf _ hs) (hR _ hs) ht.1 ht.2
  have e0:ofR l (n:Int) t=bC l[n] t:=FH hn;rw [<- e0] at hr;refine vZ [(0,.pointer (some ⟨bl,0,none⟩)),(1,.int .i64 n),(2,.int .i64 t)] hw Tryz.func110 Tryz.ntmps110 ?_;refine J.bare RAt.au fun o ho=>?_
  obtain ⟨es,clock,L,rfl,hI,hL⟩:=ho;have hput:∀ k' t' v,jP (k',t') (gH ((n:Int),t) (qA (rQ (ofR l n t))) L)=some v->v=qA (rQ (ofR l k' t')):=by
   intro k' t' v hv;rw [uF] at hv;split at hv
   ·rename_i e
    cases e;cases hv;rfl
   ·exact hL _ _ _ hv
  cases hg:jP ((n:Int),t) L with
  | some v =>
   have hv:=hL _ _ _ hg;subst hv;all_goals (refine goR ?_;and_intros<;>(try exact trivial)<;>intros)
   repeat' ((first|(apply J.Py (.q 0 <| .q 1 <| .q 2 <| .q 3 <| .q 4 <| .q 5 <| .q 6 <| .q 7 <| .q 8 <| .e 9 <| .r 10 <| .q 11 <| .nil);exact Tryz.Pr;decide +kernel)|(apply G.Rp (kf:=k2V) (a:=((n:Int),t)) hI hg;rfl;rfl;exact mm;rfl)|(apply J.Pz;exact Tryz.Pr;decide +kernel)|(apply J.P3;exact Tryz.Pr;decide +kernel))<;>(refine goR ?_;and_intros<;>(try exact trivial)<;>intros))
   refine kE Tryz.func110 Tryz.results110 ?_;exact fun w' hw'=>⟨rfl,(hw'.shutI (A:=jF l) RAt.au ⟨es,clock,L,rfl,hI,hL⟩).forget sbL⟩
  | none =>
   all_goals (refine goR ?_;and_intros<;>(try exact trivial)<;>intros)
   repeat' ((first|(apply J.Py (.q 0 <| .q 1 <| .q 2 <| .q 3 <| .q 4 <| .q 5 <| .q 6 <| .q 7 <| .q 8 <| .e 9 <| .r 10 <| .q 11 <| .nil);exact Tryz.Pr;decide +kernel)|(apply G.Rp (kf:=k2V) (a:=((n:Int),t)) hI hg;rfl;rfl;exact mm;rfl)|(apply G.ld;rfl;exact LdV.Qx mm hn (by rfl);rfl)|(refine G.PG hr ?_)|(apply G.mu (kf:=k2V) (a:=((n:Int),t)) hI rfl;rfl;rfl;rfl;rfl;(repeat (first|exact RAt.head|apply RAt.tail));intro es2 c2 hI2)|(apply J.Pz;exact Tryz.Pr;decide +kernel)|(apply J.P3;exact Tryz.Pr;decide +kernel))<;>(refine goR ?_;and_intros<;>(try exact trivial)<;>intros))
   refine kE Tryz.func110 Tryz.results110 ?_;exact fun w' hw'=>⟨rfl,(hw'.shutI (A:=jF l) RAt.au ⟨_,_,_,rfl,hI2,hput⟩).forget sbL⟩
theorem Ie (w0:World) (M:List Row) (w:World) (bl bm N:Nat) (a:Option Addr) (l:List Spn) (c:Nat) (x:Rat) (n k t:Int) (m:Nat) (S:Q3) (hS:S=rQ x) (hw:Sat w0 (.blk bl 123 [.slice a l.length c,.map (some bm),.bool S.neg,.string (bs S.num),.string (bs S.den)] 5::.inv bm (jF l)::aL N a 7 (l.map spV)::M) w)
  (hP:∀ s∈l,lM w0 s) (hf:∀ s∈l,fewS s) (hR:∀ s∈l,aQ s) (hk:k < l.length) (ht:0<=t/\t<=1000) (hl:l.length<=1000000) (ha:∃ b off,a=some ⟨b,off,none⟩∨l=[])
  (hn:-999999999999999<=n/\n<=999999999999999) (hx:aH m S) (hm:m<=134217728) (S':Q3) (hS':S'=rQ (x+n*ofR l k t)) :
  Calls Tryz.prog 61 #[.pointer (some ⟨bl,0,none⟩),.int .i64 n,.int .i64 k,.int .i64 t] w fun e w'=>e=.returned (.tuple #[])/\Sat w0 (.blk bl 123 [.slice a l.length c,.map (some bm),.bool S'.neg,.string (bs S'.num),.string (bs S'.den)] 5::.inv bm (jF l)::aL N a 7 (l.map spV)::M) w':=by
 have hi:=fun w'=>Ca n w' hn.1 hn.2
 have z:=jC hn.1 hn.2;have zo:=Hb (k:=k) hf hR ht;have ml:=fun w'=>kR (rQ (n:Rat)) (rQ (ofR l k t)) w' (aF z dc).1 (aF z dc).2 (aF zo dc).1 (aF zo dc).2
 have zm:=fY z zo dc dc;have ad:=fun w'=>jA S (rQ (n*ofR l k t)) w' (aF hx hm).1 (aF hx hm).2 (aF zm dc).1 (aF zm dc).2
 rw [bR,bR] at ml;rw [hS,bR,bR,<- hS,<- hS'] at ad;clear z zo zm hx hS';have hof:=fun w' hw'=>J3 w0 M w' bl bm N a l c S k t hw' hP hf hR hk ht hl ha
 generalize rQ (n*ofR l k t)=W at *;generalize rQ (n:Rat)=V at *;generalize rQ (ofR l k t)=U at *;refine vZ [(0,.pointer (some ⟨bl,0,none⟩)),(1,.int .i64 n),(2,.int .i64 k),(3,.int .i64 t)] hw Tryz.func61 Tryz.ntmps61 ?_;all_goals (refine goR ?_;and_intros<;>(try exact trivial)<;>intros)
 repeat' ((first|(apply J.Py (.q 0 <| .q 1 <| .q 2 <| .q 3 <| .q 4 <| .q 5 <| .q 6 <| .q 7 <| .q 8 <| .q 9 <| .e 10 <| .q 11 <| .q 12 <| .q 13 <| .q 14 <| .r 15 <| .nil);exact Tryz.Pr;decide +kernel)|(refine G.cI rfl rfl (.refl _) hof ?_)|(apply G.cV (g:=35);rfl;rfl;exact fun w' _=>hi w')|(apply G.cV (g:=83);rfl;rfl;exact fun w' _=>ml w')|(apply G.cV (g:=27);rfl;rfl;exact fun w' _=>ad w')|(apply J.Pz;exact Tryz.Pr;decide +kernel)|(apply J.P3;exact Tryz.Pr;decide +kernel))<;>(refine goR ?_;and_intros<;>(try exact trivial)<;>intros))
 refine O2 Tryz.func61 Tryz.results61 ?_;exact fun w' hw'=>⟨rfl,hw'⟩
theorem FI (w0:World) (M:List Row) (w:World) (a:Option Addr) (l:List Spn) (c:Nat) (hw:Sat w0 M w) :
  Calls Tryz.prog 60 #[.slice a l.length c] w fun e w'=>∃ x:Nat×Nat,e=.returned (.pointer (some ⟨x.1,0,none⟩))/\Sat w0 (.blk x.1 123 [.slice a l.length c,.map (some x.2),.bool false,.string (bs []),.string (bs [])] 5::.inv x.2 (jF l)::M) w':=by
 refine vZ [(0,.slice a l.length c)] hw Tryz.func60 Tryz.ntmps60 ?_;all_goals (refine go ?_;and_intros<;>(try exact trivial)<;>intros)
 repeat' ((first|(apply G.Qv;rfl;intro bm))<;>(refine go ?_;and_intros<;>(try exact trivial)<;>intros))
 refine kE Tryz.func60 Tryz.results60 ?_;exact fun w' hw'=>⟨(_,bm),rfl,hw'.shutI (A:=jF l) RAt.au jF.nil⟩
theorem G.Ry {C:Ctx}{st:List (Nat×Value)}{M M1 M2 M3:List Row}{k:List Item}{q q':Md}{all rest:List Oper}{d:Nat}{ty:TypeId}{pos:String}{after:Array Edge}{gd:Option (Nat×Bool)}{args:List Operand}{at_:Array TypeId} (hP:C.P=Tryz.prog)
  {bl bm N:Nat}{a:Option Addr}{l:List Spn}{c:Nat}{n sp t:Int}{S:Q3} (x:Rat) (m:Nat)
  (hs:bA all st gd d C.N q.res=some q') (ha:evL st args=some [.pointer (some ⟨bl,0,none⟩),.int .i64 n,.int .i64 sp,.int .i64 t])
  (p1:eS (.blk bl 123 [.slice a l.length c,.map (some bm),.bool S.neg,.string (bs S.num),.string (bs S.den)] 5) M M1) (p2:eS (.inv bm (jF l)) M1 M2) (p3:eS (aL N a 7 (l.map spV)) M2 M3)
  (hq:(S=rQ x/\aH m S/\m<=134217728)/\(∀ s∈l,lM C.w0 s)/\(∀ s∈l,fewS s)/\(∀ s∈l,aQ s)/\sp < l.length/\(0<=t/\t<=1000)/\l.length<=1000000/\(∃ b off,a=some ⟨b,off,none⟩∨l=[])/\-999999999999999<=n/\n<=999999999999999)
  (h:∀ S':Q3,S'=rQ (x+n*ofR l sp t)->G q' C all ((d,.tuple #[])::st) (.blk bl 123 [.slice a l.length c,.map (some bm),.bool S'.neg,.string (bs S'.num),.string (bs S'.den)] 5::.inv bm (jF l)::aL N a 7 (l.map spV)::M3) rest k) :
  G q C all st M ({ dst:=some d,op:=.call { callee:=.value (.func 61),args:=args.toArray,argTypes:=at_ },type:=ty,pos,after,guard:=gd }::rest) k:=by
 obtain ⟨P,b,PHI,N0,w0,D⟩:=C;dsimp only at hP;subst hP;obtain ⟨⟨h1,h2,h3⟩,h4,h5,h6,h7,h8,h9,h10,h11,h12⟩:=hq;refine G.cM (X:=Unit) (fun _=>.tuple #[]) (fun _=>_) hs ha (fun w hw=>?_) fun _=>h _ rfl
 refine (Ie w0 M3 w bl bm N a l c x n sp t m S h1 (hw.perm (p1.perm.trans (List.Perm.cons _ (p2.perm.trans (List.Perm.cons _ p3.perm))))) h4 h5 h6 h7 h8 h9 h10 ⟨h11,h12⟩ h2 h3 _ rfl).mono fun e w' he=>⟨(),he.1,he.2⟩
def cC (g:Int->Rat):List Int->Rat
 | []=>0
 | x::r=>g x+cC g r
def aR:Int->List Spn->Prop
 | _,[]=>True
 | x,s::r=>x<=s.from_/\s.from_ < s.to_/\aR s.to_ r
theorem aR.mono {x y:Int}{l:List Spn} (h:aR y l) (hxy:x<=y):aR x l:=by
 cases l with
 | nil=>trivial
 | cons s r=>exact ⟨Int.le_trans hxy h.1,h.2⟩
theorem qB {l:List Spn}{x:Int} (h:mI x l=0):aR x l:=by
 induction l generalizing x with
 | nil=>trivial
 | cons s r ih =>
  rw [mI] at h
  split at h
  ·cases h
  rename_i c1;simp only [Bool.or_eq_true,Bool.not_eq_true',decide_eq_false_iff_not,decide_eq_true_eq,not_or,Decidable.not_not] at c1;exact ⟨by omega,c1.1.1.2.1,ih h⟩
theorem aR.none {x t:Int}{l:List Spn} (h:aR x l) (ht:t < x):bW l t=l.length:=by
 induction l generalizing x with
 | nil=>rfl
 | cons s r ih =>
  have h1:=ih h.2.2 (by have:=h.1;have:=h.2.1;omega)
  unfold bW at *;rw [List.findIdx_cons,show inS t s=false from by have:=h.1;simp [inS];omega,h1];simp
theorem lO {x t st:Int}{s:Spn}{l:List Spn} (h:aR x (s::l)):bH (s::l) t st=(if inS t s=true then bC s st else 0)+bH l t st:=by
 unfold bH bW;rw [List.findIdx_cons];cases hi:inS t s with
 | true =>
  have h1:t < s.to_:=by simp [inS] at hi;exact hi.2
  have h2:=h.2.2.none h1;unfold bW at h2;rw [h2];simp [Rat.add_zero]
 | false=>simp [Rat.zero_add]
def oW (g:Int->Rat) (s:Spn):Int->List Int->Rat
 | _,[]=>0
 | f,x::r=>(if inS f s=true then g x else 0)+oW g s (f+1) r
theorem Ev {x:Int}{s:Spn}{l:List Spn} (h:aR x (s::l)) (f:Int) (hs:List Int):aI (s::l) f hs=oW (bC s) s f hs+aI l f hs:=by
 induction hs generalizing f with
 | nil=>rw [aI,aI,oW,Rat.add_zero]
 | cons y r ih=>rw [aI,aI,oW,lO h,ih];grind
theorem FJ (f:Int) (hs:List Int):aI [] f hs=0:=by
 induction hs generalizing f with
 | nil=>rfl
 | cons y r ih=>rw [aI,ih,Rat.add_zero];rfl
theorem FK {g:Int->Rat}{s:Spn}{f:Int} (h:s.to_<=f) (hs:List Int):oW g s f hs=0:=by
 induction hs generalizing f with
 | nil=>rfl
 | cons y r ih=>rw [oW,ih om,if_neg (by simp [inS];omega),Rat.add_zero]
theorem Ai {g:Int->Rat}{s:Spn} (n:Nat):∀ (hs:List Int) (f:Int),s.from_<=f->s.to_=f+n->oW g s f hs=cC g (hs.take n)
 | [],f,_,_=>by simp [oW,cC]
 | y::r,f,h1,h2=>by
  cases n with
  | zero=>rw [FK om,List.take_zero,cC]
  | succ n =>
   rw [List.take_succ_cons,oW,cC,if_pos (by simp [inS];omega),Ai n r (f+1) om om]
theorem Ew {g:Int->Rat}{s:Spn}:∀ (hs:List Int) (f:Int) (d:Nat),s.from_=f+d->s.from_<=s.to_->oW g s f hs=cC g ((hs.drop d).take (s.to_-s.from_).toNat)
 | [],f,d,_,_=>by simp [oW,cC]
 | y::r,f,d,h1,h2=>by
  cases d with
  | zero=>rw [List.drop_zero,<- Ai (s:=s) (s.to_-s.from_).toNat (y::r) f om om]
  | succ d=>rw [oW,if_neg (by simp [inS];omega),Rat.zero_add,List.drop_succ_cons,Ew r (f+1) d om h2]
def eX (g:Int->Rat):List (Int×Int)->Rat
 | []=>0
 | (x,n)::r=>(n:Rat)*g x+eX g r
theorem Ce (g:Int->Rat) (x:Int):∀ L:List (Int×Int),eX g (bump x L)=eX g L+g x
 | []=>by simp [bump,eX];grind
 | (y,n)::r=>by
  rw [bump];split
  ·rename_i h;subst h
   rw [eX,eX,Rat.intCast_add];grind
  ·rw [eX,eX,Ce g x r];grind
theorem Aj (g:Int->Rat):∀ (L:List (Int×Int)) (i:Nat) (hi:i < L.length),eX g L=((L[i].2:Int):Rat)*g L[i].1+eX g (L.eraseIdx i)
 | (y,n)::r,0,_=>rfl
 | (y,n)::r,i+1,hi=>by
  rw [List.eraseIdx_cons_succ,eX,eX,Aj g r i (by simpa using hi)]
  simp only [List.getElem_cons_succ];grind
def okL (n:Int) (L:List (Int×Int)):Prop:=∀ p∈L,(0<=p.1/\p.1<=1000)/\0<=p.2/\p.2<=n
theorem okL.bump {n x:Int} (hx:0<=x/\x<=1000) (hn:0<=n):∀ {L:List (Int×Int)},okL n L->okL (n+1) (bump x L)
 | [],_,p,hp=>by simp [Proofs.YtjcecdmbfmccoaaGreatDoor.bump] at hp;subst hp;exact ⟨hx,by show (0:Int)<=1;decide,by show (1:Int)<=n+1;omega⟩
 | (y,m)::r,h,p,hp=>by
  have h1:=h _ (List.mem_cons_self ..);rw [Proofs.YtjcecdmbfmccoaaGreatDoor.bump] at hp;split at hp
  ·rcases List.mem_cons.1 hp with rfl|hp
   ·exact ⟨hx,by show 0<=m+1;have:=h1.2.1;dsimp only at this;omega,by show m+1<=n+1;have:=h1.2.2;dsimp only at this;omega⟩
   ·have h2:=h _ (mC _ hp);exact ⟨h2.1,h2.2.1,by omega⟩
  ·rcases List.mem_cons.1 hp with rfl|hp
   ·exact ⟨h1.1,h1.2.1,by have:=h1.2.2;omega⟩
   ·exact okL.bump hx hn (fun q hq=>h q (mC _ hq)) p hp
theorem okL.len {x:Int}:∀ (L:List (Int×Int)),(Proofs.YtjcecdmbfmccoaaGreatDoor.bump x L).length<=L.length+1
 | []=>Nat.le_refl _
 | (y,m)::r=>by
  rw [Proofs.YtjcecdmbfmccoaaGreatDoor.bump];split
  ·simp
  ·simpa using okL.len r
theorem okL.cnt {n x:Int} (hn:0<=n):∀ {L:List (Int×Int)},okL n L->0<=Proofs.YtjcecdmbfmccoaaGreatDoor.cnt x L/\Proofs.YtjcecdmbfmccoaaGreatDoor.cnt x L<=n
 | [],_=>⟨Int.le_refl _,hn⟩
 | (y,m)::r,h=>by
  rw [Proofs.YtjcecdmbfmccoaaGreatDoor.cnt];split
  ·exact (h _ (List.mem_cons_self ..)).2
  ·exact okL.cnt hn fun q hq=>h q (mC _ hq)
theorem FM {l:List Spn}{x:Int} (h:aR x l) (k:Nat):∃ y,aR y (l.drop k):=by
 induction l generalizing x k with
 | nil=>exact ⟨0,by rw [List.drop_nil];trivial⟩
 | cons s r ih =>
  cases k with
  | zero=>exact ⟨x,h⟩
  | succ k=>exact ih h.2.2 k
theorem Ig {A B:Type} (g:A->B) (l:List A) (i:Nat):(l.map g).eraseIdx i=(l.eraseIdx i).map g:=by
 rw [List.eraseIdx_eq_take_drop_succ,List.eraseIdx_eq_take_drop_succ,List.map_append,List.map_take,List.map_drop]
theorem Ih {x r:Rat}{n:Int}{m:Nat} (hx:aH m (rQ x)) (hm:1<=m) (hn:-999999999999999<=n/\n<=999999999999999) (hr:aH 140 (rQ r)):aH (m+150) (rQ (x+n*r)) :=
 aF (eT hx (fY (jC hn.1 hn.2) hr dc dc) hm dc) om
theorem Dj (f:Int) (a b:Option Addr) (hs:List Int) (l:List Spn) (c d:Nat) (w:World) (hA:aE w a 1 (hs.map isV)) (hB:aN w b l) (hf:∀ s∈l,fewS s) (hl:hs.length<=1000) (hcap:hs.length<=c)
  (hOf:∀ w',Below w.heap.size w w'->Calls Tryz.prog 59 #[.agg #[.int .i64 f,.slice a hs.length c]] w' fun e w''=>∃ u:Value,e=.returned (.tuple #[u,.int .i64 (if dK f hs=false then 1 else 0)])/\Below w'.heap.size w' w'') :
  CR 21 #[.agg #[.int .i64 f,.slice a hs.length c],.slice b l.length d] w (.tuple #[qA (kI f hs l).1,.int .i64 (kI f hs l).2]):=by
 have hc:=fun w' (hb:Below w.heap.size w w')=>lN b l d w' (hB.below hb) hf
 rw [kI];by_cases h1:aZ l=0
 ·rw [if_neg (fun e=>e h1)]
  have ⟨k1,k2⟩:=cT h1;have hO:aR 0 l:=by
   rw [aZ,if_neg om] at h1;exact qB h1
  rw [h1] at hc;by_cases h2:dK f hs=false
  ·rw [if_pos h2]
   rw [if_pos h2] at hOf;refine aB [(0,.agg #[.int .i64 f,.slice a hs.length c]),(1,.slice b l.length d)] Tryz.func21 Tryz.ntmps21 ?_;all_goals (refine go ?_;and_intros<;>(try exact trivial)<;>intros)
   repeat' ((first|(refine G.PG hc ?_)|(refine G.cX hOf ?_;intro u))<;>(refine go ?_;and_intros<;>(try exact trivial)<;>intros))
   all_goals exact hU Tryz.func21 Tryz.results21 rfl
  ·rw [if_neg h2]
   rw [if_neg h2] at hOf;have h2:dK f hs=true:=by simpa using h2
   obtain ⟨k3,k4⟩:=nF h2;refine aB [(0,.agg #[.int .i64 f,.slice a hs.length c]),(1,.slice b l.length d)] Tryz.func21 Tryz.ntmps21 ?_;generalize hT:aI l f hs=T;all_goals (refine go ?_;and_intros<;>(try exact trivial)<;>intros)
   repeat' ((first|(refine G.PG hc ?_)|(refine G.cX hOf ?_;intro u)|(apply G.cR (g:=60) (v:=fun x:Nat×Nat=>.pointer (some ⟨x.1,0,none⟩)) (Mn:=fun x=>[.blk x.1 123 [.slice b l.length d,.map (some x.2),.bool false,.string (bs []),.string (bs [])] 5,.inv x.2 (jF l)]);rfl;rfl;exact fun w' hw'=>FI w _ w' b l d hw';rintro ⟨bl,bm⟩))<;>(refine go ?_;and_intros<;>(try exact trivial)<;>intros))
   clear hc hOf;refine J.QK hB.1 (J.Qp (r1:=.blk bl 123 [.slice b l.length d,.map (some bm),.bool false,.string (bs []),.string (bs [])] 5) (r2:=.inv bm (jF l)) (r3:=aL w.heap.size b 7 (l.map spV)) (by (repeat (first|exact eS.head|apply eS.tail))) (by (repeat (first|exact eS.head|apply eS.tail))) (by (repeat (first|exact eS.head|apply eS.tail))) ?_)
   refine J.loop (c:=_) ((0,0,aY):Nat×Rat×Q3) (fun s=>l.length-s.1) (fun s=>[(2,.pointer (some ⟨_,0,none⟩)),(4,.pointer (some ⟨_,0,none⟩)),(9,.pointer (some ⟨bl,0,none⟩)),(33,.slice b l.length d),(34,.int .i64 l.length),(35,.int .i64 s.1)]) (fun s=>[.blk bl 123 [.slice b l.length d,.map (some bm),.bool s.2.2.neg,.string (bs s.2.2.num),.string (bs s.2.2.den)] 5,.inv bm (jF l),aL w.heap.size b 7 (l.map spV),.blk _ 25 [.bool false,.string (bs []),.string (bs [])] 3,.blk _ 30 [.int .i64 f,.slice a hs.length c] 2]) (fun s=>s.1<=l.length/\s.2.2=rQ s.2.1/\aH (1+150000*s.1) s.2.2/\s.2.1+aI (l.drop s.1) f hs=T/\∀ i (hi:i < l.length),i < s.1->pZ f hs.length l[i]=false) ?_ sbT sbL ?_
   ·exact ⟨Nat.zero_le _,rfl,⟨Nat.zero_le _,Nat.zero_le _⟩,by rw [Rat.zero_add];exact hT,fun i h h2=>absurd h2 (Nat.not_lt_zero _)⟩
   intro ⟨k,x,S⟩ ⟨h3,h4,h5,h6,h7⟩ ih;dsimp only at h3 h4 h5 h6 h7 ⊢;by_cases hk:k < l.length
   ·obtain ⟨bb,ob,rfl,hrb⟩:=aE.all hB.1 om
    have hrk:=hrb k hk;by_cases hq:pZ f hs.length l[k]=true
    ·rw [if_pos (List.any_eq_true.2 ⟨_,gM hk,hq⟩)]
     simp only [pZ,Bool.or_eq_true,decide_eq_true_eq] at hq;clear ih h7;generalize l[k]=s at *;obtain ⟨fr,tt,wt,dt,pts,adr,cap⟩:=s;dsimp only [spV] at *;all_goals (refine go ?_;and_intros<;>(try exact trivial)<;>intros)
     all_goals exact hU Tryz.func21 Tryz.results21 rfl
    ·have hq2:pZ f hs.length l[k]=false:=by simpa using hq
     have h7':∀ i (hi:i < l.length),i < k+1->pZ f hs.length l[i]=false:=fun i hi h8=>by
      rcases Nat.lt_or_ge i k with h9|h9
      ·exact h7 i hi h9
      ·obtain rfl:i=k:=by omega
       exact hq2
     simp only [pZ,Bool.or_eq_false_iff,decide_eq_false_iff_not] at hq2;obtain ⟨y,hy⟩:=FM hO k;rw [List.drop_eq_getElem_cons hk] at h6 hy;rw [Ev hy] at h6;have hRk:=k2 _ (gM hk);have hof:∀ t,ofR l (k:Int) t=bC l[k] t:=fun t=>FH hk
     have hp:∃ p:Nat,l[k].from_=f+p:=⟨(l[k].from_-f).toNat,by omega⟩
     have hn:∃ n:Nat,l[k].to_=l[k].from_+n/\0 < n:=⟨(l[k].to_-l[k].from_).toNat,by have:=hRk.1;omega,by have:=hRk.1;omega⟩
     obtain ⟨p,hp⟩:=hp;obtain ⟨n,hn,hn0⟩:=hn;rw [Ew hs f p hp om,show (l[k].to_-l[k].from_).toNat=n by omega] at h6
     have hpn:p+n<=hs.length:=by omega
     obtain ⟨ba,oa,rfl,hra⟩:=aE.all hA om;clear h7 hq hRk;generalize bC l[k]=g at *;generalize hV:aI (l.drop (k+1)) f hs=V at *;generalize l[k]=s at *;obtain ⟨fr,tt,wt,dt,pts,adr,cap⟩:=s;dsimp only [spV] at *;subst hp;subst hn;have hseg:∀ i (hi:i < n),((hs.drop p).take n).drop i=hs[p+i]::((hs.drop p).take n).drop (i+1):=fun i hi=>by
      rw [List.drop_eq_getElem_cons (by simp;omega)]
      simp
     have hlen:((hs.drop p).take n).length=n:=by simp;omega
     generalize hsg:(hs.drop p).take n=sg at *;all_goals (refine go ?_;and_intros<;>(try exact trivial)<;>intros)
     repeat' ((first|(apply G.Q8 (l:=p) (h:=p+n) (off:=oa+p*1) (len:=n);rfl;rfl;rfl;omega;omega;omega;omega;omega;rfl;omega;rfl)|(apply G.Qv;rfl;intro bq))<;>(refine go ?_;and_intros<;>(try exact trivial)<;>intros))
     refine J.loop (c:=_) ((0,#[],0,[]):Nat×Array MapEntry×Nat×List (Int×Int)) (fun s=>n-s.1) (fun s=>[(2,.pointer (some ⟨_,0,none⟩)),(4,.pointer (some ⟨_,0,none⟩)),(9,.pointer (some ⟨bl,0,none⟩)),(10,.int .i64 k),(12,.map (some bq)),(33,.slice (some ⟨bb,ob,none⟩) l.length d),(34,.int .i64 l.length),(35,.int .i64 k),(70,.slice (some ⟨ba,oa+p*1,none⟩) n _),(71,.int .i64 n),(72,.int .i64 s.1)]) (fun s=>[.obj bq (.map s.2.1 s.2.2.1),.blk bl 123 [.slice (some ⟨bb,ob,none⟩) l.length d,.map (some bm),.bool S.neg,.string (bs S.num),.string (bs S.den)] 5,.inv bm (jF l),aL w.heap.size (some ⟨bb,ob,none⟩) 7 (l.map spV),.blk _ 25 [.bool false,.string (bs []),.string (bs [])] 3,.blk _ 30 [.int .i64 f,.slice (some ⟨ba,oa,none⟩) hs.length c] 2]) (fun s=>s.1<=n/\dQ (Value.int .i64) s.2.1 s.2.2.1 (s.2.2.2.map iv)/\eX g s.2.2.2+cC g (sg.drop s.1)=cC g sg/\okL s.1 s.2.2.2/\s.2.2.2.length<=s.1) ?_ sbT sbL ?_
     ·exact ⟨Nat.zero_le _,dQ.nil,Rat.zero_add _,fun p hp=>(by cases hp),Nat.le_refl _⟩
     intro ⟨i,es,ck,Lc⟩ ⟨e1,hI,e2,e3,e4⟩ ih2;dsimp only at e1 hI e2 e3 e4 ⊢;by_cases hin:i < n
     ·have hr1:bG w ba (oa+p*1+i*1) [.int .i64 hs[p+i]]:=by
       have:=hra (p+i) om;rw [show oa+p*1+i*1=oa+(p+i)*1 by omega];exact this
      have hx:=k4 (p+i) om;rw [hseg i hin,cC] at e2;clear hra;generalize hs[p+i]=z at *;have hcn:=okL.cnt (x:=z) (Int.natCast_nonneg i) e3;all_goals (refine go ?_;and_intros<;>(try exact trivial)<;>intros)
      repeat' ((first|(apply G.lk (kf:=Value.int .i64) (a:=z) hI;rfl;rfl;exact mm;exact FC z Lc;rfl)|(apply G.mu (kf:=Value.int .i64) (a:=z) hI (Jx z Lc);rfl;rfl;rfl;rfl;(repeat (first|exact RAt.head|apply RAt.tail));intro es2 c2 hI2))<;>(refine go ?_;and_intros<;>(try exact trivial)<;>intros))
      exact J.fin (ih2 (i+1,es2,c2,bump z Lc) ⟨hin,hI2,by dsimp only;rw [Ce];grind,by dsimp only;exact_mod_cast okL.bump hx (Int.natCast_nonneg i) e3,by dsimp only;have:=okL.len (x:=z) Lc;omega⟩ (by dsimp only;omega))
     ·obtain rfl:i=n:=by omega
      rw [show sg.drop i=[] from List.drop_eq_nil_of_le om,cC,Rat.add_zero] at e2
      clear ih2;all_goals (refine go ?_;and_intros<;>(try exact trivial)<;>intros)
      repeat' ((first|(apply G.rg;rfl;exact mm;rfl;intro br))<;>(refine go ?_;and_intros<;>(try exact trivial)<;>intros))
      rw [<- e2,<- Rat.add_assoc] at h6;clear e2 e1;refine J.Qp (r1:=.blk bl 123 [.slice (some ⟨bb,ob,none⟩) l.length d,.map (some bm),.bool S.neg,.string (bs S.num),.string (bs S.den)] 5) (r2:=.inv bm (jF l)) (r3:=aL w.heap.size (some ⟨bb,ob,none⟩) 7 (l.map spV)) (by (repeat (first|exact eS.head|apply eS.tail))) (by (repeat (first|exact eS.head|apply eS.tail))) (by (repeat (first|exact eS.head|apply eS.tail))) ?_
      refine J.loop (c:=_) ((x,S,#[],Lc):Rat×Q3×Array Nat×List (Int×Int)) (fun s=>s.2.2.2.length) (fun s=>[(2,.pointer (some ⟨_,0,none⟩)),(4,.pointer (some ⟨_,0,none⟩)),(9,.pointer (some ⟨bl,0,none⟩)),(10,.int .i64 k),(33,.slice (some ⟨bb,ob,none⟩) l.length d),(34,.int .i64 l.length),(35,.int .i64 k),(82,.pointer (some ⟨br,0,none⟩))]) (fun s=>[.blk bl 123 [.slice (some ⟨bb,ob,none⟩) l.length d,.map (some bm),.bool s.2.1.neg,.string (bs s.2.1.num),.string (bs s.2.1.den)] 5,.inv bm (jF l),aL w.heap.size (some ⟨bb,ob,none⟩) 7 (l.map spV),.obj br (.mapIter (some bq) ck s.2.2.1 ck),.obj bq (.map es ck),.blk _ 25 [.bool false,.string (bs []),.string (bs [])] 3,.blk _ 30 [.int .i64 f,.slice (some ⟨ba,oa,none⟩) hs.length c] 2]) (fun s=>s.2.1=rQ s.1/\s.2.2.2.length<=i/\aH (1+150000*k+150*(i-s.2.2.2.length)) s.2.1/\s.1+eX g s.2.2.2+V=T/\Rem (Value.int .i64) es s.2.2.1 (s.2.2.2.map iv)/\okL i s.2.2.2) ?_ sbT sbL ?_
      ·exact ⟨h4,e4,aF h5 om,h6,Rem.start hI,e3⟩
      clear h4 h5 h6 e3 e4;intro ⟨x1,S1,seen,R⟩ ⟨h4,e4,h5,h6,hRm,e3⟩ ih2;dsimp only at h4 e4 h5 h6 hRm e3 ⊢;by_cases hR0:R=[]
      ·subst hR0
       clear ih2;all_goals (refine go ?_;and_intros<;>(try exact trivial)<;>intros)
       repeat' ((first|(apply G.Rk hI hRm;rfl;rfl;exact mm;exact mm))<;>(refine go ?_;and_intros<;>(try exact trivial)<;>intros))
       exact J.fin (ih (k+1,x1,S1) ⟨hk,h4,aF h5 (by dsimp only;omega),by dsimp only;rw [eX,Rat.add_zero] at h6;rw [hV];exact h6,h7'⟩ (by dsimp only;omega))
      ·have hadd:∀ j (hj:j < R.length),(S1=rQ x1/\aH (1+150000*k+150*(i-R.length)) S1/\(1+150000*k+150*(i-R.length))<=134217728)/\(∀ s∈l,lM w s)/\(∀ s∈l,fewS s)/\(∀ s∈l,aQ s)/\(k:Int) < l.length/\(0<=R[j].1/\R[j].1<=1000)/\l.length<=1000000/\(∃ b' off,(some ⟨bb,ob,none⟩:Option Addr)=some ⟨b',off,none⟩∨l=[])/\-999999999999999<=R[j].2/\R[j].2<=999999999999999:=fun j hj=>by
        have:=e3 _ (gM hj);exact ⟨⟨h4,h5,by omega⟩,hB.2,hf,k2,by omega,this.1,by omega,⟨bb,ob,.inl rfl⟩,by omega,by omega⟩
       all_goals (refine go ?_;and_intros<;>(try exact trivial)<;>intros)
       repeat' ((first|(apply G.Rj hI hRm (fun e=>hR0 (List.map_eq_nil_iff.1 e));rfl;rfl;(repeat (first|exact RAt.head|apply RAt.tail));exact mm;intro j hj seen' hRm' ⟨e,he,hsn,hek,hev⟩;rw [List.length_map] at hj;rw [List.getElem_map,iv] at hek hev;dsimp only at hek hev)|(apply G.en hI he hsn hek hev;rfl;rfl;exact mm;exact mm)|(apply G.Ry rfl x1 (1+150000*k+150*(i-R.length));rfl;rfl;(repeat (first|exact eS.head|apply eS.tail));(repeat (first|exact eS.head|apply eS.tail));(repeat (first|exact eS.head|apply eS.tail));exact hadd j hj;intro S2 hS2))<;>(refine go ?_;and_intros<;>(try exact trivial)<;>intros))
       have hj3:=e3 _ (gM hj);rw [hof] at hS2;have hfew:=Hb (k:=(k:Int)) hf k2 hj3.1;rw [hof] at hfew;have hst:=Ih (n:=R[j].2) (h4 ▸ h5) om om hfew;rw [Aj g R j hj] at h6;have hlenR:(R.eraseIdx j).length=R.length-1:=by rw [List.length_eraseIdx,if_pos hj]
       exact J.fin (ih2 (x1+R[j].2*g R[j].1,S2,seen',R.eraseIdx j) ⟨hS2,by dsimp only;omega,by dsimp only;rw [hS2];exact aF hst om,by dsimp only;grind,by dsimp only;rw [<- Ig];exact hRm',fun p hp=>e3 p (List.mem_of_mem_eraseIdx hp)⟩ (by dsimp only;omega))
   ·rw [show l.any (pZ f hs.length)=false from List.any_eq_false.2 fun x hx=>by
     obtain ⟨i,h8,rfl⟩:=List.getElem_of_mem hx;rw [h7 i h8 om];decide]
    rw [if_neg dc];rw [show k=l.length by omega,List.drop_length,FJ,Rat.add_zero] at h6
    subst h6;rw [<- h4];clear ih h7;all_goals (refine go ?_;and_intros<;>(try exact trivial)<;>intros)
    all_goals exact hU Tryz.func21 Tryz.results21 rfl
 ·rw [if_pos h1]
  generalize aZ l=E at *;refine aB [(0,.agg #[.int .i64 f,.slice a hs.length c]),(1,.slice b l.length d)] Tryz.func21 Tryz.ntmps21 ?_;all_goals (refine go ?_;and_intros<;>(try exact trivial)<;>intros)
  repeat' ((first|(refine G.PG hc ?_))<;>(refine go ?_;and_intros<;>(try exact trivial)<;>intros))
  all_goals exact hU Tryz.func21 Tryz.results21 rfl
end Go.Proofs.YtjcecdmbfmccoaaGreatDoor
