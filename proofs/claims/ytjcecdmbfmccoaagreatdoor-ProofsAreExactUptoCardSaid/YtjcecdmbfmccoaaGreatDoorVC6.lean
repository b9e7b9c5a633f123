/-
  Contracts of curves: Check of the program and of the specification.
-/
import Derived.Test.YtjcecdmbfmccoaaGreatDoorVC5
set_option linter.unusedVariables false
set_option linter.unusedSimpArgs false
set_option linter.unusedSectionVars false
namespace Go.Proofs.YtjcecdmbfmccoaaGreatDoor
open Go.RowKit Go.Sl Go.Num
abbrev Pnt:=Int×Q3
def ptV (p:Pnt):List Value:=[.int .i64 p.1,.bool p.2.neg,.string (bs p.2.num),.string (bs p.2.den)]
def fewPts (l:List Pnt):Prop:=l.length<=20/\∀ p∈l,fewQ 12 p.2
def ptsErr (prev:Option Pnt):List Pnt->Int
 | []=>0
 | p::r=>if p.1 < -1000∨2000 < p.1 then 3 else if ¬ validQ p.2∨p.2.neg=true then 1 else
  match prev with
  | none=>ptsErr (some p) r
  | some q=>if p.1<=q.1∨sgnR (qR p.2-qR q.2) < 0 then 1 else ptsErr (some p) r
def curveErr (l:List Pnt):Int:=if l.length < 1∨16 < l.length then 2 else ptsErr none l
theorem onCurve_holds (s:Int) (w:World):Calls Tryz.prog 167 #[.int .i64 s] w fun e w'=>e=.returned (.bool (!decide (s < -1000∨2000 < s)))/\Below w.heap.size w w':=by
 refine enterA [(0,.int .i64 s)] Tryz.func167 Tryz.ntmps167 ?_
 all_goals (refine go ?_;and_intros<;>first|exact trivial|repeat first|intro(Bk:Nat)|intro h)
 all_goals refine ret1b Tryz.func167 Tryz.results167 ?_
 all_goals exact ret_bool (by first|(rw [decide_eq_true (by omega)];rfl)|(rw [decide_eq_false (by omega)];rfl))
theorem positive_holds (a:Q3) (w:World) (h1:a.num.length<=536870912) (h2:a.den.length<=536870912) :
  Calls Tryz.prog 168 #[qA a] w fun e w'=>e=.returned (.bool (!decide (¬ validQ a∨a.neg=true)))/\Below w.heap.size w w':=by
 have hv:=fun w'=>ratValid_holds a w' h1 h2
 generalize hc:decide (¬ validQ a∨a.neg=true)=c
 by_cases h:validQ a
 ·rw [decide_eq_true h] at hv
  have hn:a.neg=c:=by rw [<- hc];simp [h]
  obtain ⟨s,n,d⟩:=a
  dsimp only at hn
  subst hn
  clear hc
  refine enterA [(0,qA ⟨s,n,d⟩)] Tryz.func168 Tryz.ntmps168 ?_
  cases s
  all_goals skip
  repeat' first|(refine gp ?_;and_intros<;>first|exact trivial|repeat first|intro(Bk:Nat)|intro h)|(apply G.cV (g:=26);rfl;rfl;exact fun w' _=>hv w')
  all_goals refine ret1b Tryz.func168 Tryz.results168 ?_
  all_goals rfl
 ·rw [decide_eq_false h] at hv
  have hn:c=true:=by rw [<- hc];simp [h]
  subst hn
  clear hc
  refine enterA [(0,qA a)] Tryz.func168 Tryz.ntmps168 ?_
  repeat' first|(refine gp ?_;and_intros<;>first|exact trivial|repeat first|intro(Bk:Nat)|intro h)|(apply G.cV (g:=26);rfl;rfl;exact fun w' _=>hv w')
  all_goals refine ret1b Tryz.func168 Tryz.results168 ?_
  all_goals rfl
theorem ptsErr_step {l:List Pnt}{k:Nat} (hk:k < l.length):ptsErr (prv l k) (l.drop k)=if l[k].1 < -1000∨2000 < l[k].1 then 3 else if ¬ validQ l[k].2∨l[k].2.neg=true then 1 else
  match prv l k with
  | none=>ptsErr (prv l (k+1)) (l.drop (k+1))
  | some q=>if l[k].1<=q.1∨sgnR (qR l[k].2-qR q.2) < 0 then 1 else ptsErr (prv l (k+1)) (l.drop (k+1)):=by
 rw [List.drop_eq_getElem_cons hk,prv,List.getElem?_eq_getElem hk]
 cases prv l k<;>rfl
theorem ptsErr_end {l:List Pnt}{q:Option Pnt}:ptsErr q (l.drop l.length)=0:=by
 rw [List.drop_length];rfl
theorem refCheck_holds (a:Option Addr) (l:List Pnt) (c:Nat) (w:World) (hA:SlAt w a 4 (l.map ptV)) (hf:fewPts l) :
  Calls Tryz.prog 163 #[.agg #[.slice a l.length c]] w fun e w'=>e=.returned (.int .i64 (curveErr l))/\Below w.heap.size w w':=by
 obtain ⟨hf1,hf2⟩:=hf
 refine enterA [(0,.agg #[.slice a l.length c])] Tryz.func163 Tryz.ntmps163 ?_
 by_cases hl:l.length < 1∨16 < l.length
 ·rw [curveErr,if_pos hl]
  all_goals (refine go ?_;and_intros<;>first|exact trivial|repeat first|intro(Bk:Nat)|intro h)
  all_goals refine ret1b Tryz.func163 Tryz.results163 ?_
  all_goals rfl
 have hI:curveErr l=ptsErr (prv l 0) (l.drop 0):=by rw [curveErr,if_neg hl];rfl
 generalize curveErr l=E at *
 all_goals (refine go ?_;and_intros<;>first|exact trivial|repeat first|intro(Bk:Nat)|intro h)
 refine J.loop (c:=_) (0:Nat) (fun s=>l.length-s) (fun s=>[(1,.pointer (some ⟨Bk,0,none⟩)),(3,.int .i64 s)]) (fun s=>[.blk Bk 117 [.slice a l.length c] 1]) (fun s=>s<=l.length/\E=ptsErr (prv l s) (l.drop s)) ?_ sbT sbL ?_
 ·exact ⟨Nat.zero_le _,hI⟩
 clear hI
 intro k ⟨h1,hI⟩ ih
 by_cases hk:k < l.length
 ·obtain ⟨ba,oa,rfl,hrow⟩:=SlAt.all hA (by omega)
  have hq:=hf2 _ (List.getElem_mem hk)
  have hv:=fun w'=>sValid_holds l[k].2 w' (fewQ_le hq (by decide)).1 (fewQ_le hq (by decide)).2
  have hr:=hrow k hk
  rw [ptsErr_step hk] at hI
  rcases k with _|j
  ·rw [show prv l 0=none from rfl] at hI
   dsimp only at hI
   generalize l[0]=p at *
   obtain ⟨s,ng,n,d⟩:=p
   dsimp only [ptV] at *
   by_cases c1:s < -1000∨2000 < s
   ·rw [if_pos c1] at hI
    subst hI
    all_goals (refine go ?_;and_intros<;>first|exact trivial|repeat first|intro(Bk:Nat)|intro h)
    all_goals refine ret1b Tryz.func163 Tryz.results163 ?_
    all_goals rfl
   rw [if_neg c1] at hI
   by_cases c2:validQ ⟨ng,n,d⟩
   ·rw [decide_eq_true c2] at hv
    cases ng
    ·rw [if_neg (by simp [c2])] at hI
     repeat' first|(refine gp ?_;and_intros<;>first|exact trivial|repeat first|intro(Bk:Nat)|intro h)|(apply G.cV (g:=86);rfl;rfl;exact fun w' _=>hv w')
     exact J.fin (ih 1 ⟨hk,hI⟩ (by omega))
    ·rw [if_pos (.inr rfl)] at hI
     subst hI
     repeat' first|(refine gp ?_;and_intros<;>first|exact trivial|repeat first|intro(Bk:Nat)|intro h)|(apply G.cV (g:=86);rfl;rfl;exact fun w' _=>hv w')
     all_goals refine ret1b Tryz.func163 Tryz.results163 ?_
     all_goals rfl
   ·rw [decide_eq_false c2] at hv
    rw [if_pos (.inl c2)] at hI
    subst hI
    repeat' first|(refine gp ?_;and_intros<;>first|exact trivial|repeat first|intro(Bk:Nat)|intro h)|(apply G.cV (g:=86);rfl;rfl;exact fun w' _=>hv w')
    all_goals refine ret1b Tryz.func163 Tryz.results163 ?_
    all_goals rfl
  ·have hj:=hrow j (by omega)
   have hqj:=hf2 _ (List.getElem_mem (show j < l.length by omega))
   have g1:=valid_few hqj
   have hc:=fun w'=>sCmp_holds l[j+1].2 l[j].2 w' (fewQ_le hq (by decide)).1 (fewQ_le hq (by decide)).2 (fewQ_le hqj (by decide)).1 (fewQ_le hqj (by decide)).2 (by omega) (by omega)
   rw [show prv l (j+1)=some l[j] from List.getElem?_eq_getElem (by omega)] at hI
   dsimp only at hI
   clear hqj g1 hq
   generalize l[j+1]=p at *
   generalize l[j]=p2 at *
   obtain ⟨s,ng,n,d⟩:=p
   obtain ⟨s2,ng2,n2,d2⟩:=p2
   dsimp only [ptV] at *
   generalize sgnR (qR ⟨ng,n,d⟩-qR ⟨ng2,n2,d2⟩)=sg at *
   by_cases c1:s < -1000∨2000 < s
   ·rw [if_pos c1] at hI
    subst hI
    all_goals (refine go ?_;and_intros<;>first|exact trivial|repeat first|intro(Bk:Nat)|intro h)
    all_goals refine ret1b Tryz.func163 Tryz.results163 ?_
    all_goals rfl
   rw [if_neg c1] at hI
   by_cases c2:validQ ⟨ng,n,d⟩
   ·rw [decide_eq_true c2] at hv
    cases ng
    ·rw [if_neg (by simp [c2])] at hI
     by_cases c3:s<=s2∨sg < 0
     ·rw [if_pos c3] at hI
      subst hI
      repeat' first|(refine gp ?_;and_intros<;>first|exact trivial|repeat first|intro(Bk:Nat)|intro h)|(apply G.cV (g:=86);rfl;rfl;exact fun w' _=>hv w')|(apply G.cV (g:=51);rfl;rfl;exact fun w' _=>hc w')
      all_goals refine ret1b Tryz.func163 Tryz.results163 ?_
      all_goals rfl
     ·rw [if_neg c3] at hI
      repeat' first|(refine gp ?_;and_intros<;>first|exact trivial|repeat first|intro(Bk:Nat)|intro h)|(apply G.cV (g:=86);rfl;rfl;exact fun w' _=>hv w')|(apply G.cV (g:=51);rfl;rfl;exact fun w' _=>hc w')
      exact J.fin (ih (j+2) ⟨hk,hI⟩ (by omega))
    ·rw [if_pos (.inr rfl)] at hI
     subst hI
     repeat' first|(refine gp ?_;and_intros<;>first|exact trivial|repeat first|intro(Bk:Nat)|intro h)|(apply G.cV (g:=86);rfl;rfl;exact fun w' _=>hv w')
     all_goals refine ret1b Tryz.func163 Tryz.results163 ?_
     all_goals rfl
   ·rw [decide_eq_false c2] at hv
    rw [if_pos (.inl c2)] at hI
    subst hI
    repeat' first|(refine gp ?_;and_intros<;>first|exact trivial|repeat first|intro(Bk:Nat)|intro h)|(apply G.cV (g:=86);rfl;rfl;exact fun w' _=>hv w')
    all_goals refine ret1b Tryz.func163 Tryz.results163 ?_
    all_goals rfl
 ·rw [show k=l.length by omega,ptsErr_end] at hI
  subst hI
  all_goals (refine go ?_;and_intros<;>first|exact trivial|repeat first|intro(Bk:Nat)|intro h)
  all_goals refine ret1b Tryz.func163 Tryz.results163 ?_
  all_goals rfl
theorem curveCheck_holds (a:Option Addr) (l:List Pnt) (c:Nat) (w:World) (hA:SlAt w a 4 (l.map ptV)) (hf:fewPts l) :
  Calls Tryz.prog 142 #[.agg #[.slice a l.length c]] w fun e w'=>e=.returned (.int .i64 (curveErr l))/\Below w.heap.size w w':=by
 obtain ⟨hf1,hf2⟩:=hf
 refine enterA [(0,.agg #[.slice a l.length c])] Tryz.func142 Tryz.ntmps142 ?_
 by_cases hl:l.length < 1∨16 < l.length
 ·rw [curveErr,if_pos hl]
  all_goals (refine go ?_;and_intros<;>first|exact trivial|repeat first|intro(Bk:Nat)|intro h)
  all_goals refine ret1b Tryz.func142 Tryz.results142 ?_
  all_goals rfl
 have hI:curveErr l=ptsErr (prv l 0) (l.drop 0):=by rw [curveErr,if_neg hl];rfl
 generalize curveErr l=E at *
 all_goals (refine go ?_;and_intros<;>first|exact trivial|repeat first|intro(Bk:Nat)|intro h)
 refine J.loop (c:=_) (0:Nat) (fun s=>l.length-s) (fun s=>[(1,.pointer (some ⟨Bk,0,none⟩)),(16,.slice a l.length c),(17,.int .i64 l.length),(18,.int .i64 s)]) (fun s=>[.blk Bk 117 [.slice a l.length c] 1]) (fun s=>s<=l.length/\E=ptsErr (prv l s) (l.drop s)) ?_ sbT sbL ?_
 ·exact ⟨Nat.zero_le _,hI⟩
 clear hI
 intro k ⟨h1,hI⟩ ih
 by_cases hk:k < l.length
 ·obtain ⟨ba,oa,rfl,hrow⟩:=SlAt.all hA (by omega)
  have hq:=hf2 _ (List.getElem_mem hk)
  have hv:=fun w'=>positive_holds l[k].2 w' (fewQ_le hq (by decide)).1 (fewQ_le hq (by decide)).2
  have hon:=fun w'=>onCurve_holds l[k].1 w'
  have hr:=hrow k hk
  rw [ptsErr_step hk] at hI
  rcases k with _|j
  ·rw [show prv l 0=none from rfl] at hI
   dsimp only at hI
   generalize l[0]=p at *
   obtain ⟨s,ng,n,d⟩:=p
   dsimp only [ptV] at *
   by_cases c1:s < -1000∨2000 < s
   ·rw [if_pos c1] at hI
    rw [decide_eq_true c1] at hon
    subst hI
    repeat' first|(refine gp ?_;and_intros<;>first|exact trivial|repeat first|intro(Bk:Nat)|intro h)|(apply G.cV (g:=167);rfl;rfl;exact fun w' _=>hon w')|(apply G.cV (g:=168);rfl;rfl;exact fun w' _=>hv w')
    all_goals refine ret1b Tryz.func142 Tryz.results142 ?_
    all_goals rfl
   rw [if_neg c1] at hI
   rw [decide_eq_false c1] at hon
   by_cases c2:¬ validQ ⟨ng,n,d⟩∨ng=true
   ·rw [decide_eq_true c2] at hv
    rw [if_pos c2] at hI
    subst hI
    repeat' first|(refine gp ?_;and_intros<;>first|exact trivial|repeat first|intro(Bk:Nat)|intro h)|(apply G.cV (g:=167);rfl;rfl;exact fun w' _=>hon w')|(apply G.cV (g:=168);rfl;rfl;exact fun w' _=>hv w')
    all_goals refine ret1b Tryz.func142 Tryz.results142 ?_
    all_goals rfl
   rw [decide_eq_false c2] at hv
   rw [if_neg c2] at hI
   repeat' first|(refine gp ?_;and_intros<;>first|exact trivial|repeat first|intro(Bk:Nat)|intro h)|(apply G.cV (g:=167);rfl;rfl;exact fun w' _=>hon w')|(apply G.cV (g:=168);rfl;rfl;exact fun w' _=>hv w')
   exact J.fin (ih 1 ⟨hk,hI⟩ (by omega))
  ·have hj:=hrow j (by omega)
   have hqj:=hf2 _ (List.getElem_mem (show j < l.length by omega))
   have hc:=fun w'=>ratCmp_holds l[j+1].2 l[j].2 w' (fewQ_le hq (by decide)).1 (fewQ_le hq (by decide)).2 (fewQ_le hqj (by decide)).1 (fewQ_le hqj (by decide)).2
   rw [show prv l (j+1)=some l[j] from List.getElem?_eq_getElem (by omega)] at hI
   dsimp only at hI
   clear hqj hq
   generalize l[j+1]=p at *
   generalize l[j]=p2 at *
   obtain ⟨s,ng,n,d⟩:=p
   obtain ⟨s2,ng2,n2,d2⟩:=p2
   dsimp only [ptV] at *
   generalize sgnR (qR ⟨ng,n,d⟩-qR ⟨ng2,n2,d2⟩)=sg at *
   by_cases c1:s < -1000∨2000 < s
   ·rw [if_pos c1] at hI
    rw [decide_eq_true c1] at hon
    subst hI
    repeat' first|(refine gp ?_;and_intros<;>first|exact trivial|repeat first|intro(Bk:Nat)|intro h)|(apply G.cV (g:=167);rfl;rfl;exact fun w' _=>hon w')|(apply G.cV (g:=168);rfl;rfl;exact fun w' _=>hv w')
    all_goals refine ret1b Tryz.func142 Tryz.results142 ?_
    all_goals rfl
   rw [if_neg c1] at hI
   rw [decide_eq_false c1] at hon
   by_cases c2:¬ validQ ⟨ng,n,d⟩∨ng=true
   ·rw [decide_eq_true c2] at hv
    rw [if_pos c2] at hI
    subst hI
    repeat' first|(refine gp ?_;and_intros<;>first|exact trivial|repeat first|intro(Bk:Nat)|intro h)|(apply G.cV (g:=167);rfl;rfl;exact fun w' _=>hon w')|(apply G.cV (g:=168);rfl;rfl;exact fun w' _=>hv w')
    all_goals refine ret1b Tryz.func142 Tryz.results142 ?_
    all_goals rfl
   rw [decide_eq_false c2] at hv
   rw [if_neg c2] at hI
   by_cases c3:s<=s2∨sg < 0
   ·rw [if_pos c3] at hI
    subst hI
    repeat' first|(refine gp ?_;and_intros<;>first|exact trivial|repeat first|intro(Bk:Nat)|intro h)|(apply G.cV (g:=167);rfl;rfl;exact fun w' _=>hon w')|(apply G.cV (g:=168);rfl;rfl;exact fun w' _=>hv w')|(apply G.cV (g:=22);rfl;rfl;exact fun w' _=>hc w')
    all_goals refine ret1b Tryz.func142 Tryz.results142 ?_
    all_goals rfl
   rw [if_neg c3] at hI
   repeat' first|(refine gp ?_;and_intros<;>first|exact trivial|repeat first|intro(Bk:Nat)|intro h)|(apply G.cV (g:=167);rfl;rfl;exact fun w' _=>hon w')|(apply G.cV (g:=168);rfl;rfl;exact fun w' _=>hv w')|(apply G.cV (g:=22);rfl;rfl;exact fun w' _=>hc w')
   exact J.fin (ih (j+2) ⟨hk,hI⟩ (by omega))
 ·rw [show k=l.length by omega,ptsErr_end] at hI
  subst hI
  all_goals (refine go ?_;and_intros<;>first|exact trivial|repeat first|intro(Bk:Nat)|intro h)
  all_goals refine ret1b Tryz.func142 Tryz.results142 ?_
  all_goals rfl
theorem search_holds (g:FuncId) [hF:Fun Tryz.prog g] (cap:Array Value) (n m:Nat) (p:Nat->Bool) (w:World) (hn:n < 4611686018427387904) (hmn:m<=n) (h1:∀ i,i < m->p i=false) (h2:∀ i,m<=i->i < n->p i=true)
  (hf:∀ k,k < n->∀ w',Below w.heap.size w w'->Calls Tryz.prog g (#[.int .i64 k]++cap) w' fun e w2=>e=.returned (.bool (p k))/\Below w'.heap.size w' w2) :
  Calls Tryz.prog 124 #[.int .i64 n,.func (.func g) #[] cap] w fun e w'=>e=.returned (.int .i64 m)/\Below w.heap.size w w':=by
 refine enterA [(0,.int .i64 n),(1,.func (.func g) #[] cap)] Tryz.func124 Tryz.ntmps124 ?_
 all_goals (refine go ?_;and_intros<;>first|exact trivial|repeat first|intro(Bk:Nat)|intro h)
 refine J.loop (c:=_) ((0,n):Nat×Nat) (fun s=>s.2-s.1) (fun s=>[(1,.func (.func g) #[] cap),(5,.int .i64 s.1),(6,.int .i64 s.2)]) (fun s=>[]) (fun s=>s.1<=m/\m<=s.2/\s.2<=n) ?_ sbT sbL ?_
 ·exact ⟨Nat.zero_le _,hmn,Nat.le_refl _⟩
 intro ⟨i,j⟩ ⟨g1,g2,g3⟩ ih
 dsimp only at g1 g2 g3 ⊢
 by_cases hij:i < j
 ·have hm:((i:Int)+(j:Int)).fdiv (2 ^ (min 1 IntKind.u64.bits))=(((i+j) / 2:Nat):Int):=by
   rw [show (2:Int) ^ (min 1 IntKind.u64.bits)=2 from rfl,Int.fdiv_eq_ediv_of_nonneg _ (by decide)];omega
  have q1:i<=(i+j) / 2:=by omega
  have q2:(i+j) / 2 < j:=by omega
  generalize (i+j) / 2=r at *
  have hfr:=hf r (by omega)
  have e1:p r=true->m<=r:=fun e=>by
   rcases Nat.lt_or_ge r m with h|h
   ·rw [h1 r h] at e;cases e
   ·exact h
  have e2:p r=false->r < m:=fun e=>by
   rcases Nat.lt_or_ge r m with h|h
   ·exact h
   ·rw [h2 r h (by omega)] at e;cases e
  generalize p r=b at *
  cases b
  ·have e2:=e2 rfl
   repeat' (first|(apply G.shrK (n:=1);rfl;rfl;rfl;exact hm;rfl;rfl;rfl)|(apply G.callVf (g:=g);rfl;rfl;rfl;rfl;rfl;exact fun w' hw=>hfr w' hw.below)|(apply G.pu;rfl;rfl;first|exact trivial|omega)|(apply J.ct;rfl)|(apply G.nil;rfl)|(apply G.cm;rfl;rfl;all_goals intro h;all_goals try (exfalso;omega))|(apply G.fa;rfl;rfl)|(apply G.ld;rfl;(first|(apply LdV.one;(first|exact CellV.row0 (by assumption) rfl|exact CellV.rowS (by assumption) rfl|exact CellV.rowSS (by assumption) rfl|(apply CellV.blk;exact mm;rfl)))|(apply LdV.aggBlk;exact mm;rfl)|(apply LdV.part;exact mm;rfl;rfl)|(apply LdV.aggRow;assumption;rfl)|(apply LdV.partRow;assumption;rfl;rfl));rfl)|(apply G.sk;rfl)|(apply G.ls;rfl;rfl)|(apply G.ix;rfl;rfl;rfl;omega;rfl)|(apply G.ix;rfl;rfl;(first|exact sub_one _|exact add_one' _);omega;rfl)|(apply G.lt;rfl;rfl)|(apply G.bu;rfl;rfl;rfl)|(apply G.fd;rfl;rfl;rfl)|(apply G.cv;rfl;rfl;rfl;omega)|(apply G.beq;rfl;rfl;rfl)|(apply G.bne;rfl;rfl;rfl)|(apply G.mm;rfl;rfl)|(apply G.mf;rfl;rfl)|(apply G.mx;rfl;rfl;rfl)|(apply G.mn;rfl;rfl;rfl)|(apply G.bx;rfl;rfl;rfl;intro Bk)|(apply G.al;rfl;intro Bk)|(apply G.so;rfl;rfl;(repeat (first|exact RAt.head|apply RAt.tail));rfl;rfl)|(apply G.ss;rfl;rfl;(repeat (first|exact RAt.head|apply RAt.tail));rfl;rfl)|(apply J.regQ;exact Tryz.mixed;decide +kernel)|(apply J.regL;exact Tryz.mixed;decide +kernel)|apply J.reg)
   exact J.fin (ih (r+1,j) ⟨by dsimp only;omega,g2,g3⟩ (by dsimp only;omega))
  ·have e1:=e1 rfl
   repeat' (first|(apply G.shrK (n:=1);rfl;rfl;rfl;exact hm;rfl;rfl;rfl)|(apply G.callVf (g:=g);rfl;rfl;rfl;rfl;rfl;exact fun w' hw=>hfr w' hw.below)|(apply G.pu;rfl;rfl;first|exact trivial|omega)|(apply J.ct;rfl)|(apply G.nil;rfl)|(apply G.cm;rfl;rfl;all_goals intro h;all_goals try (exfalso;omega))|(apply G.fa;rfl;rfl)|(apply G.ld;rfl;(first|(apply LdV.one;(first|exact CellV.row0 (by assumption) rfl|exact CellV.rowS (by assumption) rfl|exact CellV.rowSS (by assumption) rfl|(apply CellV.blk;exact mm;rfl)))|(apply LdV.aggBlk;exact mm;rfl)|(apply LdV.part;exact mm;rfl;rfl)|(apply LdV.aggRow;assumption;rfl)|(apply LdV.partRow;assumption;rfl;rfl));rfl)|(apply G.sk;rfl)|(apply G.ls;rfl;rfl)|(apply G.ix;rfl;rfl;rfl;omega;rfl)|(apply G.ix;rfl;rfl;(first|exact sub_one _|exact add_one' _);omega;rfl)|(apply G.lt;rfl;rfl)|(apply G.bu;rfl;rfl;rfl)|(apply G.fd;rfl;rfl;rfl)|(apply G.cv;rfl;rfl;rfl;omega)|(apply G.beq;rfl;rfl;rfl)|(apply G.bne;rfl;rfl;rfl)|(apply G.mm;rfl;rfl)|(apply G.mf;rfl;rfl)|(apply G.mx;rfl;rfl;rfl)|(apply G.mn;rfl;rfl;rfl)|(apply G.bx;rfl;rfl;rfl;intro Bk)|(apply G.al;rfl;intro Bk)|(apply G.so;rfl;rfl;(repeat (first|exact RAt.head|apply RAt.tail));rfl;rfl)|(apply G.ss;rfl;rfl;(repeat (first|exact RAt.head|apply RAt.tail));rfl;rfl)|(apply J.regQ;exact Tryz.mixed;decide +kernel)|(apply J.regL;exact Tryz.mixed;decide +kernel)|apply J.reg)
   exact J.fin (ih (i,r) ⟨g1,e1,by dsimp only;omega⟩ (by dsimp only;omega))
 ·obtain rfl:i=m:=by omega
  all_goals (refine go ?_;and_intros<;>first|exact trivial|repeat first|intro(Bk:Nat)|intro h)
  all_goals refine ret1b Tryz.func124 Tryz.results124 ?_
  all_goals rfl
def nx (l:List Pnt) (s:Int):Nat:=l.findIdx fun p=>decide (s < p.1)
def between (p q:Pnt) (s:Int):Rat:=qR p.2+((s-p.1:Int):Rat) / ((q.1-p.1:Int):Rat)*(qR q.2-qR p.2)
def curveAt (l:List Pnt) (s:Int):Rat :=
 match nx l s with
 | 0=>0
 | n+1=>match l[n]? with
  | none=>0
  | some p=>match l[n+1]? with
   | none=>qR p.2
   | some q=>between p q s
theorem ptsErr_ok {prev:Option Pnt}:∀ {l:List Pnt},ptsErr prev l=0->(∀ p∈l,-1000<=p.1/\p.1<=2000/\validQ p.2)/\(∀ q,prev=some q->∀ p,l[0]?=some p->q.1 < p.1)/\∀ k (h:k+1 < l.length),l[k].1 < l[k+1].1
 | [],_=>⟨by simp,by simp,by simp⟩
 | p::r,h=>by
  rw [ptsErr.eq_def] at h
  dsimp only at h
  split at h
  ·cases h
  split at h
  ·cases h
  rename_i c1 c2
  have c3:validQ p.2:=Classical.byContradiction fun e=>c2 (.inl e)
  cases prev with
  | none =>
   obtain ⟨i1,i2,i3⟩:=ptsErr_ok (l:=r) h
   refine ⟨fun x hx=>?_,by simp,fun k hk=>?_⟩
   ·rcases List.mem_cons.1 hx with rfl|hx
    ·exact ⟨by omega,by omega,c3⟩
    ·exact i1 x hx
   ·cases k with
    | zero=>exact i2 p rfl _ (List.getElem?_eq_getElem (by simpa using hk))
    | succ j=>exact i3 j (by simpa using hk)
  | some q =>
   dsimp only at h
   split at h
   ·cases h
   rename_i c4
   obtain ⟨i1,i2,i3⟩:=ptsErr_ok (l:=r) h
   refine ⟨fun x hx=>?_,fun x hx y hy=>?_,fun k hk=>?_⟩
   ·rcases List.mem_cons.1 hx with rfl|hx
    ·exact ⟨by omega,by omega,c3⟩
    ·exact i1 x hx
   ·cases hx;cases hy;omega
   ·cases k with
    | zero=>exact i2 p rfl _ (List.getElem?_eq_getElem (by simpa using hk))
    | succ j=>exact i3 j (by simpa using hk)
structure RightC (l:List Pnt):Prop where
 len:1<=l.length/\l.length<=16
 mem:∀ k (h:k < l.length),-1000<=l[k].1/\l[k].1<=2000/\validQ l[k].2
 lt:∀ k (h:k+1 < l.length),l[k].1 < l[k+1].1
theorem rightC {l:List Pnt} (h:curveErr l=0):RightC l:=by
 rw [curveErr] at h
 split at h
 ·cases h
 rename_i c1
 obtain ⟨h1,_,h3⟩:=ptsErr_ok h
 exact ⟨by omega,fun k hk=>h1 _ (List.getElem_mem hk),h3⟩
theorem RightC.le {l:List Pnt} (h:RightC l):∀ d i (hj:i+d < l.length),l[i].1<=l[i+d].1
 | 0,i,hj=>Int.le_refl _
 | d+1,i,hj=>by
  have h1:=h.le d i (by omega)
  have h2:=h.lt (i+d) hj
  have h3:l[i+(d+1)].1=l[i+d+1].1:=rfl
  omega
theorem nx_le (l:List Pnt) (s:Int):nx l s<=l.length:=List.findIdx_le_length
theorem nx_lt {l:List Pnt}{s:Int}{i:Nat} (h:i < nx l s):(l[i]'(Nat.lt_of_lt_of_le h (nx_le l s))).1<=s:=by
 have:=List.not_of_lt_findIdx h
 simpa using this
theorem nx_at {l:List Pnt}{s:Int} (h:nx l s < l.length):s < l[nx l s].1:=by
 have:decide (s < l[nx l s].1)=true:=List.findIdx_getElem (w:=h)
 exact of_decide_eq_true this
theorem nx_ge {l:List Pnt} (hr:RightC l) {s:Int}{i:Nat} (h:nx l s<=i) (hi:i < l.length):s < l[i].1:=by
 have h1:=nx_at (l:=l) (s:=s) (by omega)
 obtain ⟨d,rfl⟩:=Nat.exists_eq_add_of_le h
 have:=hr.le d (nx l s) hi
 omega
theorem curveAt_zero {l:List Pnt}{s:Int} (h:nx l s=0):curveAt l s=0:=by rw [curveAt,h]
theorem curveAt_last {l:List Pnt}{s:Int}{n:Nat} (h:nx l s=n+1) (hn:n+1=l.length):curveAt l s=qR (l[n]'(by omega)).2:=by
 rw [curveAt,h]
 simp only [List.getElem?_eq_getElem (show n < l.length by omega),List.getElem?_eq_none (show l.length<=n+1 by omega)]
theorem curveAt_mid {l:List Pnt}{s:Int}{n:Nat} (h:nx l s=n+1) (hn:n+1 < l.length):curveAt l s=between l[n] l[n+1] s:=by
 rw [curveAt,h]
 simp only [List.getElem?_eq_getElem (show n < l.length by omega),List.getElem?_eq_getElem hn]
theorem at1_holds (k:Nat) (s:Int) (B1 B2 ba oa c:Nat) (l:List Pnt) (w:World) (hk:k < l.length) (h1:RowAt w B1 0 [.slice (some ⟨ba,oa,none⟩) l.length c]) (h2:RowAt w B2 0 [.int .i64 s]) (h3:RowAt w ba (oa+k*4) (ptV l[k])) :
  Calls Tryz.prog 181 #[.int .i64 k,.pointer (some ⟨B1,0,none⟩),.pointer (some ⟨B2,0,none⟩)] w fun e w'=>e=.returned (.bool (decide (s < l[k].1)))/\Below w.heap.size w w':=by
 generalize l[k]=p at *
 obtain ⟨t,q⟩:=p
 dsimp only [ptV] at *
 refine enterA [(0,.int .i64 k),(1,.pointer (some ⟨B1,0,none⟩)),(2,.pointer (some ⟨B2,0,none⟩))] Tryz.func181 Tryz.ntmps181 ?_
 all_goals (refine go ?_;and_intros<;>first|exact trivial|repeat first|intro(Bk:Nat)|intro h)
 all_goals refine ret1b Tryz.func181 Tryz.results181 ?_
 all_goals exact ret_bool (by first|(rw [decide_eq_true (by omega)])|(rw [decide_eq_false (by omega)]))
theorem search_at {w0 w:World}{M:List Row}{B1 B2 e1 e2 t1 t2 c:Nat}{a:Option Addr}{l:List Pnt}{s:Int} (hA:SlAt w0 a 4 (l.map ptV)) (hr:RightC l) (hw:Sat w0 M w) (hm1:Row.blk B1 e1 [.slice a l.length c] t1∈M) (hm2:Row.blk B2 e2 [.int .i64 s] t2∈M) :
  Calls Tryz.prog 124 #[.int .i64 l.length,.func (.func 181) #[] #[.pointer (some ⟨B1,0,none⟩),.pointer (some ⟨B2,0,none⟩)]] w fun e w'=>e=.returned (.int .i64 (nx l s))/\Below w.heap.size w w':=by
 have hl:=hr.len
 obtain ⟨ba,oa,rfl,hrow⟩:=SlAt.all hA (by omega)
 refine search_holds 181 _ l.length (nx l s) (fun i=>match l[i]? with|none=>true|some p=>decide (s < p.1)) w (by omega) (nx_le l s) (fun i hi=>?_) (fun i h1 h2=>?_) fun k hk w' hb=>?_
 ·have:=nx_lt hi
  rw [List.getElem?_eq_getElem (Nat.lt_of_lt_of_le hi (nx_le l s))]
  exact decide_eq_false (by omega)
 ·rw [List.getElem?_eq_getElem h2]
  exact decide_eq_true (nx_ge hr h1 h2)
 ·rw [List.getElem?_eq_getElem hk]
  exact at1_holds k s B1 B2 ba oa c l w' hk ((hw.rowAt hm1).below hb) ((hw.rowAt hm2).below hb) (((hrow k hk).below hw.below).below hb)
theorem cAt_holds (a:Option Addr) (l:List Pnt) (c:Nat) (s:Int) (w:World) (hA:SlAt w a 4 (l.map ptV)) (hr:RightC l) (hf:fewPts l) (hs1:-100000<=s) (hs2:s<=100000) :
  Calls Tryz.prog 173 #[.agg #[.slice a l.length c],.int .i64 s] w fun e w'=>e=.returned (qA (rQ (curveAt l s)))/\Below w.heap.size w w':=by
 have hl:=hr.len
 have hle:=nx_le l s
 obtain ⟨ba,oa,ha,hrow⟩:=SlAt.all hA (by omega)
 rcases hn:nx l s with _|n
 ·have hsr:=fun (M:List Row) w' (hw:Sat w M w') B1 B2 e1 e2 t1 t2 h1 h2=>search_at (B1:=B1) (B2:=B2) (e1:=e1) (e2:=e2) (t1:=t1) (t2:=t2) (c:=c) (s:=s) hA hr hw h1 h2
  rw [curveAt_zero hn]
  rw [hn] at hsr
  refine enterA [(0,.agg #[.slice a l.length c]),(1,.int .i64 s)] Tryz.func173 Tryz.ntmps173 ?_
  repeat' first|(refine gp ?_;and_intros<;>first|exact trivial|repeat first|intro(Bk:Nat)|intro h)|(apply G.cV (g:=124);rfl;rfl;exact fun w' hw=>hsr _ w' hw _ _ _ _ _ _ (by exact mm) (by exact mm))
  all_goals refine ret1b Tryz.func173 Tryz.results173 ?_
  all_goals rfl
 have hsr:=fun (M:List Row) w' (hw:Sat w M w') B1 B2 e1 e2 t1 t2 h1 h2=>search_at (B1:=B1) (B2:=B2) (e1:=e1) (e2:=e2) (t1:=t1) (t2:=t2) (c:=c) (s:=s) hA hr hw h1 h2
 rw [hn] at hsr
 subst ha
 have hp:=hrow n (by omega)
 have q1:=nx_lt (l:=l) (s:=s) (i:=n) (by omega)
 have m1:=hr.mem n (by omega)
 have v1:=hf.2 _ (List.getElem_mem (show n < l.length by omega))
 by_cases hlast:n+1=l.length
 ·rw [curveAt_last hn hlast,rQ_qR m1.2.2]
  generalize l[n]=p at *
  obtain ⟨ps,pn,pm,pd⟩:=p
  dsimp only [ptV] at *
  refine enterA [(0,.agg #[.slice (some ⟨ba,oa,none⟩) l.length c]),(1,.int .i64 s)] Tryz.func173 Tryz.ntmps173 ?_
  repeat' first|(refine gp ?_;and_intros<;>first|exact trivial|repeat first|intro(Bk:Nat)|intro h)|(apply G.cV (g:=124);rfl;rfl;exact fun w' hw=>hsr _ w' hw _ _ _ _ _ _ (by exact mm) (by exact mm))
  all_goals refine ret1b Tryz.func173 Tryz.results173 ?_
  all_goals rfl
 have hq:=hrow (n+1) (by omega)
 have q2:=nx_at (l:=l) (s:=s) (by omega)
 have q2:s < (l[n+1]'(by omega)).1:=by simpa only [hn] using q2
 have m2:=hr.mem (n+1) (by omega)
 have v2:=hf.2 _ (List.getElem_mem (show n+1 < l.length by omega))
 rw [curveAt_mid hn (by omega),between]
 generalize l[n]=p at *
 generalize l[n+1]=q at *
 obtain ⟨ps,p⟩:=p
 obtain ⟨qs,q⟩:=q
 dsimp only [ptV] at *
 obtain ⟨m1,m1',m1''⟩:=m1
 obtain ⟨m2,m2',m2''⟩:=m2
 have mk:=fun w'=>make_holds (s-ps) (qs-ps) w' (by omega) (by omega) (by omega) (by omega) (by omega)
 have z1:=fewQ_div (m:=s-ps) (n:=qs-ps) (by omega) (by omega) (by omega) (by omega) (by omega)
 have sb:=fun w'=>ratSub_holds q p w' (fewQ_le v2 (by decide)).1 (fewQ_le v2 (by decide)).2 (fewQ_le v1 (by decide)).1 (fewQ_le v1 (by decide)).2
 have z2:=fewQ_sub (fewQ_valid v2) (fewQ_valid v1) (by decide) (by decide)
 generalize ((s-ps:Int):Rat) / ((qs-ps:Int):Rat)=X at *
 generalize qR q-qR p=D at *
 have ml:=fun w'=>ratMul_holds (rQ X) (rQ D) w' (fewQ_le z1 (by decide)).1 (fewQ_le z1 (by decide)).2 (fewQ_le z2 (by decide)).1 (fewQ_le z2 (by decide)).2
 have z3:=fewQ_mul z1 z2 (by decide) (by decide)
 rw [qR_rQ,qR_rQ] at ml
 have ad:=fun w'=>ratAdd_holds p (rQ (X*D)) w' (fewQ_le v1 (by decide)).1 (fewQ_le v1 (by decide)).2 (fewQ_le z3 (by decide)).1 (fewQ_le z3 (by decide)).2
 rw [qR_rQ] at ad
 generalize rQ (qR p+X*D)=R at *
 generalize rQ (X*D)=XD at *
 generalize rQ X=X at *
 generalize rQ D=D at *
 obtain ⟨pn,pm,pd⟩:=p
 obtain ⟨qn,qm,qd⟩:=q
 clear hf hr m1'' m2''
 refine enterA [(0,.agg #[.slice (some ⟨ba,oa,none⟩) l.length c]),(1,.int .i64 s)] Tryz.func173 Tryz.ntmps173 ?_
 repeat' first|(refine gp ?_;and_intros<;>first|exact trivial|repeat first|intro(Bk:Nat)|intro h)|(apply G.cV (g:=124);rfl;rfl;exact fun w' hw=>hsr _ w' hw _ _ _ _ _ _ (by exact mm) (by exact mm))|(apply G.cV (g:=182);rfl;rfl;exact fun w' _=>mk w')|(apply G.cV (g:=28);rfl;rfl;exact fun w' _=>sb w')|(apply G.cV (g:=83);rfl;rfl;exact fun w' _=>ml w')|(apply G.cV (g:=27);rfl;rfl;exact fun w' _=>ad w')
 all_goals refine ret1b Tryz.func173 Tryz.results173 ?_
 all_goals rfl
def curveFlow (l:List Pnt) (s:Int):Rat:=if curveErr l=0 then curveAt l s else 0
theorem flow_holds (a:Option Addr) (l:List Pnt) (c:Nat) (s:Int) (w:World) (hA:SlAt w a 4 (l.map ptV)) (hf:fewPts l) (hs1:-100000<=s) (hs2:s<=100000) :
  Calls Tryz.prog 162 #[.agg #[.slice a l.length c],.int .i64 s] w fun e w'=>e=.returned (qA (rQ (curveFlow l s)))/\Below w.heap.size w w':=by
 have hc:=fun w' (hb:Below w.heap.size w w')=>curveCheck_holds a l c w' (hA.below hb) hf
 have ha:=fun (h:curveErr l=0) w' (hb:Below w.heap.size w w')=>cAt_holds a l c s w' (hA.below hb) (rightC h) hf hs1 hs2
 rw [curveFlow]
 by_cases h:curveErr l=0
 ·have ha:=ha h
  rw [h] at hc
  rw [if_pos h]
  refine enterA [(0,.agg #[.slice a l.length c]),(1,.int .i64 s)] Tryz.func162 Tryz.ntmps162 ?_
  repeat' first|(refine gp ?_;and_intros<;>first|exact trivial|repeat first|intro(Bk:Nat)|intro h)|(apply G.cV (g:=142);rfl;rfl;exact fun w' hw=>hc w' hw.below)|(apply G.cV (g:=173);rfl;rfl;exact fun w' hw=>ha w' hw.below)
  all_goals refine ret1b Tryz.func162 Tryz.results162 ?_
  all_goals rfl
 ·rw [if_neg h]
  generalize curveErr l=E at *
  clear ha
  refine enterA [(0,.agg #[.slice a l.length c]),(1,.int .i64 s)] Tryz.func162 Tryz.ntmps162 ?_
  repeat' first|(refine gp ?_;and_intros<;>first|exact trivial|repeat first|intro(Bk:Nat)|intro h)|(apply G.cV (g:=142);rfl;rfl;exact fun w' hw=>hc w' hw.below)
  all_goals refine ret1b Tryz.func162 Tryz.results162 ?_
  all_goals rfl
structure Spn where
 from_:Int
 to_:Int
 wt:Q3
 dat:Int
 pts:List Pnt
 adr:Option Addr
 cap:Nat
def spV (s:Spn):List Value:=[.int .i64 s.from_,.int .i64 s.to_,.bool s.wt.neg,.string (bs s.wt.num),.string (bs s.wt.den),.int .i64 s.dat,.slice s.adr s.pts.length s.cap]
def spA (s:Spn):Value:=.agg #[.int .i64 s.from_,.int .i64 s.to_,.bool s.wt.neg,.string (bs s.wt.num),.string (bs s.wt.den),.int .i64 s.dat,.slice s.adr s.pts.length s.cap]
def fewS (s:Spn):Prop:=fewPts s.pts/\fewQ 80 s.wt
def PtsAt (w:World) (s:Spn):Prop:=SlAt w s.adr 4 (s.pts.map ptV)
def SpansAt (w:World) (a:Option Addr) (l:List Spn):Prop:=SlAt w a 7 (l.map spV)/\∀ s∈l,PtsAt w s
theorem SpansAt.below {w w':World}{a:Option Addr}{l:List Spn} (h:SpansAt w a l) (hb:Below w.heap.size w w'):SpansAt w' a l:=⟨h.1.below hb,fun s hs=>(h.2 s hs).below hb⟩
def RightS (s:Spn):Prop:=(0<=s.from_/\s.from_ < s.to_/\s.to_<=1402560/\-1000<=s.dat/\s.dat<=1000)/\validQ s.wt/\curveErr s.pts=0
instance (s:Spn):Decidable (RightS s):=by unfold RightS;exact inferInstance
theorem vRight_holds (s:Spn) (w:World) (hA:PtsAt w s) (hf:fewS s) :
  Calls Tryz.prog 107 #[spA s] w fun e w'=>e=.returned (.bool (decide (RightS s)))/\Below w.heap.size w w':=by
 have hv:=fun w'=>ratValid_holds s.wt w' (fewQ_le hf.2 (by decide)).1 (fewQ_le hf.2 (by decide)).2
 have hc:=fun w' (hb:Below w.heap.size w w')=>curveCheck_holds s.adr s.pts s.cap w' (SlAt.below hA hb) hf.1
 have hR:RightS s ↔ (0<=s.from_/\s.from_ < s.to_/\s.to_<=1402560/\-1000<=s.dat/\s.dat<=1000)/\validQ s.wt/\curveErr s.pts=0:=Iff.rfl
 generalize hb:decide (RightS s)=b
 have hb:b=true ↔ (0<=s.from_/\s.from_ < s.to_/\s.to_<=1402560/\-1000<=s.dat/\s.dat<=1000)/\validQ s.wt/\curveErr s.pts=0:=by rw [<- hb,decide_eq_true_iff,hR]
 clear hA hf hR
 obtain ⟨f,t,wt,d,pts,adr,cap⟩:=s
 dsimp only [spA] at *
 generalize curveErr pts=E at *
 generalize hV:decide (validQ wt)=V at *
 have hV:validQ wt ↔ V=true:=by rw [<- hV,decide_eq_true_iff]
 rw [hV] at hb
 clear hV
 refine enterA [(0,.agg #[.int .i64 f,.int .i64 t,.bool wt.neg,.string (bs wt.num),.string (bs wt.den),.int .i64 d,.slice adr pts.length cap])] Tryz.func107 Tryz.ntmps107 ?_
 cases V<;>cases b
 all_goals simp only [true_iff,false_iff,iff_false,iff_true,and_false,false_and,reduceCtorEq,true_and,eq_self] at hb
 repeat' first|(refine gp ?_;and_intros<;>first|exact trivial|repeat first|intro(Bk:Nat)|intro h)|(apply G.cV (g:=26);rfl;rfl;exact fun w' _=>hv w')|(apply G.cV (g:=142);rfl;rfl;exact fun w' hw=>hc w' hw.below)
 all_goals refine ret1b Tryz.func107 Tryz.results107 ?_
 all_goals (first|rfl|(exfalso;simp at hb;done)|(exfalso;omega))
def spErr (last:Int):List Spn->Int
 | []=>0
 | s::r=>if (!decide (RightS s) || decide (s.from_ < last))=true then 1 else spErr s.to_ r
def spansErr (l:List Spn):Int:=if 400 < l.length then 2 else spErr 0 l
theorem spErr_step {l:List Spn}{k:Nat}{x:Int} (hk:k < l.length):spErr x (l.drop k)=if (!decide (RightS l[k]) || decide (l[k].from_ < x))=true then 1 else spErr l[k].to_ (l.drop (k+1)):=by
 rw [List.drop_eq_getElem_cons hk];rfl
theorem spvCheck_holds (a:Option Addr) (l:List Spn) (c:Nat) (w:World) (hA:SpansAt w a l) (hf:∀ s∈l,fewS s) :
  Calls Tryz.prog 58 #[.slice a l.length c] w fun e w'=>e=.returned (.int .i64 (spansErr l))/\Below w.heap.size w w':=by
 refine enterA [(0,.slice a l.length c)] Tryz.func58 Tryz.ntmps58 ?_
 rw [spansErr]
 by_cases hl:400 < l.length
 ·rw [if_pos hl]
  all_goals (refine go ?_;and_intros<;>first|exact trivial|repeat first|intro(Bk:Nat)|intro h)
  all_goals refine ret1b Tryz.func58 Tryz.results58 ?_
  all_goals rfl
 rw [if_neg hl]
 generalize hE:spErr 0 l=E
 all_goals (refine go ?_;and_intros<;>first|exact trivial|repeat first|intro(Bk:Nat)|intro h)
 refine J.loop (c:=_) ((0,0):Nat×Int) (fun s=>l.length-s.1) (fun s=>[(3,.int .i64 s.2),(9,.slice a l.length c),(10,.int .i64 l.length),(11,.int .i64 s.1)]) (fun s=>[]) (fun s=>s.1<=l.length/\spErr s.2 (l.drop s.1)=E) ?_ sbT sbL ?_
 ·exact ⟨Nat.zero_le _,hE⟩
 clear hE
 intro ⟨k,x⟩ ⟨h1,h2⟩ ih
 dsimp only at h1 h2 ⊢
 by_cases hk:k < l.length
 ·obtain ⟨ba,oa,rfl,hrow⟩:=SlAt.all hA.1 (by omega)
  have hr:=hrow k hk
  have hm:=List.getElem_mem hk
  have hv:=fun w' (hb:Below w.heap.size w w')=>vRight_holds l[k] w' (SlAt.below (hA.2 _ hm) hb) (hf _ hm)
  rw [spErr_step hk] at h2
  clear hm
  generalize decide (RightS l[k])=R at *
  generalize l[k]=s at *
  obtain ⟨f,t,wt,d,pts,adr,cap⟩:=s
  dsimp only [spV,spA] at *
  by_cases hx:f < x
  ·rw [if_pos (by simp [hx])] at h2
   subst h2
   cases R
   all_goals skip
   repeat' first|(refine gp ?_;and_intros<;>first|exact trivial|repeat first|intro(Bk:Nat)|intro h)|(apply G.cV (g:=107);rfl;rfl;exact fun w' hw=>hv w' hw.below)
   all_goals refine ret1b Tryz.func58 Tryz.results58 ?_
   all_goals rfl
  cases R
  ·rw [if_pos (by simp)] at h2
   subst h2
   repeat' first|(refine gp ?_;and_intros<;>first|exact trivial|repeat first|intro(Bk:Nat)|intro h)|(apply G.cV (g:=107);rfl;rfl;exact fun w' hw=>hv w' hw.below)
   all_goals refine ret1b Tryz.func58 Tryz.results58 ?_
   all_goals rfl
  ·rw [if_neg (by simp [hx])] at h2
   repeat' first|(refine gp ?_;and_intros<;>first|exact trivial|repeat first|intro(Bk:Nat)|intro h)|(apply G.cV (g:=107);rfl;rfl;exact fun w' hw=>hv w' hw.below)
   exact J.fin (ih (k+1,t) ⟨hk,h2⟩ (by dsimp only;omega))
 ·rw [show k=l.length by omega,List.drop_length] at h2
  subst h2
  all_goals (refine go ?_;and_intros<;>first|exact trivial|repeat first|intro(Bk:Nat)|intro h)
  all_goals refine ret1b Tryz.func58 Tryz.results58 ?_
  all_goals rfl
theorem fewQ_curve {l:List Pnt}{s:Int} (hr:RightC l) (hf:fewPts l) (hs1:-100000<=s) (hs2:s<=100000):fewQ 60 (rQ (curveAt l s)):=by
 have hle:=nx_le l s
 rcases hn:nx l s with _|n
 ·rw [curveAt_zero hn];exact fewQ_zero
 have v1:=hf.2 _ (List.getElem_mem (show n < l.length by omega))
 by_cases hlast:n+1=l.length
 ·rw [curveAt_last hn hlast]
  exact fewQ_le (fewQ_valid v1) (by decide)
 have v2:=hf.2 _ (List.getElem_mem (show n+1 < l.length by omega))
 have m1:=hr.mem n (by omega)
 have m2:=hr.mem (n+1) (by omega)
 have q1:=nx_lt (l:=l) (s:=s) (i:=n) (by omega)
 have q2:s < (l[n+1]'(by omega)).1:=nx_ge hr (by omega) (by omega)
 rw [curveAt_mid hn (by omega),between]
 exact fewQ_le (fewQ_add (fewQ_valid v1) (fewQ_mul (fewQ_div (by omega) (by omega) (by omega) (by omega) (by omega)) (fewQ_sub (fewQ_valid v2) (fewQ_valid v1) (by decide) (by decide)) (by decide) (by decide)) (by decide) (by decide)) (by decide)
theorem fewQ_flow {l:List Pnt}{s:Int} (hf:fewPts l) (hs1:-100000<=s) (hs2:s<=100000):fewQ 60 (rQ (curveFlow l s)):=by
 rw [curveFlow]
 split
 ·exact fewQ_curve (rightC (by assumption)) hf hs1 hs2
 ·exact fewQ_zero
def rateOf (s:Spn) (t:Int):Rat:=qR s.wt*curveFlow s.pts (t+s.dat)
theorem fewQ_rate {s:Spn}{t:Int} (hf:fewS s) (hR:RightS s) (h1:0<=t) (h2:t<=1000):fewQ 140 (rQ (rateOf s t)):=by
 obtain ⟨hR,_,_⟩:=hR
 exact fewQ_mul (fewQ_valid hf.2) (fewQ_flow hf.1 (by omega) (by omega)) (by decide) (by decide)
theorem vrate_holds (s:Spn) (t:Int) (w:World) (hA:PtsAt w s) (hf:fewS s) (hR:RightS s) (h1:0<=t) (h2:t<=1000) :
  Calls Tryz.prog 129 #[spA s,.int .i64 t] w fun e w'=>e=.returned (qA (rQ (rateOf s t)))/\Below w.heap.size w w':=by
 obtain ⟨hR,_,_⟩:=hR
 have hc:=fun w' (hb:Below w.heap.size w w')=>flow_holds s.adr s.pts s.cap (t+s.dat) w' (SlAt.below hA hb) hf.1 (by omega) (by omega)
 have hfl:=fewQ_flow (s:=t+s.dat) hf.1 (by omega) (by omega)
 have ml:=fun w'=>ratMul_holds s.wt (rQ (curveFlow s.pts (t+s.dat))) w' (fewQ_le hf.2 (by decide)).1 (fewQ_le hf.2 (by decide)).2 (fewQ_le hfl (by decide)).1 (fewQ_le hfl (by decide)).2
 rw [qR_rQ] at ml
 rw [rateOf]
 clear hA hf hfl
 obtain ⟨f,u,wt,d,pts,adr,cap⟩:=s
 dsimp only [spA] at *
 generalize rQ (qR wt*curveFlow pts (t+d))=R at *
 generalize rQ (curveFlow pts (t+d))=F at *
 refine enterA [(0,.agg #[.int .i64 f,.int .i64 u,.bool wt.neg,.string (bs wt.num),.string (bs wt.den),.int .i64 d,.slice adr pts.length cap]),(1,.int .i64 t)] Tryz.func129 Tryz.ntmps129 ?_
 repeat' first|(refine gp ?_;and_intros<;>first|exact trivial|repeat first|intro(Bk:Nat)|intro h)|(apply G.cV (g:=162);rfl;rfl;exact fun w' hw=>hc w' hw.below)|(apply G.cV (g:=83);rfl;rfl;exact fun w' _=>ml w')
 all_goals refine ret1b Tryz.func129 Tryz.results129 ?_
 all_goals rfl
def rateE (s:Spn) (t:Int):Q3×Int:=if ¬ RightS s then (zero3,1) else if t < 0∨1000 < t then (zero3,3) else (rQ (rateOf s t),0)
abbrev madeA (x:Q3×Int):Value:=.agg #[.bool x.1.neg,.string (bs x.1.num),.string (bs x.1.den),.int .i64 x.2]
theorem vRate_holds (s:Spn) (t:Int) (w:World) (hA:PtsAt w s) (hf:fewS s) :
  Calls Tryz.prog 84 #[spA s,.int .i64 t] w fun e w'=>e=.returned (.tuple #[qA (rateE s t).1,.int .i64 (rateE s t).2])/\Below w.heap.size w w':=by
 have hv:=fun w' (hb:Below w.heap.size w w')=>vRight_holds s w' (SlAt.below hA hb) hf
 rw [rateE]
 by_cases hR:RightS s
 ·rw [decide_eq_true hR] at hv
  rw [if_neg (fun h=>h hR)]
  by_cases ht:t < 0∨1000 < t
  ·rw [if_pos ht]
   clear hA hf hR
   obtain ⟨f,u,wt,d,pts,adr,cap⟩:=s
   dsimp only [spA] at *
   refine enterA [(0,.agg #[.int .i64 f,.int .i64 u,.bool wt.neg,.string (bs wt.num),.string (bs wt.den),.int .i64 d,.slice adr pts.length cap]),(1,.int .i64 t)] Tryz.func84 Tryz.ntmps84 ?_
   repeat' first|(refine gp ?_;and_intros<;>first|exact trivial|repeat first|intro(Bk:Nat)|intro h)|(apply G.cV (g:=107);rfl;rfl;exact fun w' hw=>hv w' hw.below)
   all_goals refine ret2b Tryz.func84 Tryz.results84 ?_
   all_goals rfl
  ·rw [if_neg ht]
   have hr:=fun w' (hb:Below w.heap.size w w')=>vrate_holds s t w' (SlAt.below hA hb) hf hR (by omega) (by omega)
   generalize rQ (rateOf s t)=R at *
   clear hA hf hR
   obtain ⟨f,u,wt,d,pts,adr,cap⟩:=s
   dsimp only [spA] at *
   refine enterA [(0,.agg #[.int .i64 f,.int .i64 u,.bool wt.neg,.string (bs wt.num),.string (bs wt.den),.int .i64 d,.slice adr pts.length cap]),(1,.int .i64 t)] Tryz.func84 Tryz.ntmps84 ?_
   repeat' first|(refine gp ?_;and_intros<;>first|exact trivial|repeat first|intro(Bk:Nat)|intro h)|(apply G.cV (g:=107);rfl;rfl;exact fun w' hw=>hv w' hw.below)|(apply G.cV (g:=129);rfl;rfl;exact fun w' hw=>hr w' hw.below)
   all_goals refine ret2b Tryz.func84 Tryz.results84 ?_
   all_goals rfl
 ·rw [decide_eq_false hR] at hv
  rw [if_pos hR]
  clear hA hf hR
  obtain ⟨f,u,wt,d,pts,adr,cap⟩:=s
  dsimp only [spA] at *
  refine enterA [(0,.agg #[.int .i64 f,.int .i64 u,.bool wt.neg,.string (bs wt.num),.string (bs wt.den),.int .i64 d,.slice adr pts.length cap]),(1,.int .i64 t)] Tryz.func84 Tryz.ntmps84 ?_
  repeat' first|(refine gp ?_;and_intros<;>first|exact trivial|repeat first|intro(Bk:Nat)|intro h)|(apply G.cV (g:=107);rfl;rfl;exact fun w' hw=>hv w' hw.below)
  all_goals refine ret2b Tryz.func84 Tryz.results84 ?_
  all_goals rfl
end Go.Proofs.YtjcecdmbfmccoaaGreatDoor
/-
 Contracts: the same curves and spans;few of them.
-/
namespace Go.Sl
open Go.RowKit Go.Num
variable {C:Ctx}{st:List (Nat×Value)}{M:List Row}{k:List Item}{q q':Md}{all rest:List Oper}{d:Nat}{opn:Op}{ty:TypeId}{pos:String}{after:Array Edge}{gd:Option (Nat×Bool)}
class TEqP (P:Program) (T:TypeId):Prop where
 h:∀ (s:Int) (a:Bool) (x u:ByteArray) w,(Op.equal T (.agg #[.int .i64 s,.bool a,.string x,.string u]) (.agg #[.int .i64 s,.bool a,.string x,.string u])).run P w=.ok true w
 g:P.eqGuardType P.depth T=false
end Go.Sl
namespace Go.Proofs.YtjcecdmbfmccoaaGreatDoor
open Go.RowKit Go.Sl Go.Num
instance (k:Nat) (a:Q3):Decidable (fewQ k a):=by unfold fewQ;exact inferInstance
instance (l:List Pnt):Decidable (fewPts l):=by unfold fewPts;exact inferInstance
def fewT (s:Spn):Prop:=fewPts s.pts/\fewQ 40 s.wt
instance (s:Spn):Decidable (fewT s):=by unfold fewT;exact inferInstance
theorem fewPoints_holds (a:Option Addr) (l:List Pnt) (c:Nat) (w:World) (hA:SlAt w a 4 (l.map ptV)) :
  Calls Tryz.prog 72 #[.agg #[.slice a l.length c]] w fun e w'=>e=.returned (.bool (decide (fewPts l)))/\Below w.heap.size w w':=by
 refine enterA [(0,.agg #[.slice a l.length c])] Tryz.func72 Tryz.ntmps72 ?_
 by_cases hl:20 < l.length
 ·rw [decide_eq_false (fun h=>absurd h.1 (by omega))]
  all_goals (refine go ?_;and_intros<;>first|exact trivial|repeat first|intro(Bk:Nat)|intro h)
  all_goals refine ret1b Tryz.func72 Tryz.results72 ?_
  all_goals rfl
 all_goals (refine go ?_;and_intros<;>first|exact trivial|repeat first|intro(Bk:Nat)|intro h)
 refine J.loop (c:=_) (0:Nat) (fun s=>l.length-s) (fun s=>[(1,.pointer (some ⟨_,0,none⟩)),(3,.int .i64 s)]) (fun s=>[.blk _ 117 [.slice a l.length c] 1]) (fun s=>s<=l.length/\∀ i (h:i < l.length),i < s->fewQ 12 l[i].2) ?_ sbT sbL ?_
 ·exact ⟨Nat.zero_le _,fun i h h2=>absurd h2 (Nat.not_lt_zero _)⟩
 intro k ⟨h1,h2⟩ ih
 by_cases hk:k < l.length
 ·obtain ⟨ba,oa,rfl,hra⟩:=SlAt.all hA (by omega)
  have hr:=hra k hk
  by_cases hq:fewQ 12 l[k].2
  ·have h2:∀ i (h:i < l.length),i < k+1->fewQ 12 l[i].2:=fun i h h3=>by
    rcases Nat.lt_or_ge i k with h4|h4
    ·exact h2 i h h4
    ·obtain rfl:i=k:=by omega
     exact hq
   obtain ⟨hq1,hq2⟩:=hq
   generalize l[k]=p at *
   obtain ⟨s,p⟩:=p
   dsimp only [ptV] at *
   all_goals (refine go ?_;and_intros<;>first|exact trivial|repeat first|intro(Bk:Nat)|intro h)
   exact J.fin (ih (k+1) ⟨hk,h2⟩ (by omega))
  ·rw [decide_eq_false (fun h=>hq (h.2 _ (List.getElem_mem hk)))]
   rw [fewQ] at hq
   generalize l[k]=p at *
   obtain ⟨s,p⟩:=p
   dsimp only [ptV] at *
   all_goals (refine go ?_;and_intros<;>first|exact trivial|repeat first|intro(Bk:Nat)|intro h)
   all_goals refine ret1b Tryz.func72 Tryz.results72 ?_
   all_goals rfl
 ·rw [decide_eq_true ⟨by omega,fun p hp=>by
   obtain ⟨i,h3,rfl⟩:=List.getElem_of_mem hp
   exact h2 i h3 (by omega)⟩]
  all_goals (refine go ?_;and_intros<;>first|exact trivial|repeat first|intro(Bk:Nat)|intro h)
  all_goals refine ret1b Tryz.func72 Tryz.results72 ?_
  all_goals rfl
def fewL (most:Nat) (l:List Spn):Prop:=¬ (most < l.length/\l.length<=400∨410 < l.length)/\∀ s∈l,fewT s
instance (most:Nat) (l:List Spn):Decidable (fewL most l):=by unfold fewL;exact inferInstance
theorem fewL.ok {n:Nat}{l:List Spn} (h:fewL n l):∀ s∈l,fewS s:=fun s hs=>⟨(h.2 s hs).1,fewQ_le (h.2 s hs).2 (by decide)⟩
theorem few_holds (a:Option Addr) (l:List Spn) (c most:Nat) (w:World) (hA:SpansAt w a l) :
  Calls Tryz.prog 32 #[.slice a l.length c,.int .i64 most] w fun e w'=>e=.returned (.bool (decide (fewL most l)))/\Below w.heap.size w w':=by
 refine enterA [(0,.slice a l.length c),(1,.int .i64 most)] Tryz.func32 Tryz.ntmps32 ?_
 by_cases hl:most < l.length/\l.length<=400∨410 < l.length
 ·rw [decide_eq_false (fun h=>h.1 hl)]
  all_goals (refine go ?_;and_intros<;>first|exact trivial|repeat first|intro(Bk:Nat)|intro h)
  all_goals refine ret1b Tryz.func32 Tryz.results32 ?_
  all_goals rfl
 all_goals (refine go ?_;and_intros<;>first|exact trivial|repeat first|intro(Bk:Nat)|intro h)
 all_goals
  refine J.loop (c:=_) (0:Nat) (fun s=>l.length-s) (fun s=>[(0,.slice a l.length c),(5,.int .i64 s)]) (fun s=>[]) (fun s=>s<=l.length/\∀ i (h:i < l.length),i < s->fewT l[i]) ?_ sbT sbL ?_
  ·exact ⟨Nat.zero_le _,fun i h h2=>absurd h2 (Nat.not_lt_zero _)⟩
  intro k ⟨h1,h2⟩ ih
  by_cases hk:k < l.length
  ·obtain ⟨ba,oa,rfl,hra⟩:=SlAt.all hA.1 (by omega)
   have hr:=hra k hk
   have hp:=hA.2 _ (List.getElem_mem hk)
   have hc:=fun w' (hb:Below w.heap.size w w')=>fewPoints_holds l[k].adr l[k].pts l[k].cap w' (SlAt.below hp hb)
   have h2:fewT l[k]->∀ i (h:i < l.length),i < k+1->fewT l[i]:=fun hq i h h3=>by
    rcases Nat.lt_or_ge i k with h4|h4
    ·exact h2 i h h4
    ·obtain rfl:i=k:=by omega
     exact hq
   have h3:¬ fewT l[k]->decide (fewL most l)=false:=fun hq=>decide_eq_false (fun h=>hq (h.2 _ (List.getElem_mem hk)))
   generalize l[k]=s at *
   obtain ⟨f,t,wt,dt,pts,adr,cap⟩:=s
   dsimp only [spV,fewT] at *
   by_cases hq:fewPts pts
   ·rw [decide_eq_true hq] at hc
    by_cases hq2:fewQ 40 wt
    ·have h2:=h2 ⟨hq,hq2⟩
     obtain ⟨q1,q2⟩:=hq2
     repeat' first|(refine gp ?_;and_intros<;>first|exact trivial|repeat first|intro(Bk:Nat)|intro h)|(apply G.cV (g:=72);rfl;rfl;exact fun w' hw=>hc w' hw.below)
     exact J.fin (ih (k+1) ⟨hk,h2⟩ (by omega))
    ·rw [h3 (fun e=>hq2 e.2)]
     rw [fewQ] at hq2
     repeat' first|(refine gp ?_;and_intros<;>first|exact trivial|repeat first|intro(Bk:Nat)|intro h)|(apply G.cV (g:=72);rfl;rfl;exact fun w' hw=>hc w' hw.below)
     all_goals refine ret1b Tryz.func32 Tryz.results32 ?_
     all_goals rfl
   ·rw [decide_eq_false hq] at hc
    rw [h3 (fun e=>hq e.1)]
    repeat' first|(refine gp ?_;and_intros<;>first|exact trivial|repeat first|intro(Bk:Nat)|intro h)|(apply G.cV (g:=72);rfl;rfl;exact fun w' hw=>hc w' hw.below)
    all_goals refine ret1b Tryz.func32 Tryz.results32 ?_
    all_goals rfl
  ·rw [decide_eq_true ⟨hl,fun p hp=>by
    obtain ⟨i,h3,rfl⟩:=List.getElem_of_mem hp
    exact h2 i h3 (by omega)⟩]
   all_goals (refine go ?_;and_intros<;>first|exact trivial|repeat first|intro(Bk:Nat)|intro h)
   all_goals refine ret1b Tryz.func32 Tryz.results32 ?_
   all_goals rfl
def inS (t:Int) (s:Spn):Bool:=decide (s.from_<=t) && decide (t < s.to_)
def spanAt (l:List Spn) (t:Int):Nat:=l.findIdx (inS t)
theorem spanAt_le (l:List Spn) (t:Int):spanAt l t<=l.length:=List.findIdx_le_length
theorem spanAt_at {l:List Spn}{t:Int} (h:spanAt l t < l.length):inS t l[spanAt l t]=true:=List.findIdx_getElem (w:=h)
def placeI (l:List Spn) (t:Int):Int:=if spanAt l t < l.length then (spanAt l t:Int) else -1
def worthOf (l:List Spn) (t st:Int):Rat:=match l[spanAt l t]? with
 | none=>0
 | some s=>rateOf s st
theorem within_holds (n lo hi:Int) (w:World):Calls Tryz.prog 57 #[.int .i64 n,.int .i64 lo,.int .i64 hi] w fun e w'=>e=.returned (.bool (decide (lo<=n/\n<=hi)))/\Below w.heap.size w w':=by
 refine enterA [(0,.int .i64 n),(1,.int .i64 lo),(2,.int .i64 hi)] Tryz.func57 Tryz.ntmps57 ?_
 all_goals (refine go ?_;and_intros<;>first|exact trivial|repeat first|intro(Bk:Nat)|intro h)
 all_goals refine ret1b Tryz.func57 Tryz.results57 ?_
 all_goals exact ret_bool (by first|(rw [decide_eq_true (by omega)])|(rw [decide_eq_false (by omega)]))
def badSt (s:Int):Bool:=!decide (0<=s/\s<=1000)
theorem right1_holds (s:Int) (w:World):Calls Tryz.prog 106 #[.int .i64 s] w fun e w'=>e=.returned (.bool (badSt s))/\Below w.heap.size w w':=by
 have hw1:=fun w'=>within_holds s 0 1000 w'
 rw [badSt]
 generalize decide (0<=s/\s<=1000)=b at *
 refine enterA [(0,.int .i64 s)] Tryz.func106 Tryz.ntmps106 ?_
 cases b
 all_goals skip
 repeat' first|(refine gp ?_;and_intros<;>first|exact trivial|repeat first|intro(Bk:Nat)|intro h)|(apply G.cV (g:=57);rfl;rfl;exact fun w' _=>hw1 w')
 all_goals refine ret1b Tryz.func106 Tryz.results106 ?_
 all_goals rfl
def idxI (l:List Int) (p:Int->Bool):Int:=if l.findIdx p < l.length then (l.findIdx p:Int) else -1
theorem indexFunc_holds (g:FuncId) [hF:Fun Tryz.prog g] (p:Int->Bool) (a:Option Addr) (l:List Int) (c:Nat) (w:World) (hA:SlAt w a 1 (l.map isV)) (hl:l.length<=1000000000)
  (hf:∀ s w',Calls Tryz.prog g (#[.int .i64 s]++#[]) w' fun e w2=>e=.returned (.bool (p s))/\Below w'.heap.size w' w2) :
  Calls Tryz.prog 141 #[.slice a l.length c,.func (.func g) #[] #[]] w fun e w'=>e=.returned (.int .i64 (idxI l p))/\Below w.heap.size w w':=by
 have hle:l.findIdx p<=l.length:=List.findIdx_le_length
 refine enterA [(0,.slice a l.length c),(1,.func (.func g) #[] #[])] Tryz.func141 Tryz.ntmps141 ?_
 all_goals (refine go ?_;and_intros<;>first|exact trivial|repeat first|intro(Bk:Nat)|intro h)
 refine J.loop (c:=_) (0:Nat) (fun s=>l.length-s) (fun s=>[(0,.slice a l.length c),(1,.func (.func g) #[] #[]),(7,.int .i64 l.length),(8,.int .i64 s)]) (fun s=>[]) (fun s=>s<=l.findIdx p) ?_ sbT sbL ?_
 ·exact Nat.zero_le _
 intro k h1 ih
 by_cases hk:k < l.length
 ·obtain ⟨ba,oa,rfl,hra⟩:=SlAt.all hA (by omega)
  have hr:=hra k hk
  have hfk:=hf l[k]
  by_cases hq:l.findIdx p=k
  ·have hp:p l[k]=true:=by
    have:=List.findIdx_getElem (w:=(show l.findIdx p < l.length by omega))
    simpa only [hq] using this
   rw [idxI,if_pos (by omega),hq]
   rw [hp] at hfk
   generalize l[k]=s at *
   dsimp only [isV] at *
   repeat' first|(refine gp ?_;and_intros<;>first|exact trivial|repeat first|intro(Bk:Nat)|intro h)|(apply G.callVf (g:=g);rfl;rfl;rfl;rfl;rfl;exact fun w' _=>hfk w')
   all_goals refine ret1b Tryz.func141 Tryz.results141 ?_
   all_goals rfl
  ·have hp:p l[k]=false:=by
    have:=List.not_of_lt_findIdx (show k < l.findIdx p by omega)
    simpa using this
   rw [hp] at hfk
   generalize l[k]=s at *
   dsimp only [isV] at *
   repeat' first|(refine gp ?_;and_intros<;>first|exact trivial|repeat first|intro(Bk:Nat)|intro h)|(apply G.callVf (g:=g);rfl;rfl;rfl;rfl;rfl;exact fun w' _=>hfk w')
   exact J.fin (ih (k+1) (by omega) (by omega))
 ·rw [idxI,if_neg (by omega)]
  all_goals (refine go ?_;and_intros<;>first|exact trivial|repeat first|intro(Bk:Nat)|intro h)
  all_goals refine ret1b Tryz.func141 Tryz.results141 ?_
  all_goals rfl
theorem containsFunc_holds (g:FuncId) [hF:Fun Tryz.prog g] (p:Int->Bool) (a:Option Addr) (l:List Int) (c:Nat) (w:World) (hA:SlAt w a 1 (l.map isV)) (hl:l.length<=1000000000)
  (hf:∀ s w',Calls Tryz.prog g (#[.int .i64 s]++#[]) w' fun e w2=>e=.returned (.bool (p s))/\Below w'.heap.size w' w2) :
  Calls Tryz.prog 105 #[.slice a l.length c,.func (.func g) #[] #[]] w fun e w'=>e=.returned (.bool (l.any p))/\Below w.heap.size w w':=by
 have hi:=fun w' (hb:Below w.heap.size w w')=>indexFunc_holds g p a l c w' (hA.below hb) hl hf
 have hlt:l.findIdx p < l.length ↔ l.any p=true:=by rw [List.findIdx_lt_length,List.any_eq_true]
 rw [idxI] at hi
 generalize l.any p=b at *
 by_cases h:l.findIdx p < l.length
 ·rw [if_pos h] at hi
  have hb:=hlt.1 h
  subst hb
  generalize l.findIdx p=j at *
  refine enterA [(0,.slice a l.length c),(1,.func (.func g) #[] #[])] Tryz.func105 Tryz.ntmps105 ?_
  repeat' first|(refine gp ?_;and_intros<;>first|exact trivial|repeat first|intro(Bk:Nat)|intro h)|(apply G.cV (g:=141);rfl;rfl;exact fun w' hw=>hi w' hw.below)
  all_goals refine ret1b Tryz.func105 Tryz.results105 ?_
  all_goals rfl
 ·rw [if_neg h] at hi
  have hb:b=false:=by cases b<;>simp_all
  subst hb
  refine enterA [(0,.slice a l.length c),(1,.func (.func g) #[] #[])] Tryz.func105 Tryz.ntmps105 ?_
  repeat' first|(refine gp ?_;and_intros<;>first|exact trivial|repeat first|intro(Bk:Nat)|intro h)|(apply G.cV (g:=141);rfl;rfl;exact fun w' hw=>hi w' hw.below)
  all_goals refine ret1b Tryz.func105 Tryz.results105 ?_
  all_goals rfl
def rightH (f:Int) (l:List Int):Bool:=decide (l.length<=40000/\0<=f/\f<=1402560-l.length) && !l.any badSt
theorem hRight_holds (f:Int) (a:Option Addr) (l:List Int) (c:Nat) (w:World) (hA:SlAt w a 1 (l.map isV)) (hl:l.length<=1000000000) :
  Calls Tryz.prog 55 #[.agg #[.int .i64 f,.slice a l.length c]] w fun e w'=>e=.returned (.bool (rightH f l))/\Below w.heap.size w w':=by
 have hc:=fun w' (hb:Below w.heap.size w w')=>containsFunc_holds 106 badSt a l c w' (hA.below hb) hl (fun s w2=>by rw [Array.append_empty];exact right1_holds s w2)
 have hw1:=fun w'=>within_holds f 0 (1402560-l.length) w'
 rw [rightH]
 generalize l.any badSt=b at *
 by_cases h1:l.length<=40000
 ·by_cases h2:0<=f/\f<=1402560-l.length
  ·rw [decide_eq_true h2] at hw1
   rw [decide_eq_true ⟨h1,h2⟩]
   refine enterA [(0,.agg #[.int .i64 f,.slice a l.length c])] Tryz.func55 Tryz.ntmps55 ?_
   cases b
   all_goals skip
   repeat' first|(refine gp ?_;and_intros<;>first|exact trivial|repeat first|intro(Bk:Nat)|intro h)|(apply G.cV (g:=57);rfl;rfl;exact fun w' _=>hw1 w')|(apply G.cV (g:=105);rfl;rfl;exact fun w' hw=>hc w' hw.below)
   all_goals refine ret1b Tryz.func55 Tryz.results55 ?_
   all_goals rfl
  ·rw [decide_eq_false h2] at hw1
   rw [decide_eq_false (fun e=>h2 e.2)]
   refine enterA [(0,.agg #[.int .i64 f,.slice a l.length c])] Tryz.func55 Tryz.ntmps55 ?_
   repeat' first|(refine gp ?_;and_intros<;>first|exact trivial|repeat first|intro(Bk:Nat)|intro h)|(apply G.cV (g:=57);rfl;rfl;exact fun w' _=>hw1 w')
   all_goals refine ret1b Tryz.func55 Tryz.results55 ?_
   all_goals rfl
 ·rw [decide_eq_false (fun e=>h1 e.1)]
  refine enterA [(0,.agg #[.int .i64 f,.slice a l.length c])] Tryz.func55 Tryz.ntmps55 ?_
  all_goals (refine go ?_;and_intros<;>first|exact trivial|repeat first|intro(Bk:Nat)|intro h)
  all_goals refine ret1b Tryz.func55 Tryz.results55 ?_
  all_goals rfl
def volSum (l:List Spn):Int->List Int->Rat
 | _,[]=>0
 | f,s::r=>worthOf l f s+volSum l (f+1) r
def outH (f:Int) (n:Nat) (s:Spn):Bool:=decide (s.from_ < f) || decide (f+n < s.to_)
def volE (f:Int) (h:List Int) (l:List Spn):Q3×Int :=
 if spansErr l≠0 then (zero3,spansErr l) else if rightH f h=false then (zero3,1) else if l.any (outH f h.length)=true then (zero3,19) else (rQ (volSum l f h),0)
theorem spErr_ok {l:List Spn}{x:Int} (h:spErr x l=0):∀ s∈l,RightS s:=by
 induction l generalizing x with
 | nil=>simp
 | cons s r ih =>
  rw [spErr] at h
  split at h
  ·cases h
  rename_i c1
  intro t ht
  rcases List.mem_cons.1 ht with rfl|ht
  ·simp only [Bool.or_eq_true,Bool.not_eq_true',decide_eq_false_iff_not,decide_eq_true_eq,not_or,Decidable.not_not] at c1
   exact c1.1
  ·exact ih h t ht
theorem spansErr_ok {l:List Spn} (h:spansErr l=0):l.length<=400/\∀ s∈l,RightS s:=by
 rw [spansErr] at h
 split at h
 ·cases h
 ·exact ⟨by omega,spErr_ok h⟩
theorem rightH_ok {f:Int}{h:List Int} (hr:rightH f h=true):(h.length<=40000/\0<=f/\f<=1402560-h.length)/\∀ i (hi:i < h.length),0<=h[i]/\h[i]<=1000:=by
 rw [rightH,Bool.and_eq_true,decide_eq_true_eq,Bool.not_eq_true'] at hr
 refine ⟨hr.1,fun i hi=>?_⟩
 have:=List.any_eq_false.1 hr.2 _ (List.getElem_mem hi)
 rw [badSt] at this
 simpa using this
theorem fewQ_worth {l:List Spn}{t st:Int} (hf:∀ s∈l,fewS s) (hR:∀ s∈l,RightS s) (h1:0<=st) (h2:st<=1000):fewQ 140 (rQ (worthOf l t st)):=by
 rw [worthOf]
 split
 ·exact fewQ_zero
 ·rename_i s hs
  have hm:=List.mem_of_getElem? hs
  exact fewQ_rate (hf _ hm) (hR _ hm) h1 h2
structure Rn where
 from_:Int
 to_:Int
 tab:List (Int×Int)
 adr:Option Addr
 cap:Nat
 lo:Int
 hi:Int
def hoV (h:Int×Int):List Value:=[.int .i64 h.1,.int .i64 h.2]
def rnV (r:Rn):List Value:=[.int .i64 r.from_,.int .i64 r.to_,.slice r.adr r.tab.length r.cap,.int .i64 r.lo,.int .i64 r.hi]
def rnA (r:Rn):Value:=.agg #[.int .i64 r.from_,.int .i64 r.to_,.slice r.adr r.tab.length r.cap,.int .i64 r.lo,.int .i64 r.hi]
def TabAt (w:World) (r:Rn):Prop:=SlAt w r.adr 2 (r.tab.map hoV)
def RunsAt (w:World) (a:Option Addr) (l:List Rn):Prop:=SlAt w a 5 (l.map rnV)/\∀ r∈l,TabAt w r
theorem RunsAt.below {w w':World}{a:Option Addr}{l:List Rn} (h:RunsAt w a l) (hb:Below w.heap.size w w'):RunsAt w' a l:=⟨h.1.below hb,fun s hs=>(h.2 s hs).below hb⟩
def badH (h:Int×Int):Bool:=!decide (0<=h.1/\h.1<=1000) || !decide (1<=h.2/\h.2<=1402560)
def sortedT:Option (Int×Int)->List (Int×Int)->Bool
 | _,[]=>true
 | p,h::r=>(match p with|none=>true|some q=>decide (q.1 < h.1)) && sortedT (some h) r
def sumT:List (Int×Int)->Int
 | []=>0
 | h::r=>h.2+sumT r
def oneE (r:Rn):Int:=if r.tab.length=0 then (if r.lo < 0∨r.hi < r.lo∨1000 < r.hi then 3 else 0) else if r.tab.any badH=true then 3 else if sortedT none r.tab=true/\sumT r.tab=r.to_-r.from_/\r.lo=0/\r.hi=0 then 0 else 1
theorem sortedT_step {l:List (Int×Int)}{k:Nat} (hk:k < l.length):sortedT (prv l k) (l.drop k)=((match prv l k with|none=>true|some q=>decide (q.1 < l[k].1)) && sortedT (prv l (k+1)) (l.drop (k+1))):=by
 rw [List.drop_eq_getElem_cons hk,prv,List.getElem?_eq_getElem hk]
 cases prv l k<;>rfl
theorem gap_holds (r:Rn) (w:World):Calls Tryz.prog 56 #[rnA r] w fun e w'=>e=.returned (.bool (decide (r.tab.length=0)))/\Below w.heap.size w w':=by
 obtain ⟨f,t,tab,adr,cap,lo,hi⟩:=r
 dsimp only [rnA]
 refine enterA [(0,.agg #[.int .i64 f,.int .i64 t,.slice adr tab.length cap,.int .i64 lo,.int .i64 hi])] Tryz.func56 Tryz.ntmps56 ?_
 all_goals (refine go ?_;and_intros<;>first|exact trivial|repeat first|intro(Bk:Nat)|intro h)
 all_goals refine ret1b Tryz.func56 Tryz.results56 ?_
 all_goals exact ret_bool (by first|(rw [decide_eq_true (by omega)])|(rw [decide_eq_false (by omega)]))
theorem rOne_holds (r:Rn) (w:World) (hA:TabAt w r) (hl:r.tab.length<=64) (hr:0<=r.from_/\r.from_ < r.to_/\r.to_<=1402560) :
  Calls Tryz.prog 121 #[rnA r] w fun e w'=>e=.returned (.int .i64 (oneE r))/\Below w.heap.size w w':=by
 rw [oneE]
 obtain ⟨f,t,tab,adr,cap,lo,hi⟩:=r
 dsimp only [rnA,TabAt] at *
 refine enterA [(0,.agg #[.int .i64 f,.int .i64 t,.slice adr tab.length cap,.int .i64 lo,.int .i64 hi])] Tryz.func121 Tryz.ntmps121 ?_
 by_cases h0:tab.length=0
 ·rw [if_pos h0]
  by_cases h1:lo < 0∨hi < lo∨1000 < hi
  ·rw [if_pos h1]
   all_goals (refine go ?_;and_intros<;>first|exact trivial|repeat first|intro(Bk:Nat)|intro h)
   all_goals refine ret1b Tryz.func121 Tryz.results121 ?_
   all_goals rfl
  ·rw [if_neg h1]
   all_goals (refine go ?_;and_intros<;>first|exact trivial|repeat first|intro(Bk:Nat)|intro h)
   all_goals refine ret1b Tryz.func121 Tryz.results121 ?_
   all_goals rfl
 rw [if_neg h0]
 all_goals (refine go ?_;and_intros<;>first|exact trivial|repeat first|intro(Bk:Nat)|intro h)
 refine J.loop (c:=_) (0:Nat) (fun s=>tab.length-s) (fun s=>[(1,.pointer (some ⟨_,0,none⟩)),(3,.int .i64 s)]) (fun s=>[.blk _ 67 [.int .i64 f,.int .i64 t,.slice adr tab.length cap,.int .i64 lo,.int .i64 hi] 5]) (fun s=>s<=tab.length/\∀ i (h:i < tab.length),i < s->badH tab[i]=false) ?_ sbT sbL ?_
 ·exact ⟨Nat.zero_le _,fun i h h2=>absurd h2 (Nat.not_lt_zero _)⟩
 intro k ⟨h3,h4⟩ ih
 obtain ⟨ba,oa,rfl,hra⟩:=SlAt.all hA (by omega)
 by_cases hk:k < tab.length
 ·have hrk:=hra k hk
  by_cases hq:badH tab[k]=true
  ·rw [if_pos (List.any_eq_true.2 ⟨_,List.getElem_mem hk,hq⟩)]
   simp only [badH,Bool.or_eq_true,Bool.not_eq_true',decide_eq_false_iff_not] at hq
   clear ih h4
   generalize tab[k]=s at *
   obtain ⟨x,y⟩:=s
   dsimp only [hoV] at *
   all_goals (refine go ?_;and_intros<;>first|exact trivial|repeat first|intro(Bk:Nat)|intro h)
   all_goals refine ret1b Tryz.func121 Tryz.results121 ?_
   all_goals rfl
  ·have hq2:badH tab[k]=false:=by simpa using hq
   have h4:∀ i (h:i < tab.length),i < k+1->badH tab[i]=false:=fun i h h5=>by
    rcases Nat.lt_or_ge i k with h6|h6
    ·exact h4 i h h6
    ·obtain rfl:i=k:=by omega
     exact hq2
   simp only [badH,Bool.or_eq_false_iff,Bool.not_eq_false',decide_eq_true_eq] at hq2
   clear hq
   generalize tab[k]=s at *
   obtain ⟨x,y⟩:=s
   dsimp only [hoV] at *
   all_goals (refine go ?_;and_intros<;>first|exact trivial|repeat first|intro(Bk:Nat)|intro h)
   exact J.fin (ih (k+1) ⟨by omega,h4⟩ (by omega))
 rw [show tab.any badH=false from List.any_eq_false.2 fun x hx=>by
  obtain ⟨i,h5,rfl⟩:=List.getElem_of_mem hx
  rw [h4 i h5 (by omega)];decide]
 rw [if_neg (by decide)]
 have h4:∀ i (h:i < tab.length),1<=tab[i].2/\tab[i].2<=1402560:=fun i h=>by
  have:=h4 i h (by omega)
  simp only [badH,Bool.or_eq_false_iff,Bool.not_eq_false',decide_eq_true_eq] at this
  exact this.2
 clear ih
 generalize hS:sumT tab=S
 generalize hO:sortedT none tab=O
 all_goals (refine go ?_;and_intros<;>first|exact trivial|repeat first|intro(Bk:Nat)|intro h)
 clear hk h3
 refine J.loop (c:=_) ((0,0):Nat×Int) (fun s=>tab.length-s.1) (fun s=>[(1,.pointer (some ⟨_,0,none⟩)),(5,.int .i64 s.2),(6,.int .i64 s.1)]) (fun s=>[.blk _ 67 [.int .i64 f,.int .i64 t,.slice (some ⟨ba,oa,none⟩) tab.length cap,.int .i64 lo,.int .i64 hi] 5]) (fun s=>s.1<=tab.length/\(0<=s.2/\s.2<=1402560*s.1)/\s.2+sumT (tab.drop s.1)=S/\sortedT (prv tab s.1) (tab.drop s.1)=O) ?_ sbT sbL ?_
 ·exact ⟨Nat.zero_le _,⟨Int.le_refl _,Int.le_refl _⟩,by rw [Int.zero_add];exact hS,hO⟩
 clear hS hO
 intro ⟨k,x⟩ ⟨h3,⟨h5,h5'⟩,h6,h7⟩ ih
 dsimp only at h3 h5 h5' h6 h7 ⊢
 by_cases hk:k < tab.length
 ·have hrk:=hra k hk
  have h8:=h4 k hk
  rw [sortedT_step hk] at h7
  rw [List.drop_eq_getElem_cons hk,sumT,<- Int.add_assoc] at h6
  rcases k with _|j
  ·rw [show prv tab 0=none from rfl] at h7
   dsimp only at h7
   rw [Bool.true_and] at h7
   generalize tab[0]=s at *
   obtain ⟨u,v⟩:=s
   dsimp only [hoV] at *
   all_goals (refine go ?_;and_intros<;>first|exact trivial|repeat first|intro(Bk:Nat)|intro h)
   exact J.fin (ih (1,x+v) ⟨hk,⟨by dsimp only;omega,by dsimp only;omega⟩,h6,h7⟩ (by dsimp only;omega))
  ·have hrj:=hra j (by omega)
   rw [show prv tab (j+1)=some tab[j] from List.getElem?_eq_getElem (by omega)] at h7
   dsimp only at h7
   generalize tab[j+1]=s at *
   generalize tab[j]=p at *
   obtain ⟨u,v⟩:=s
   obtain ⟨u2,v2⟩:=p
   dsimp only [hoV] at *
   by_cases hlt:u2 < u
   ·rw [decide_eq_true hlt,Bool.true_and] at h7
    all_goals (refine go ?_;and_intros<;>first|exact trivial|repeat first|intro(Bk:Nat)|intro h)
    exact J.fin (ih (j+2,x+v) ⟨hk,⟨by dsimp only;omega,by dsimp only;omega⟩,h6,h7⟩ (by dsimp only;omega))
   ·rw [decide_eq_false hlt,Bool.false_and] at h7
    rw [if_neg (by rw [<- h7];simp)]
    clear ih
    all_goals (refine go ?_;and_intros<;>first|exact trivial|repeat first|intro(Bk:Nat)|intro h)
    all_goals refine ret1b Tryz.func121 Tryz.results121 ?_
    all_goals rfl
 ·rw [show k=tab.length by omega,List.drop_length] at h6 h7
  rw [sortedT] at h7
  rw [sumT,Int.add_zero] at h6
  subst h6 h7
  clear ih
  by_cases h9:x=t-f/\lo=0/\hi=0
  ·rw [if_pos ⟨rfl,h9⟩]
   all_goals (refine go ?_;and_intros<;>first|exact trivial|repeat first|intro(Bk:Nat)|intro h)
   all_goals refine ret1b Tryz.func121 Tryz.results121 ?_
   all_goals rfl
  ·rw [if_neg (fun e=>h9 e.2)]
   all_goals (refine go ?_;and_intros<;>first|exact trivial|repeat first|intro(Bk:Nat)|intro h)
   all_goals refine ret1b Tryz.func121 Tryz.results121 ?_
   all_goals rfl
theorem vOne_holds (r:Rn) (w:World) (hA:TabAt w r) (hl:r.tab.length<=64) (hr:0<=r.from_/\r.from_ < r.to_/\r.to_<=1402560) :
  Calls Tryz.prog 104 #[rnA r] w fun e w'=>e=.returned (.int .i64 (oneE r))/\Below w.heap.size w w':=by
 rw [oneE]
 have hg:=fun w'=>gap_holds r w'
 obtain ⟨f,t,tab,adr,cap,lo,hi⟩:=r
 dsimp only [rnA,TabAt] at *
 refine enterA [(0,.agg #[.int .i64 f,.int .i64 t,.slice adr tab.length cap,.int .i64 lo,.int .i64 hi])] Tryz.func104 Tryz.ntmps104 ?_
 by_cases h0:tab.length=0
 ·rw [if_pos h0]
  rw [decide_eq_true h0] at hg
  by_cases h1:lo < 0∨hi < lo∨1000 < hi
  ·rw [if_pos h1]
   repeat' first|(refine gp ?_;and_intros<;>first|exact trivial|repeat first|intro(Bk:Nat)|intro h)|(apply G.cV (g:=56);rfl;rfl;exact fun w' _=>hg w')
   all_goals refine ret1b Tryz.func104 Tryz.results104 ?_
   all_goals rfl
  ·rw [if_neg h1]
   repeat' first|(refine gp ?_;and_intros<;>first|exact trivial|repeat first|intro(Bk:Nat)|intro h)|(apply G.cV (g:=56);rfl;rfl;exact fun w' _=>hg w')
   all_goals refine ret1b Tryz.func104 Tryz.results104 ?_
   all_goals rfl
 rw [if_neg h0]
 rw [decide_eq_false h0] at hg
 repeat' first|(refine gp ?_;and_intros<;>first|exact trivial|repeat first|intro(Bk:Nat)|intro h)|(apply G.cV (g:=56);rfl;rfl;exact fun w' _=>hg w')
 refine J.loop (c:=_) (0:Nat) (fun s=>tab.length-s) (fun s=>[(1,.pointer (some ⟨_,0,none⟩)),(41,.slice adr tab.length cap),(42,.int .i64 tab.length),(43,.int .i64 s)]) (fun s=>[.blk _ 67 [.int .i64 f,.int .i64 t,.slice adr tab.length cap,.int .i64 lo,.int .i64 hi] 5]) (fun s=>s<=tab.length/\∀ i (h:i < tab.length),i < s->badH tab[i]=false) ?_ sbT sbL ?_
 ·exact ⟨Nat.zero_le _,fun i h h2=>absurd h2 (Nat.not_lt_zero _)⟩
 intro k ⟨h3,h4⟩ ih
 obtain ⟨ba,oa,rfl,hra⟩:=SlAt.all hA (by omega)
 by_cases hk:k < tab.length
 ·have hrk:=hra k hk
  by_cases hq:badH tab[k]=true
  ·rw [if_pos (List.any_eq_true.2 ⟨_,List.getElem_mem hk,hq⟩)]
   rw [badH] at hq
   clear ih h4
   generalize tab[k]=s at *
   obtain ⟨x,y⟩:=s
   dsimp only [hoV] at *
   have hw1:=fun w'=>within_holds x 0 1000 w'
   have hw2:=fun w'=>within_holds y 1 1402560 w'
   generalize decide (0<=x/\x<=1000)=b1 at *
   generalize decide (1<=y/\y<=1402560)=b2 at *
   cases b1<;>cases b2
   all_goals try (exact absurd hq (by decide))
   repeat' first|(refine gp ?_;and_intros<;>first|exact trivial|repeat first|intro(Bk:Nat)|intro h)|(apply G.cV (g:=57) (vs:=[.int .i64 x,.int .i64 0,.int .i64 1000]);rfl;rfl;exact fun w' _=>hw1 w')|(apply G.cV (g:=57) (vs:=[.int .i64 y,.int .i64 1,.int .i64 1402560]);rfl;rfl;exact fun w' _=>hw2 w')
   all_goals refine ret1b Tryz.func104 Tryz.results104 ?_
   all_goals rfl
  ·have hq2:badH tab[k]=false:=by simpa using hq
   have h4:∀ i (h:i < tab.length),i < k+1->badH tab[i]=false:=fun i h h5=>by
    rcases Nat.lt_or_ge i k with h6|h6
    ·exact h4 i h h6
    ·obtain rfl:i=k:=by omega
     exact hq2
   rw [badH] at hq2
   clear hq
   generalize tab[k]=s at *
   obtain ⟨x,y⟩:=s
   dsimp only [hoV] at *
   have hw1:=fun w'=>within_holds x 0 1000 w'
   have hw2:=fun w'=>within_holds y 1 1402560 w'
   generalize decide (0<=x/\x<=1000)=b1 at *
   generalize decide (1<=y/\y<=1402560)=b2 at *
   cases b1<;>cases b2
   all_goals try (exact absurd hq2 (by decide))
   repeat' first|(refine gp ?_;and_intros<;>first|exact trivial|repeat first|intro(Bk:Nat)|intro h)|(apply G.cV (g:=57) (vs:=[.int .i64 x,.int .i64 0,.int .i64 1000]);rfl;rfl;exact fun w' _=>hw1 w')|(apply G.cV (g:=57) (vs:=[.int .i64 y,.int .i64 1,.int .i64 1402560]);rfl;rfl;exact fun w' _=>hw2 w')
   exact J.fin (ih (k+1) ⟨by omega,h4⟩ (by omega))
 rw [show tab.any badH=false from List.any_eq_false.2 fun x hx=>by
  obtain ⟨i,h5,rfl⟩:=List.getElem_of_mem hx
  rw [h4 i h5 (by omega)];decide]
 rw [if_neg (by decide)]
 have h4:∀ i (h:i < tab.length),1<=tab[i].2/\tab[i].2<=1402560:=fun i h=>by
  have:=h4 i h (by omega)
  simp only [badH,Bool.or_eq_false_iff,Bool.not_eq_false',decide_eq_true_eq] at this
  exact this.2
 clear ih
 generalize hS:sumT tab=S
 generalize hO:sortedT none tab=O
 all_goals (refine go ?_;and_intros<;>first|exact trivial|repeat first|intro(Bk:Nat)|intro h)
 clear hk h3
 refine J.loop (c:=_) ((0,0):Nat×Int) (fun s=>tab.length-s.1) (fun s=>[(1,.pointer (some ⟨_,0,none⟩)),(5,.int .i64 s.2),(59,.slice (some ⟨ba,oa,none⟩) tab.length cap),(60,.int .i64 tab.length),(61,.int .i64 s.1)]) (fun s=>[.blk _ 67 [.int .i64 f,.int .i64 t,.slice (some ⟨ba,oa,none⟩) tab.length cap,.int .i64 lo,.int .i64 hi] 5]) (fun s=>s.1<=tab.length/\(0<=s.2/\s.2<=1402560*s.1)/\s.2+sumT (tab.drop s.1)=S/\sortedT (prv tab s.1) (tab.drop s.1)=O) ?_ sbT sbL ?_
 ·exact ⟨Nat.zero_le _,⟨Int.le_refl _,Int.le_refl _⟩,by rw [Int.zero_add];exact hS,hO⟩
 clear hS hO
 intro ⟨k,x⟩ ⟨h3,⟨h5,h5'⟩,h6,h7⟩ ih
 dsimp only at h3 h5 h5' h6 h7 ⊢
 by_cases hk:k < tab.length
 ·have hrk:=hra k hk
  have h8:=h4 k hk
  rw [sortedT_step hk] at h7
  rw [List.drop_eq_getElem_cons hk,sumT,<- Int.add_assoc] at h6
  rcases k with _|j
  ·rw [show prv tab 0=none from rfl] at h7
   dsimp only at h7
   rw [Bool.true_and] at h7
   generalize tab[0]=s at *
   obtain ⟨u,v⟩:=s
   dsimp only [hoV] at *
   all_goals (refine go ?_;and_intros<;>first|exact trivial|repeat first|intro(Bk:Nat)|intro h)
   exact J.fin (ih (1,x+v) ⟨hk,⟨by dsimp only;omega,by dsimp only;omega⟩,h6,h7⟩ (by dsimp only;omega))
  ·have hrj:=hra j (by omega)
   rw [show prv tab (j+1)=some tab[j] from List.getElem?_eq_getElem (by omega)] at h7
   dsimp only at h7
   generalize tab[j+1]=s at *
   generalize tab[j]=p at *
   obtain ⟨u,v⟩:=s
   obtain ⟨u2,v2⟩:=p
   dsimp only [hoV] at *
   by_cases hlt:u2 < u
   ·rw [decide_eq_true hlt,Bool.true_and] at h7
    all_goals (refine go ?_;and_intros<;>first|exact trivial|repeat first|intro(Bk:Nat)|intro h)
    exact J.fin (ih (j+2,x+v) ⟨hk,⟨by dsimp only;omega,by dsimp only;omega⟩,h6,h7⟩ (by dsimp only;omega))
   ·rw [decide_eq_false hlt,Bool.false_and] at h7
    rw [if_neg (by rw [<- h7];simp)]
    clear ih
    all_goals (refine go ?_;and_intros<;>first|exact trivial|repeat first|intro(Bk:Nat)|intro h)
    all_goals refine ret1b Tryz.func104 Tryz.results104 ?_
    all_goals rfl
 ·rw [show k=tab.length by omega,List.drop_length] at h6 h7
  rw [sortedT] at h7
  rw [sumT,Int.add_zero] at h6
  subst h6 h7
  clear ih
  by_cases h9:x=t-f/\lo=0/\hi=0
  ·rw [if_pos ⟨rfl,h9⟩]
   all_goals (refine go ?_;and_intros<;>first|exact trivial|repeat first|intro(Bk:Nat)|intro h)
   all_goals refine ret1b Tryz.func104 Tryz.results104 ?_
   all_goals rfl
  ·rw [if_neg (fun e=>h9 e.2)]
   all_goals (refine go ?_;and_intros<;>first|exact trivial|repeat first|intro(Bk:Nat)|intro h)
   all_goals refine ret1b Tryz.func104 Tryz.results104 ?_
   all_goals rfl
def inT (r:Rn):Bool:=decide (0<=r.from_/\r.from_ < r.to_/\r.to_<=1402560)
def rnErr (prev:Option Rn):List Rn->Int
 | []=>0
 | r::t=>if inT r=false then 3 else if (match prev with|none=>false|some q=>decide (r.from_≠q.to_))=true then 1 else if oneE r≠0 then oneE r else rnErr (some r) t
def lenT (l:List Rn):Int:=match l[0]?,l[l.length-1]? with
 | some a,some b=>b.to_-a.from_
 | _,_=>0
def runsErr (l:List Rn):Int:=if 2000 < l.length then 2 else if rnErr none l≠0 then rnErr none l else if 40000 < lenT l then 2 else 0
theorem rnErr_step {l:List Rn}{k:Nat} (hk:k < l.length):rnErr (prv l k) (l.drop k)=if inT l[k]=false then 3 else if (match prv l k with|none=>false|some q=>decide (l[k].from_≠q.to_))=true then 1 else if oneE l[k]≠0 then oneE l[k] else rnErr (prv l (k+1)) (l.drop (k+1)):=by
 rw [List.drop_eq_getElem_cons hk,prv,List.getElem?_eq_getElem hk]
 cases prv l k<;>rfl
theorem rnErr_end {l:List Rn}{q:Option Rn}:rnErr q (l.drop l.length)=0:=by
 rw [List.drop_length];rfl
theorem rRuns_holds (a:Option Addr) (l:List Rn) (c:Nat) (w:World) (hA:RunsAt w a l) (hf:∀ r∈l,r.tab.length<=64) :
  Calls Tryz.prog 71 #[.slice a l.length c] w fun e w'=>e=.returned (.int .i64 (runsErr l))/\Below w.heap.size w w':=by
 rw [runsErr]
 refine enterA [(0,.slice a l.length c)] Tryz.func71 Tryz.ntmps71 ?_
 by_cases hl:2000 < l.length
 ·rw [if_pos hl]
  all_goals (refine go ?_;and_intros<;>first|exact trivial|repeat first|intro(Bk:Nat)|intro h)
  all_goals refine ret1b Tryz.func71 Tryz.results71 ?_
  all_goals rfl
 rw [if_neg hl]
 generalize hE:rnErr none l=E
 all_goals (refine go ?_;and_intros<;>first|exact trivial|repeat first|intro(Bk:Nat)|intro h)
 refine J.loop (c:=_) (0:Nat) (fun s=>l.length-s) (fun s=>[(0,.slice a l.length c),(3,.int .i64 s)]) (fun s=>[]) (fun s=>s<=l.length/\rnErr (prv l s) (l.drop s)=E/\∀ i (h:i < l.length),i < s->inT l[i]=true) ?_ sbT sbL ?_
 ·exact ⟨Nat.zero_le _,hE,fun i h h2=>absurd h2 (Nat.not_lt_zero _)⟩
 clear hE
 intro k ⟨h1,h2,h3⟩ ih
 by_cases hk:k < l.length
 ·obtain ⟨ba,oa,rfl,hra⟩:=SlAt.all hA.1 (by omega)
  have hrk:=hra k hk
  have hm:=List.getElem_mem hk
  have ho:=fun (hi:inT l[k]=true) w' (hb:Below w.heap.size w w')=>rOne_holds l[k] w' (SlAt.below (hA.2 _ hm) hb) (hf _ hm) (by rw [inT,decide_eq_true_eq] at hi;exact hi)
  have h3:inT l[k]=true->∀ i (h:i < l.length),i < k+1->inT l[i]=true:=fun hq i h h5=>by
   rcases Nat.lt_or_ge i k with h6|h6
   ·exact h3 i h h6
   ·obtain rfl:i=k:=by omega
    exact hq
  rw [rnErr_step hk] at h2
  clear hm
  by_cases hi:inT l[k]=true
  ·have ho:=ho hi
   have g3:=h3 hi
   clear h3
   rw [if_neg (by rw [hi];decide)] at h2
   rw [inT,decide_eq_true_eq] at hi
   generalize oneE l[k]=e at *
   by_cases he:e=0
   ·subst he
    rcases k with _|j
    ·rw [show prv l 0=none from rfl] at h2
     dsimp only at h2
     rw [if_neg (by decide),if_neg (by decide)] at h2
     generalize l[0]=s at *
     obtain ⟨f,t,tab,adr,cap,lo,hi2⟩:=s
     dsimp only [rnV,rnA] at *
     repeat' first|(refine gp ?_;and_intros<;>first|exact trivial|repeat first|intro(Bk:Nat)|intro h)|(apply G.cV (g:=121);rfl;rfl;exact fun w' hw=>ho w' hw.below)
     exact J.fin (ih 1 ⟨hk,h2,g3⟩ (by omega))
    ·have hrj:=hra j (by omega)
     rw [show prv l (j+1)=some l[j] from List.getElem?_eq_getElem (by omega)] at h2
     dsimp only at h2
     by_cases hn:l[j+1].from_=l[j].to_
     ·rw [if_neg (by simp [hn]),if_neg (by decide)] at h2
      generalize l[j+1]=s at *
      generalize l[j]=p at *
      obtain ⟨f,t,tab,adr,cap,lo,hi2⟩:=s
      obtain ⟨f2,t2,tab2,adr2,cap2,lo2,hi3⟩:=p
      dsimp only [rnV,rnA] at *
      repeat' first|(refine gp ?_;and_intros<;>first|exact trivial|repeat first|intro(Bk:Nat)|intro h)|(apply G.cV (g:=121);rfl;rfl;exact fun w' hw=>ho w' hw.below)
      exact J.fin (ih (j+2) ⟨hk,h2,g3⟩ (by omega))
     ·rw [if_pos (by simp [hn])] at h2
      subst h2
      clear ih g3
      generalize l[j+1]=s at *
      generalize l[j]=p at *
      obtain ⟨f,t,tab,adr,cap,lo,hi2⟩:=s
      obtain ⟨f2,t2,tab2,adr2,cap2,lo2,hi3⟩:=p
      dsimp only [rnV,rnA] at *
      repeat' first|(refine gp ?_;and_intros<;>first|exact trivial|repeat first|intro(Bk:Nat)|intro h)|(apply G.cV (g:=121);rfl;rfl;exact fun w' hw=>ho w' hw.below)
      all_goals refine ret1b Tryz.func71 Tryz.results71 ?_
      all_goals rfl
   ·clear ih g3
    rcases k with _|j
    ·rw [show prv l 0=none from rfl] at h2
     dsimp only at h2
     rw [if_neg (by decide),if_pos he] at h2
     subst h2
     generalize l[0]=s at *
     obtain ⟨f,t,tab,adr,cap,lo,hi2⟩:=s
     dsimp only [rnV,rnA] at *
     rw [if_pos he]
     repeat' first|(refine gp ?_;and_intros<;>first|exact trivial|repeat first|intro(Bk:Nat)|intro h)|(apply G.cV (g:=121);rfl;rfl;exact fun w' hw=>ho w' hw.below)
     all_goals refine ret1b Tryz.func71 Tryz.results71 ?_
     all_goals rfl
    ·have hrj:=hra j (by omega)
     rw [show prv l (j+1)=some l[j] from List.getElem?_eq_getElem (by omega)] at h2
     dsimp only at h2
     by_cases hn:l[j+1].from_=l[j].to_
     ·rw [if_neg (by simp [hn]),if_pos he] at h2
      subst h2
      rw [if_pos he]
      generalize l[j+1]=s at *
      generalize l[j]=p at *
      obtain ⟨f,t,tab,adr,cap,lo,hi2⟩:=s
      obtain ⟨f2,t2,tab2,adr2,cap2,lo2,hi3⟩:=p
      dsimp only [rnV,rnA] at *
      repeat' first|(refine gp ?_;and_intros<;>first|exact trivial|repeat first|intro(Bk:Nat)|intro h)|(apply G.cV (g:=121);rfl;rfl;exact fun w' hw=>ho w' hw.below)
      all_goals refine ret1b Tryz.func71 Tryz.results71 ?_
      all_goals rfl
     ·rw [if_pos (by simp [hn])] at h2
      subst h2
      generalize l[j+1]=s at *
      generalize l[j]=p at *
      obtain ⟨f,t,tab,adr,cap,lo,hi2⟩:=s
      obtain ⟨f2,t2,tab2,adr2,cap2,lo2,hi3⟩:=p
      dsimp only [rnV,rnA] at *
      repeat' first|(refine gp ?_;and_intros<;>first|exact trivial|repeat first|intro(Bk:Nat)|intro h)|(apply G.cV (g:=121);rfl;rfl;exact fun w' hw=>ho w' hw.below)
      all_goals refine ret1b Tryz.func71 Tryz.results71 ?_
      all_goals rfl
  ·have hi:inT l[k]=false:=by simpa using hi
   rw [if_pos hi] at h2
   subst h2
   rw [inT,decide_eq_false_iff_not] at hi
   clear ih h3 ho
   generalize l[k]=s at *
   obtain ⟨f,t,tab,adr,cap,lo,hi2⟩:=s
   dsimp only [rnV] at *
   all_goals (refine go ?_;and_intros<;>first|exact trivial|repeat first|intro(Bk:Nat)|intro h)
   all_goals refine ret1b Tryz.func71 Tryz.results71 ?_
   all_goals rfl
 ·obtain rfl:k=l.length:=by omega
  rw [rnErr_end] at h2
  subst h2
  rw [if_neg (by decide)]
  clear ih
  rcases Nat.eq_zero_or_pos l.length with h0|h0
  ·rw [lenT,List.getElem?_eq_none (by omega)]
   dsimp only
   rw [if_neg (by decide)]
   all_goals (refine go ?_;and_intros<;>first|exact trivial|repeat first|intro(Bk:Nat)|intro h)
   all_goals refine ret1b Tryz.func71 Tryz.results71 ?_
   all_goals rfl
  ·obtain ⟨ba,oa,rfl,hra⟩:=SlAt.all hA.1 (by omega)
   have r1:=hra 0 h0
   have r2:=hra (l.length-1) (by omega)
   have i1:=h3 0 h0 (by omega)
   have i2:=h3 (l.length-1) (by omega) (by omega)
   have hz:(l.length:Int)-1=((l.length-1:Nat):Int):=by omega
   rw [lenT,List.getElem?_eq_getElem h0,List.getElem?_eq_getElem (show l.length-1 < l.length by omega)]
   dsimp only
   rw [inT,decide_eq_true_eq] at i1 i2
   clear h3
   generalize l[0]=x at *
   generalize l[l.length-1]=y at *
   obtain ⟨f,t,tab,adr,cap,lo,hi⟩:=x
   obtain ⟨f2,t2,tab2,adr2,cap2,lo2,hi2⟩:=y
   dsimp only [rnV] at *
   by_cases hlen:40000 < t2-f
   ·rw [if_pos hlen]
    repeat' first|(refine gp ?_;and_intros<;>first|exact trivial|repeat first|intro(Bk:Nat)|intro h)|(apply G.ix;rfl;rfl;exact hz;omega;rfl)|(apply G.ix (i:=0);rfl;rfl;exact rfl;omega;rfl)
    all_goals refine ret1b Tryz.func71 Tryz.results71 ?_
    all_goals rfl
   ·rw [if_neg hlen]
    repeat' first|(refine gp ?_;and_intros<;>first|exact trivial|repeat first|intro(Bk:Nat)|intro h)|(apply G.ix;rfl;rfl;exact hz;omega;rfl)|(apply G.ix (i:=0);rfl;rfl;exact rfl;omega;rfl)
    all_goals refine ret1b Tryz.func71 Tryz.results71 ?_
    all_goals rfl
theorem vRuns_holds (a:Option Addr) (l:List Rn) (c:Nat) (w:World) (hA:RunsAt w a l) (hf:∀ r∈l,r.tab.length<=64) :
  Calls Tryz.prog 54 #[.slice a l.length c] w fun e w'=>e=.returned (.int .i64 (runsErr l))/\Below w.heap.size w w':=by
 rw [runsErr]
 refine enterA [(0,.slice a l.length c)] Tryz.func54 Tryz.ntmps54 ?_
 by_cases hl:2000 < l.length
 ·rw [if_pos hl]
  all_goals (refine go ?_;and_intros<;>first|exact trivial|repeat first|intro(Bk:Nat)|intro h)
  all_goals refine ret1b Tryz.func54 Tryz.results54 ?_
  all_goals rfl
 rw [if_neg hl]
 generalize hE:rnErr none l=E
 all_goals (refine go ?_;and_intros<;>first|exact trivial|repeat first|intro(Bk:Nat)|intro h)
 refine J.loop (c:=_) (0:Nat) (fun s=>l.length-s) (fun s=>[(0,.slice a l.length c),(10,.slice a l.length c),(11,.int .i64 l.length),(12,.int .i64 s)]) (fun s=>[]) (fun s=>s<=l.length/\rnErr (prv l s) (l.drop s)=E/\∀ i (h:i < l.length),i < s->inT l[i]=true) ?_ sbT sbL ?_
 ·exact ⟨Nat.zero_le _,hE,fun i h h2=>absurd h2 (Nat.not_lt_zero _)⟩
 clear hE
 intro k ⟨h1,h2,h3⟩ ih
 by_cases hk:k < l.length
 ·obtain ⟨ba,oa,rfl,hra⟩:=SlAt.all hA.1 (by omega)
  have hrk:=hra k hk
  have hm:=List.getElem_mem hk
  have ho:=fun (hi:inT l[k]=true) w' (hb:Below w.heap.size w w')=>vOne_holds l[k] w' (SlAt.below (hA.2 _ hm) hb) (hf _ hm) (by rw [inT,decide_eq_true_eq] at hi;exact hi)
  have h3:inT l[k]=true->∀ i (h:i < l.length),i < k+1->inT l[i]=true:=fun hq i h h5=>by
   rcases Nat.lt_or_ge i k with h6|h6
   ·exact h3 i h h6
   ·obtain rfl:i=k:=by omega
    exact hq
  rw [rnErr_step hk] at h2
  clear hm
  by_cases hi:inT l[k]=true
  ·have ho:=ho hi
   have g3:=h3 hi
   clear h3
   rw [if_neg (by rw [hi];decide)] at h2
   rw [inT,decide_eq_true_eq] at hi
   generalize oneE l[k]=e at *
   by_cases he:e=0
   ·subst he
    rcases k with _|j
    ·rw [show prv l 0=none from rfl] at h2
     dsimp only at h2
     rw [if_neg (by decide),if_neg (by decide)] at h2
     generalize l[0]=s at *
     obtain ⟨f,t,tab,adr,cap,lo,hi2⟩:=s
     dsimp only [rnV,rnA] at *
     repeat' first|(refine gp ?_;and_intros<;>first|exact trivial|repeat first|intro(Bk:Nat)|intro h)|(apply G.cV (g:=104);rfl;rfl;exact fun w' hw=>ho w' hw.below)
     exact J.fin (ih 1 ⟨hk,h2,g3⟩ (by omega))
    ·have hrj:=hra j (by omega)
     rw [show prv l (j+1)=some l[j] from List.getElem?_eq_getElem (by omega)] at h2
     dsimp only at h2
     by_cases hn:l[j+1].from_=l[j].to_
     ·rw [if_neg (by simp [hn]),if_neg (by decide)] at h2
      generalize l[j+1]=s at *
      generalize l[j]=p at *
      obtain ⟨f,t,tab,adr,cap,lo,hi2⟩:=s
      obtain ⟨f2,t2,tab2,adr2,cap2,lo2,hi3⟩:=p
      dsimp only [rnV,rnA] at *
      repeat' first|(refine gp ?_;and_intros<;>first|exact trivial|repeat first|intro(Bk:Nat)|intro h)|(apply G.cV (g:=104);rfl;rfl;exact fun w' hw=>ho w' hw.below)
      exact J.fin (ih (j+2) ⟨hk,h2,g3⟩ (by omega))
     ·rw [if_pos (by simp [hn])] at h2
      subst h2
      clear ih g3
      generalize l[j+1]=s at *
      generalize l[j]=p at *
      obtain ⟨f,t,tab,adr,cap,lo,hi2⟩:=s
      obtain ⟨f2,t2,tab2,adr2,cap2,lo2,hi3⟩:=p
      dsimp only [rnV,rnA] at *
      repeat' first|(refine gp ?_;and_intros<;>first|exact trivial|repeat first|intro(Bk:Nat)|intro h)|(apply G.cV (g:=104);rfl;rfl;exact fun w' hw=>ho w' hw.below)
      all_goals refine ret1b Tryz.func54 Tryz.results54 ?_
      all_goals rfl
   ·clear ih g3
    rcases k with _|j
    ·rw [show prv l 0=none from rfl] at h2
     dsimp only at h2
     rw [if_neg (by decide),if_pos he] at h2
     subst h2
     generalize l[0]=s at *
     obtain ⟨f,t,tab,adr,cap,lo,hi2⟩:=s
     dsimp only [rnV,rnA] at *
     rw [if_pos he]
     repeat' first|(refine gp ?_;and_intros<;>first|exact trivial|repeat first|intro(Bk:Nat)|intro h)|(apply G.cV (g:=104);rfl;rfl;exact fun w' hw=>ho w' hw.below)
     all_goals refine ret1b Tryz.func54 Tryz.results54 ?_
     all_goals rfl
    ·have hrj:=hra j (by omega)
     rw [show prv l (j+1)=some l[j] from List.getElem?_eq_getElem (by omega)] at h2
     dsimp only at h2
     by_cases hn:l[j+1].from_=l[j].to_
     ·rw [if_neg (by simp [hn]),if_pos he] at h2
      subst h2
      rw [if_pos he]
      generalize l[j+1]=s at *
      generalize l[j]=p at *
      obtain ⟨f,t,tab,adr,cap,lo,hi2⟩:=s
      obtain ⟨f2,t2,tab2,adr2,cap2,lo2,hi3⟩:=p
      dsimp only [rnV,rnA] at *
      repeat' first|(refine gp ?_;and_intros<;>first|exact trivial|repeat first|intro(Bk:Nat)|intro h)|(apply G.cV (g:=104);rfl;rfl;exact fun w' hw=>ho w' hw.below)
      all_goals refine ret1b Tryz.func54 Tryz.results54 ?_
      all_goals rfl
     ·rw [if_pos (by simp [hn])] at h2
      subst h2
      generalize l[j+1]=s at *
      generalize l[j]=p at *
      obtain ⟨f,t,tab,adr,cap,lo,hi2⟩:=s
      obtain ⟨f2,t2,tab2,adr2,cap2,lo2,hi3⟩:=p
      dsimp only [rnV,rnA] at *
      repeat' first|(refine gp ?_;and_intros<;>first|exact trivial|repeat first|intro(Bk:Nat)|intro h)|(apply G.cV (g:=104);rfl;rfl;exact fun w' hw=>ho w' hw.below)
      all_goals refine ret1b Tryz.func54 Tryz.results54 ?_
      all_goals rfl
  ·have hi:inT l[k]=false:=by simpa using hi
   rw [if_pos hi] at h2
   subst h2
   rw [inT,decide_eq_false_iff_not] at hi
   clear ih h3 ho
   generalize l[k]=s at *
   obtain ⟨f,t,tab,adr,cap,lo,hi2⟩:=s
   dsimp only [rnV] at *
   all_goals (refine go ?_;and_intros<;>first|exact trivial|repeat first|intro(Bk:Nat)|intro h)
   all_goals refine ret1b Tryz.func54 Tryz.results54 ?_
   all_goals rfl
 ·obtain rfl:k=l.length:=by omega
  rw [rnErr_end] at h2
  subst h2
  rw [if_neg (by decide)]
  clear ih
  rcases Nat.eq_zero_or_pos l.length with h0|h0
  ·rw [lenT,List.getElem?_eq_none (by omega)]
   dsimp only
   rw [if_neg (by decide)]
   all_goals (refine go ?_;and_intros<;>first|exact trivial|repeat first|intro(Bk:Nat)|intro h)
   all_goals refine ret1b Tryz.func54 Tryz.results54 ?_
   all_goals rfl
  ·obtain ⟨ba,oa,rfl,hra⟩:=SlAt.all hA.1 (by omega)
   have r1:=hra 0 h0
   have r2:=hra (l.length-1) (by omega)
   have i1:=h3 0 h0 (by omega)
   have i2:=h3 (l.length-1) (by omega) (by omega)
   have hz:(l.length:Int)-1=((l.length-1:Nat):Int):=by omega
   rw [lenT,List.getElem?_eq_getElem h0,List.getElem?_eq_getElem (show l.length-1 < l.length by omega)]
   dsimp only
   rw [inT,decide_eq_true_eq] at i1 i2
   clear h3
   generalize l[0]=x at *
   generalize l[l.length-1]=y at *
   obtain ⟨f,t,tab,adr,cap,lo,hi⟩:=x
   obtain ⟨f2,t2,tab2,adr2,cap2,lo2,hi2⟩:=y
   dsimp only [rnV] at *
   by_cases hlen:40000 < t2-f
   ·rw [if_pos hlen]
    repeat' first|(refine gp ?_;and_intros<;>first|exact trivial|repeat first|intro(Bk:Nat)|intro h)|(apply G.ix;rfl;rfl;exact hz;omega;rfl)|(apply G.ix (i:=0);rfl;rfl;exact rfl;omega;rfl)
    all_goals refine ret1b Tryz.func54 Tryz.results54 ?_
    all_goals rfl
   ·rw [if_neg hlen]
    repeat' first|(refine gp ?_;and_intros<;>first|exact trivial|repeat first|intro(Bk:Nat)|intro h)|(apply G.ix;rfl;rfl;exact hz;omega;rfl)|(apply G.ix (i:=0);rfl;rfl;exact rfl;omega;rfl)
    all_goals refine ret1b Tryz.func54 Tryz.results54 ?_
    all_goals rfl
def cutS (x y:Int) (s:Spn):Spn:={ s with from_:=max s.from_ x,to_:=min s.to_ y }
def cutL (x y:Int):List Spn->List Spn
 | []=>[]
 | s::r=>if max s.from_ x < min s.to_ y then cutS x y s::cutL x y r else cutL x y r
def scaleS (q:Rat) (s:Spn):Spn:={ s with wt:=rQ (qR s.wt*q) }
def fewR (m t:Nat) (l:List Rn):Prop:=l.length<=m/\(∀ r∈l,r.tab.length<=20)/\(runsErr l≠0∨l.length=0∨lenT l<=t)
instance (m t:Nat) (l:List Rn):Decidable (fewR m t l):=by unfold fewR;exact inferInstance
theorem rnErr_ok {p:Option Rn}{l:List Rn} (h:rnErr p l=0):∀ r∈l,inT r=true:=by
 induction l generalizing p with
 | nil=>simp
 | cons s r ih =>
  obtain ⟨B,hs⟩:∃ B:Bool,(if inT s=false then 3 else if B=true then 1 else if oneE s≠0 then oneE s else rnErr (some s) r)=(0:Int):=by
   cases p with
   | none=>exact ⟨false,h⟩
   | some q=>exact ⟨decide (s.from_≠q.to_),h⟩
  by_cases c1:inT s=false
  ·rw [if_pos c1] at hs;cases hs
  rw [if_neg c1] at hs
  cases B
  ·rw [if_neg (by decide)] at hs
   by_cases c2:oneE s≠0
   ·rw [if_pos c2] at hs;exact absurd hs c2
   rw [if_neg c2] at hs
   intro t ht
   rcases List.mem_cons.1 ht with rfl|ht
   ·simpa using c1
   ·exact ih hs t ht
  ·rw [if_pos rfl] at hs;cases hs
theorem runsErr_ok {l:List Rn} (h:runsErr l=0):l.length<=2000/\(∀ r∈l,inT r=true)/\lenT l<=40000:=by
 rw [runsErr] at h
 split at h
 ·cases h
 split at h
 ·exact absurd h (by assumption)
 rename_i c1
 split at h
 ·cases h
 exact ⟨by omega,rnErr_ok (Decidable.not_not.1 c1),by omega⟩
theorem rFew_holds (a:Option Addr) (l:List Rn) (c m t:Nat) (w:World) (hA:RunsAt w a l) (hm:m<=1000) :
  Calls Tryz.prog 31 #[.slice a l.length c,.int .i64 m,.int .i64 t] w fun e w'=>e=.returned (.bool (decide (fewR m t l)))/\Below w.heap.size w w':=by
 refine enterA [(0,.slice a l.length c),(1,.int .i64 m),(2,.int .i64 t)] Tryz.func31 Tryz.ntmps31 ?_
 by_cases hl:m < l.length
 ·rw [decide_eq_false (fun h=>absurd h.1 (by omega))]
  all_goals (refine go ?_;and_intros<;>first|exact trivial|repeat first|intro(Bk:Nat)|intro h)
  all_goals refine ret1b Tryz.func31 Tryz.results31 ?_
  all_goals rfl
 all_goals (refine go ?_;and_intros<;>first|exact trivial|repeat first|intro(Bk:Nat)|intro h)
 refine J.loop (c:=_) (0:Nat) (fun s=>l.length-s) (fun s=>[(0,.slice a l.length c),(2,.int .i64 t),(7,.int .i64 s)]) (fun s=>[]) (fun s=>s<=l.length/\∀ i (h:i < l.length),i < s->l[i].tab.length<=20) ?_ sbT sbL ?_
 ·exact ⟨Nat.zero_le _,fun i h h2=>absurd h2 (Nat.not_lt_zero _)⟩
 intro k ⟨h1,h2⟩ ih
 by_cases hk:k < l.length
 ·obtain ⟨ba,oa,rfl,hra⟩:=SlAt.all hA.1 (by omega)
  have hr:=hra k hk
  have h2:l[k].tab.length<=20->∀ i (h:i < l.length),i < k+1->l[i].tab.length<=20:=fun hq i h h3=>by
   rcases Nat.lt_or_ge i k with h4|h4
   ·exact h2 i h h4
   ·obtain rfl:i=k:=by omega
    exact hq
  have h3:¬ l[k].tab.length<=20->decide (fewR m t l)=false:=fun hq=>decide_eq_false (fun h=>hq (h.2.1 _ (List.getElem_mem hk)))
  generalize l[k]=s at *
  obtain ⟨f,u,tab,adr,cap,lo,hi⟩:=s
  dsimp only [rnV] at *
  by_cases hq:tab.length<=20
  ·have h2:=h2 hq
   all_goals (refine go ?_;and_intros<;>first|exact trivial|repeat first|intro(Bk:Nat)|intro h)
   exact J.fin (ih (k+1) ⟨hk,h2⟩ (by omega))
  ·rw [h3 hq]
   all_goals (refine go ?_;and_intros<;>first|exact trivial|repeat first|intro(Bk:Nat)|intro h)
   all_goals refine ret1b Tryz.func31 Tryz.results31 ?_
   all_goals rfl
 clear ih
 have h2:∀ r∈l,r.tab.length<=20:=fun p hp=>by
  obtain ⟨i,h3,rfl⟩:=List.getElem_of_mem hp
  exact h2 i h3 (by omega)
 have hc:=fun w' (hb:Below w.heap.size w w')=>rRuns_holds a l c w' (hA.below hb) (fun r hr=>Nat.le_trans (h2 r hr) (by decide))
 have hF:fewR m t l ↔ (runsErr l≠0∨l.length=0∨lenT l<=t):=⟨fun h=>h.2.2,fun h=>⟨by omega,h2,h⟩⟩
 by_cases he:runsErr l=0
 ·have ⟨_,k2,k3⟩:=runsErr_ok he
  rw [he] at hc
  rcases Nat.eq_zero_or_pos l.length with h0|h0
  ·rw [decide_eq_true (hF.2 (.inr (.inl h0)))]
   repeat' first|(refine gp ?_;and_intros<;>first|exact trivial|repeat first|intro(Bk:Nat)|intro h)|(apply G.cV (g:=71);rfl;rfl;exact fun w' hw=>hc w' hw.below)
   all_goals refine ret1b Tryz.func31 Tryz.results31 ?_
   all_goals rfl
  ·obtain ⟨ba,oa,rfl,hra⟩:=SlAt.all hA.1 (by omega)
   have r1:=hra 0 h0
   have r2:=hra (l.length-1) (by omega)
   have i1:=k2 _ (List.getElem_mem h0)
   have i2:=k2 _ (List.getElem_mem (show l.length-1 < l.length by omega))
   have hz:(l.length:Int)-1=((l.length-1:Nat):Int):=by omega
   have hL:lenT l=l[l.length-1].to_-l[0].from_:=by rw [lenT,List.getElem?_eq_getElem h0,List.getElem?_eq_getElem (show l.length-1 < l.length by omega)]
   rw [inT,decide_eq_true_eq] at i1 i2
   by_cases ht:lenT l<=t
   ·rw [decide_eq_true (hF.2 (.inr (.inr ht)))]
    rw [hL] at ht
    clear hL hF k2 h2
    generalize l[0]=x at *
    generalize l[l.length-1]=y at *
    obtain ⟨f,u,tab,adr,cap,lo,hi⟩:=x
    obtain ⟨f2,u2,tab2,adr2,cap2,lo2,hi2⟩:=y
    dsimp only [rnV] at *
    repeat' first|(refine gp ?_;and_intros<;>first|exact trivial|repeat first|intro(Bk:Nat)|intro h)|(apply G.cV (g:=71);rfl;rfl;exact fun w' hw=>hc w' hw.below)|(apply G.ix;rfl;rfl;exact hz;omega;rfl)|(apply G.ix (i:=0);rfl;rfl;exact rfl;omega;rfl)
    all_goals refine ret1b Tryz.func31 Tryz.results31 ?_
    all_goals rfl
   ·rw [decide_eq_false (fun h=>by rcases hF.1 h with h|h|h;exact h he;omega;exact ht h)]
    rw [hL] at ht
    clear hL hF k2 h2
    generalize l[0]=x at *
    generalize l[l.length-1]=y at *
    obtain ⟨f,u,tab,adr,cap,lo,hi⟩:=x
    obtain ⟨f2,u2,tab2,adr2,cap2,lo2,hi2⟩:=y
    dsimp only [rnV] at *
    repeat' first|(refine gp ?_;and_intros<;>first|exact trivial|repeat first|intro(Bk:Nat)|intro h)|(apply G.cV (g:=71);rfl;rfl;exact fun w' hw=>hc w' hw.below)|(apply G.ix;rfl;rfl;exact hz;omega;rfl)|(apply G.ix (i:=0);rfl;rfl;exact rfl;omega;rfl)
    all_goals refine ret1b Tryz.func31 Tryz.results31 ?_
    all_goals rfl
 ·rw [decide_eq_true (hF.2 (.inl he))]
  generalize runsErr l=E at *
  repeat' first|(refine gp ?_;and_intros<;>first|exact trivial|repeat first|intro(Bk:Nat)|intro h)|(apply G.cV (g:=71);rfl;rfl;exact fun w' hw=>hc w' hw.below)
  all_goals refine ret1b Tryz.func31 Tryz.results31 ?_
  all_goals rfl
def freeB (x:Rn) (l:List Spn):Bool:=(List.range (x.to_-x.from_).toNat).any fun (i:Nat)=>decide (worthOf l (x.from_+i) x.lo≠worthOf l (x.from_+i) x.hi)
theorem raw_holds (r:Rn) (w:World):Calls Tryz.prog 143 #[rnA r] w fun e w'=>e=.returned (.bool (decide (r.tab.length=1)))/\Below w.heap.size w w':=by
 obtain ⟨f,t,tab,adr,cap,lo,hi⟩:=r
 dsimp only [rnA]
 refine enterA [(0,.agg #[.int .i64 f,.int .i64 t,.slice adr tab.length cap,.int .i64 lo,.int .i64 hi])] Tryz.func143 Tryz.ntmps143 ?_
 all_goals (refine go ?_;and_intros<;>first|exact trivial|repeat first|intro(Bk:Nat)|intro h)
 all_goals refine ret1b Tryz.func143 Tryz.results143 ?_
 all_goals exact ret_bool (by first|(rw [decide_eq_true (by omega)])|(rw [decide_eq_false (by omega)]))
theorem held_holds (f t s:Int) (w:World) (h1:0<=f/\f<=1402560) (h2:0<=t/\t<=1402560) :
  Calls Tryz.prog 108 #[.int .i64 f,.int .i64 t,.int .i64 s] w fun e w'=>∃ a' c',e=.returned (.agg #[.int .i64 f,.int .i64 t,.slice a' 1 c',.int .i64 0,.int .i64 0])/\SlAt w' a' 2 ([(s,t-f)].map hoV)/\(∀ p,a'=some p->w.heap.size<=p.block)/\Below w.heap.size w w':=by
 refine enterA [(0,.int .i64 f),(1,.int .i64 t),(2,.int .i64 s)] Tryz.func108 Tryz.ntmps108 ?_
 repeat' first|(refine gp ?_;and_intros<;>first|exact trivial|repeat first|intro(Bk:Nat)|intro h)|(apply G.sliceL;rfl;rfl;rfl;rfl;rfl;rfl;rfl;rfl;intro Bs)
 (refine ret1 Tryz.func108 Tryz.results108 ?_;intro w' hw)
 refine ⟨some ⟨_,0,none⟩,1,rfl,SlAt.ofBlk (f:=hoV) (sz:=2) (l:=[(s,t-f)]) (fun _=>rfl) hw (List.Mem.head _),fun p hp=>?_,hw.below⟩
 cases hp
 exact ((hw.old _ (List.Mem.head _)).2 _ rfl).1
def k2V (p:Int×Int):Value:=.agg #[.int .i64 p.1,.int .i64 p.2]
instance:TMap Tryz.prog 121 192 25 (qA zero3):=⟨by kernel_rfl,fun w=>Tryz.zeroValue25 w⟩
theorem chk2 (e:Bool) (a b:Int) (w:World):(Instr.checkKey e 10000 192 (.agg #[.int .i64 a,.int .i64 b])).run Tryz.prog w=.ok () w:=by
 show (Instr.checkKey e (9998+1+1) 192 _).run Tryz.prog w=_
 have h:=chkI 9998 e
 generalize 9998=n at *
 rw [Instr.checkKey]
 have hu:∀ w,(underlying 192).run Tryz.prog w=.ok (.array 2 3) w:=fun w=>by simp [underlying,Tryz.underlying192]
 have hs:∀ w,(Go.sizeOf 3).run Tryz.prog w=.ok 1 w:=fun w=>Tryz.sizeOf3 w
 simp only [Sem.run_bind,hu,Result.andThen_ok]
 simp only [Std.Legacy.Range.forIn_eq_forIn_range',Std.Legacy.Range.size]
 simp only [List.range',List.forIn_cons,List.forIn_nil,Sem.run_bind,hs,Result.andThen_ok]
 simp [part,h]
instance tk2:TKey Tryz.prog 192 k2V:=TKey.ask Tryz.underlying192 (fun x y=>rfl) (fun e x w=>chk2 e x.1 x.2 w) (fun x y w=>by
  rw [k2V,k2V,TEq2.h]
  congr 2
  rw [Prod.ext_iff]) (fun x=>by simp [k2V,Instr.sameBits])
def ofR (l:List Spn) (k t:Int):Rat:=if k < 0 then 0 else match l[k.toNat]? with
 | some s=>rateOf s t
 | none=>0
def Rates (l:List Spn) (o:Obj):Prop:=∃ es clock L,o=.map es clock/\MapIs k2V es clock L/\∀ k t v,getM (k,t) L=some v->v=qA (rQ (ofR l k t))
theorem Rates.nil {l:List Spn}:Rates l (.map #[] 0):=⟨_,_,[],rfl,MapIs.nil,fun k t v h=>by cases h⟩
theorem ofR_at {l:List Spn}{k:Nat}{t:Int} (hk:k < l.length):ofR l (k:Int) t=rateOf l[k] t:=by
 rw [ofR,if_neg (by omega),Int.toNat_natCast,List.getElem?_eq_getElem hk]
theorem fewQ_of {l:List Spn}{k t:Int} (hf:∀ s∈l,fewS s) (hR:∀ s∈l,RightS s) (ht:0<=t/\t<=1000):fewQ 140 (rQ (ofR l k t)):=by
 rw [ofR]
 split
 ·exact fewQ_zero
 ·split
  ·rename_i s hs
   exact fewQ_rate (hf _ (List.mem_of_getElem? hs)) (hR _ (List.mem_of_getElem? hs)) ht.1 ht.2
  ·exact fewQ_zero
theorem of_holds (w0:World) (M:List Row) (w:World) (bl bm N:Nat) (a:Option Addr) (l:List Spn) (c:Nat) (S:Q3) (k t:Int) (hw:Sat w0 (.blk bl 123 [.slice a l.length c,.map (some bm),.bool S.neg,.string (bs S.num),.string (bs S.den)] 5::.inv bm (Rates l)::slRow N a 7 (l.map spV)::M) w)
  (hP:∀ s∈l,PtsAt w0 s) (hf:∀ s∈l,fewS s) (hR:∀ s∈l,RightS s) (hk:k < l.length) (ht:0<=t/\t<=1000) (hl:l.length<=1000000) (ha:∃ b off,a=some ⟨b,off,none⟩∨l=[]) :
  Calls Tryz.prog 110 #[.pointer (some ⟨bl,0,none⟩),.int .i64 k,.int .i64 t] w fun e w'=>e=.returned (qA (rQ (ofR l k t)))/\Sat w0 (.blk bl 123 [.slice a l.length c,.map (some bm),.bool S.neg,.string (bs S.num),.string (bs S.den)] 5::.inv bm (Rates l)::slRow N a 7 (l.map spV)::M) w':=by
 by_cases h0:k < 0
 ·rw [ofR,if_pos h0]
  refine enterR [(0,.pointer (some ⟨bl,0,none⟩)),(1,.int .i64 k),(2,.int .i64 t)] hw Tryz.func110 Tryz.ntmps110 ?_
  all_goals (refine go ?_;and_intros<;>(try exact trivial)<;>intros)
  refine ret1 Tryz.func110 Tryz.results110 ?_
  exact fun w' hw'=>⟨rfl,hw'.forget sbL⟩
 ·obtain ⟨n,rfl⟩:∃ n:Nat,k=n:=⟨k.toNat,by omega⟩
  have hn:n < l.length:=by omega
  obtain ⟨b,off,ha⟩:=ha
  have ha:=ha.resolve_right (fun e=>by subst e;exact absurd hn (Nat.not_lt_zero _))
  subst ha
  have hs:=List.getElem_mem hn
  have hr:=fun w' (hb:Below w0.heap.size w0 w')=>vrate_holds l[n] t w' ((hP _ hs).below hb) (hf _ hs) (hR _ hs) ht.1 ht.2
  have e0:ofR l (n:Int) t=rateOf l[n] t:=ofR_at hn
  rw [<- e0] at hr
  refine enterR [(0,.pointer (some ⟨bl,0,none⟩)),(1,.int .i64 n),(2,.int .i64 t)] hw Tryz.func110 Tryz.ntmps110 ?_
  refine J.bare RAt.au fun o ho=>?_
  obtain ⟨es,clock,L,rfl,hI,hL⟩:=ho
  have hput:∀ k' t' v,getM (k',t') (putM ((n:Int),t) (qA (rQ (ofR l n t))) L)=some v->v=qA (rQ (ofR l k' t')):=by
   intro k' t' v hv
   rw [getM_put] at hv
   split at hv
   ·rename_i e
    cases e;cases hv;rfl
   ·exact hL _ _ _ hv
  cases hg:getM ((n:Int),t) L with
  | some v =>
   have hv:=hL _ _ _ hg
   subst hv
   all_goals (refine goR ?_;and_intros<;>(try exact trivial)<;>intros)
   repeat' ((first|(apply J.regA (.q 0 <| .q 1 <| .q 2 <| .q 3 <| .q 4 <| .q 5 <| .q 6 <| .q 7 <| .q 8 <| .e 9 <| .r 10 <| .q 11 <| .nil);exact Tryz.mixed;decide +kernel)|(apply G.lko (kf:=k2V) (a:=((n:Int),t)) hI hg;rfl;rfl;exact mm;rfl)|(apply J.regQ;exact Tryz.mixed;decide +kernel)|(apply J.regL';exact Tryz.mixed;decide +kernel))<;>(refine goR ?_;and_intros<;>(try exact trivial)<;>intros))
   refine ret1 Tryz.func110 Tryz.results110 ?_
   exact fun w' hw'=>⟨rfl,(hw'.shutI (A:=Rates l) RAt.au ⟨es,clock,L,rfl,hI,hL⟩).forget sbL⟩
  | none =>
   all_goals (refine goR ?_;and_intros<;>(try exact trivial)<;>intros)
   repeat' ((first|(apply J.regA (.q 0 <| .q 1 <| .q 2 <| .q 3 <| .q 4 <| .q 5 <| .q 6 <| .q 7 <| .q 8 <| .e 9 <| .r 10 <| .q 11 <| .nil);exact Tryz.mixed;decide +kernel)|(apply G.lko (kf:=k2V) (a:=((n:Int),t)) hI hg;rfl;rfl;exact mm;rfl)|(apply G.ld;rfl;exact LdV.aggSl mm hn (by rfl);rfl)|(refine G.cvb hr ?_)|(apply G.mu (kf:=k2V) (a:=((n:Int),t)) hI rfl;rfl;rfl;rfl;rfl;(repeat (first|exact RAt.head|apply RAt.tail));intro es2 c2 hI2)|(apply J.regQ;exact Tryz.mixed;decide +kernel)|(apply J.regL';exact Tryz.mixed;decide +kernel))<;>(refine goR ?_;and_intros<;>(try exact trivial)<;>intros))
   refine ret1 Tryz.func110 Tryz.results110 ?_
   exact fun w' hw'=>⟨rfl,(hw'.shutI (A:=Rates l) RAt.au ⟨_,_,_,rfl,hI2,hput⟩).forget sbL⟩
theorem add_holds (w0:World) (M:List Row) (w:World) (bl bm N:Nat) (a:Option Addr) (l:List Spn) (c:Nat) (x:Rat) (n k t:Int) (m:Nat) (S:Q3) (hS:S=rQ x) (hw:Sat w0 (.blk bl 123 [.slice a l.length c,.map (some bm),.bool S.neg,.string (bs S.num),.string (bs S.den)] 5::.inv bm (Rates l)::slRow N a 7 (l.map spV)::M) w)
  (hP:∀ s∈l,PtsAt w0 s) (hf:∀ s∈l,fewS s) (hR:∀ s∈l,RightS s) (hk:k < l.length) (ht:0<=t/\t<=1000) (hl:l.length<=1000000) (ha:∃ b off,a=some ⟨b,off,none⟩∨l=[])
  (hn:-999999999999999<=n/\n<=999999999999999) (hx:fewQ m S) (hm:m<=134217728) (S':Q3) (hS':S'=rQ (x+n*ofR l k t)) :
  Calls Tryz.prog 61 #[.pointer (some ⟨bl,0,none⟩),.int .i64 n,.int .i64 k,.int .i64 t] w fun e w'=>e=.returned (.tuple #[])/\Sat w0 (.blk bl 123 [.slice a l.length c,.map (some bm),.bool S'.neg,.string (bs S'.num),.string (bs S'.den)] 5::.inv bm (Rates l)::slRow N a 7 (l.map spV)::M) w':=by
 have hi:=fun w'=>int_holds n w' hn.1 hn.2
 have z:=fewQ_int hn.1 hn.2
 have zo:=fewQ_of (k:=k) hf hR ht
 have ml:=fun w'=>ratMul_holds (rQ (n:Rat)) (rQ (ofR l k t)) w' (fewQ_le z (by decide)).1 (fewQ_le z (by decide)).2 (fewQ_le zo (by decide)).1 (fewQ_le zo (by decide)).2
 have zm:=fewQ_mul z zo (by decide) (by decide)
 have ad:=fun w'=>ratAdd_holds S (rQ (n*ofR l k t)) w' (fewQ_le hx hm).1 (fewQ_le hx hm).2 (fewQ_le zm (by decide)).1 (fewQ_le zm (by decide)).2
 rw [qR_rQ,qR_rQ] at ml
 rw [hS,qR_rQ,qR_rQ,<- hS,<- hS'] at ad
 clear z zo zm hx hS'
 have hof:=fun w' hw'=>of_holds w0 M w' bl bm N a l c S k t hw' hP hf hR hk ht hl ha
 generalize rQ (n*ofR l k t)=W at *
 generalize rQ (n:Rat)=V at *
 generalize rQ (ofR l k t)=U at *
 refine enterR [(0,.pointer (some ⟨bl,0,none⟩)),(1,.int .i64 n),(2,.int .i64 k),(3,.int .i64 t)] hw Tryz.func61 Tryz.ntmps61 ?_
 all_goals (refine goR ?_;and_intros<;>(try exact trivial)<;>intros)
 repeat' ((first|(apply J.regA (.q 0 <| .q 1 <| .q 2 <| .q 3 <| .q 4 <| .q 5 <| .q 6 <| .q 7 <| .q 8 <| .q 9 <| .e 10 <| .q 11 <| .q 12 <| .q 13 <| .q 14 <| .r 15 <| .nil);exact Tryz.mixed;decide +kernel)|(refine G.cI rfl rfl (.refl _) hof ?_)|(apply G.cV (g:=35);rfl;rfl;exact fun w' _=>hi w')|(apply G.cV (g:=83);rfl;rfl;exact fun w' _=>ml w')|(apply G.cV (g:=27);rfl;rfl;exact fun w' _=>ad w')|(apply J.regQ;exact Tryz.mixed;decide +kernel)|(apply J.regL';exact Tryz.mixed;decide +kernel))<;>(refine goR ?_;and_intros<;>(try exact trivial)<;>intros))
 refine end0 Tryz.func61 Tryz.results61 ?_
 exact fun w' hw'=>⟨rfl,hw'⟩
theorem book_holds (w0:World) (M:List Row) (w:World) (a:Option Addr) (l:List Spn) (c:Nat) (hw:Sat w0 M w) :
  Calls Tryz.prog 60 #[.slice a l.length c] w fun e w'=>∃ x:Nat×Nat,e=.returned (.pointer (some ⟨x.1,0,none⟩))/\Sat w0 (.blk x.1 123 [.slice a l.length c,.map (some x.2),.bool false,.string (bs []),.string (bs [])] 5::.inv x.2 (Rates l)::M) w':=by
 refine enterR [(0,.slice a l.length c)] hw Tryz.func60 Tryz.ntmps60 ?_
 all_goals (refine go ?_;and_intros<;>(try exact trivial)<;>intros)
 repeat' ((first|(apply G.mkm;rfl;intro bm))<;>(refine go ?_;and_intros<;>(try exact trivial)<;>intros))
 refine ret1 Tryz.func60 Tryz.results60 ?_
 exact fun w' hw'=>⟨(_,bm),rfl,hw'.shutI (A:=Rates l) RAt.au Rates.nil⟩
theorem G.addL {C:Ctx}{st:List (Nat×Value)}{M M1 M2 M3:List Row}{k:List Item}{q q':Md}{all rest:List Oper}{d:Nat}{ty:TypeId}{pos:String}{after:Array Edge}{gd:Option (Nat×Bool)}{args:List Operand}{at_:Array TypeId} (hP:C.P=Tryz.prog)
  {bl bm N:Nat}{a:Option Addr}{l:List Spn}{c:Nat}{n sp t:Int}{S:Q3} (x:Rat) (m:Nat)
  (hs:sideB all st gd d C.N q.res=some q') (ha:evL st args=some [.pointer (some ⟨bl,0,none⟩),.int .i64 n,.int .i64 sp,.int .i64 t])
  (p1:Pick (.blk bl 123 [.slice a l.length c,.map (some bm),.bool S.neg,.string (bs S.num),.string (bs S.den)] 5) M M1) (p2:Pick (.inv bm (Rates l)) M1 M2) (p3:Pick (slRow N a 7 (l.map spV)) M2 M3)
  (hq:(S=rQ x/\fewQ m S/\m<=134217728)/\(∀ s∈l,PtsAt C.w0 s)/\(∀ s∈l,fewS s)/\(∀ s∈l,RightS s)/\sp < l.length/\(0<=t/\t<=1000)/\l.length<=1000000/\(∃ b off,a=some ⟨b,off,none⟩∨l=[])/\-999999999999999<=n/\n<=999999999999999)
  (h:∀ S':Q3,S'=rQ (x+n*ofR l sp t)->G q' C all ((d,.tuple #[])::st) (.blk bl 123 [.slice a l.length c,.map (some bm),.bool S'.neg,.string (bs S'.num),.string (bs S'.den)] 5::.inv bm (Rates l)::slRow N a 7 (l.map spV)::M3) rest k) :
  G q C all st M ({ dst:=some d,op:=.call { callee:=.value (.func 61),args:=args.toArray,argTypes:=at_ },type:=ty,pos,after,guard:=gd }::rest) k:=by
 obtain ⟨P,b,PHI,N0,w0,D⟩:=C
 dsimp only at hP;subst hP
 obtain ⟨⟨h1,h2,h3⟩,h4,h5,h6,h7,h8,h9,h10,h11,h12⟩:=hq
 refine G.cM (X:=Unit) (fun _=>.tuple #[]) (fun _=>_) hs ha (fun w hw=>?_) fun _=>h _ rfl
 refine (add_holds w0 M3 w bl bm N a l c x n sp t m S h1 (hw.perm (p1.perm.trans (List.Perm.cons _ (p2.perm.trans (List.Perm.cons _ p3.perm))))) h4 h5 h6 h7 h8 h9 h10 ⟨h11,h12⟩ h2 h3 _ rfl).mono fun e w' he=>⟨(),he.1,he.2⟩
def segSum (g:Int->Rat):List Int->Rat
 | []=>0
 | x::r=>g x+segSum g r
def InOrd:Int->List Spn->Prop
 | _,[]=>True
 | x,s::r=>x<=s.from_/\s.from_ < s.to_/\InOrd s.to_ r
theorem InOrd.mono {x y:Int}{l:List Spn} (h:InOrd y l) (hxy:x<=y):InOrd x l:=by
 cases l with
 | nil=>trivial
 | cons s r=>exact ⟨Int.le_trans hxy h.1,h.2⟩
theorem inOrd_of {l:List Spn}{x:Int} (h:spErr x l=0):InOrd x l:=by
 induction l generalizing x with
 | nil=>trivial
 | cons s r ih =>
  rw [spErr] at h
  split at h
  ·cases h
  rename_i c1
  simp only [Bool.or_eq_true,Bool.not_eq_true',decide_eq_false_iff_not,decide_eq_true_eq,not_or,Decidable.not_not] at c1
  exact ⟨by omega,c1.1.1.2.1,ih h⟩
theorem InOrd.none {x t:Int}{l:List Spn} (h:InOrd x l) (ht:t < x):spanAt l t=l.length:=by
 induction l generalizing x with
 | nil=>rfl
 | cons s r ih =>
  have h1:=ih h.2.2 (by have:=h.1;have:=h.2.1;omega)
  unfold spanAt at *
  rw [List.findIdx_cons,show inS t s=false from by have:=h.1;simp [inS];omega,h1];simp
theorem worth_cons {x t st:Int}{s:Spn}{l:List Spn} (h:InOrd x (s::l)):worthOf (s::l) t st=(if inS t s=true then rateOf s st else 0)+worthOf l t st:=by
 unfold worthOf spanAt
 rw [List.findIdx_cons]
 cases hi:inS t s with
 | true =>
  have h1:t < s.to_:=by simp [inS] at hi;exact hi.2
  have h2:=h.2.2.none h1
  unfold spanAt at h2
  rw [h2]
  simp [Rat.add_zero]
 | false=>simp [Rat.zero_add]
def inSeg (g:Int->Rat) (s:Spn):Int->List Int->Rat
 | _,[]=>0
 | f,x::r=>(if inS f s=true then g x else 0)+inSeg g s (f+1) r
theorem volSum_cons {x:Int}{s:Spn}{l:List Spn} (h:InOrd x (s::l)) (f:Int) (hs:List Int):volSum (s::l) f hs=inSeg (rateOf s) s f hs+volSum l f hs:=by
 induction hs generalizing f with
 | nil=>rw [volSum,volSum,inSeg,Rat.add_zero]
 | cons y r ih=>rw [volSum,volSum,inSeg,worth_cons h,ih];grind
theorem volSum_nil (f:Int) (hs:List Int):volSum [] f hs=0:=by
 induction hs generalizing f with
 | nil=>rfl
 | cons y r ih=>rw [volSum,ih,Rat.add_zero];rfl
theorem inSeg_late {g:Int->Rat}{s:Spn}{f:Int} (h:s.to_<=f) (hs:List Int):inSeg g s f hs=0:=by
 induction hs generalizing f with
 | nil=>rfl
 | cons y r ih=>rw [inSeg,ih (by omega),if_neg (by simp [inS];omega),Rat.add_zero]
theorem inSeg_from {g:Int->Rat}{s:Spn} (n:Nat):∀ (hs:List Int) (f:Int),s.from_<=f->s.to_=f+n->inSeg g s f hs=segSum g (hs.take n)
 | [],f,_,_=>by simp [inSeg,segSum]
 | y::r,f,h1,h2=>by
  cases n with
  | zero=>rw [inSeg_late (by omega),List.take_zero,segSum]
  | succ n =>
   rw [List.take_succ_cons,inSeg,segSum,if_pos (by simp [inS];omega),inSeg_from n r (f+1) (by omega) (by omega)]
theorem inSeg_eq {g:Int->Rat}{s:Spn}:∀ (hs:List Int) (f:Int) (d:Nat),s.from_=f+d->s.from_<=s.to_->inSeg g s f hs=segSum g ((hs.drop d).take (s.to_-s.from_).toNat)
 | [],f,d,_,_=>by simp [inSeg,segSum]
 | y::r,f,d,h1,h2=>by
  cases d with
  | zero=>rw [List.drop_zero,<- inSeg_from (s:=s) (s.to_-s.from_).toNat (y::r) f (by omega) (by omega)]
  | succ d=>rw [inSeg,if_neg (by simp [inS];omega),Rat.zero_add,List.drop_succ_cons,inSeg_eq r (f+1) d (by omega) h2]
def wsum (g:Int->Rat):List (Int×Int)->Rat
 | []=>0
 | (x,n)::r=>(n:Rat)*g x+wsum g r
theorem wsum_bump (g:Int->Rat) (x:Int):∀ L:List (Int×Int),wsum g (bump x L)=wsum g L+g x
 | []=>by simp [bump,wsum];grind
 | (y,n)::r=>by
  rw [bump]
  split
  ·rename_i h;subst h
   rw [wsum,wsum,Rat.intCast_add];grind
  ·rw [wsum,wsum,wsum_bump g x r];grind
theorem wsum_erase (g:Int->Rat):∀ (L:List (Int×Int)) (i:Nat) (hi:i < L.length),wsum g L=((L[i].2:Int):Rat)*g L[i].1+wsum g (L.eraseIdx i)
 | (y,n)::r,0,_=>rfl
 | (y,n)::r,i+1,hi=>by
  rw [List.eraseIdx_cons_succ,wsum,wsum,wsum_erase g r i (by simpa using hi)]
  simp only [List.getElem_cons_succ];grind
def okL (n:Int) (L:List (Int×Int)):Prop:=∀ p∈L,(0<=p.1/\p.1<=1000)/\0<=p.2/\p.2<=n
theorem okL.bump {n x:Int} (hx:0<=x/\x<=1000) (hn:0<=n):∀ {L:List (Int×Int)},okL n L->okL (n+1) (bump x L)
 | [],_,p,hp=>by simp [Proofs.YtjcecdmbfmccoaaGreatDoor.bump] at hp;subst hp;exact ⟨hx,by show (0:Int)<=1;decide,by show (1:Int)<=n+1;omega⟩
 | (y,m)::r,h,p,hp=>by
  have h1:=h _ (List.mem_cons_self ..)
  rw [Proofs.YtjcecdmbfmccoaaGreatDoor.bump] at hp
  split at hp
  ·rcases List.mem_cons.1 hp with rfl|hp
   ·exact ⟨hx,by show 0<=m+1;have:=h1.2.1;dsimp only at this;omega,by show m+1<=n+1;have:=h1.2.2;dsimp only at this;omega⟩
   ·have h2:=h _ (List.mem_cons_of_mem _ hp);exact ⟨h2.1,h2.2.1,by omega⟩
  ·rcases List.mem_cons.1 hp with rfl|hp
   ·exact ⟨h1.1,h1.2.1,by have:=h1.2.2;omega⟩
   ·exact okL.bump hx hn (fun q hq=>h q (List.mem_cons_of_mem _ hq)) p hp
theorem okL.len {x:Int}:∀ (L:List (Int×Int)),(Proofs.YtjcecdmbfmccoaaGreatDoor.bump x L).length<=L.length+1
 | []=>Nat.le_refl _
 | (y,m)::r=>by
  rw [Proofs.YtjcecdmbfmccoaaGreatDoor.bump]
  split
  ·simp
  ·simpa using okL.len r
theorem okL.cnt {n x:Int} (hn:0<=n):∀ {L:List (Int×Int)},okL n L->0<=Proofs.YtjcecdmbfmccoaaGreatDoor.cnt x L/\Proofs.YtjcecdmbfmccoaaGreatDoor.cnt x L<=n
 | [],_=>⟨Int.le_refl _,hn⟩
 | (y,m)::r,h=>by
  rw [Proofs.YtjcecdmbfmccoaaGreatDoor.cnt]
  split
  ·exact (h _ (List.mem_cons_self ..)).2
  ·exact okL.cnt hn fun q hq=>h q (List.mem_cons_of_mem _ hq)
end Go.Proofs.YtjcecdmbfmccoaaGreatDoor
