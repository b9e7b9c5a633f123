/-
  Contracts of proofs: what is short.
-/
import Derived.Test.YtjcecdmbfmccoaaGreatDoorWA11
set_option linter.unusedVariables false
set_option linter.unusedSimpArgs false
set_option linter.unusedSectionVars false
namespace Go.Proofs.YtjcecdmbfmccoaaGreatDoor
open Go.RowKit Go.Sl Go.Num
instance (k:Nat) (a:Q3):Decidable (aH k a):=by unfold aH;exact inferInstance
theorem qX (a:Q3) (k:Nat) (w:World):CR 30 #[qA a,.int .i64 k] w (.bool (decide (aH k a))):=by
 obtain ⟨s,n,d⟩:=a;dsimp only [qA];refine aB [(0,.agg #[.bool s,.string (bs n),.string (bs d)]),(1,.int .i64 k)] Tryz.func30 Tryz.ntmps30 ?_;by_cases h:aH k ⟨s,n,d⟩
 ·rw [dT h]
  obtain ⟨h1,h2⟩:=h;dsimp only at h1 h2;all_goals (refine go ?_;and_intros<;>first|exact trivial|repeat first|intro(Bk:Nat)|intro h)
  all_goals exact aA Tryz.func30 Tryz.results30 rfl
 ·rw [dF h]
  have h:k < n.length∨(n.length<=k/\k < d.length):=by
   rcases Nat.lt_or_ge k n.length with h1|h1
   ·exact .inl h1
   ·exact .inr ⟨h1,Nat.lt_of_not_le fun h2=>h ⟨h1,h2⟩⟩
  all_goals (refine go ?_;and_intros<;>first|exact trivial|repeat first|intro(Bk:Nat)|intro h)
  all_goals
   all_goals exact aA Tryz.func30 Tryz.results30 rfl
def tT (p:Prf):Prop:=(p.st++p.cl).length<=30/\∀ q∈p.st++p.cl,aH 40 q
instance (p:Prf):Decidable (tT p):=by unfold tT;exact inferInstance
def gW (ps:List Prf):Prop:=ps.length<=30/\∀ p∈ps,tT p
instance (ps:List Prf):Decidable (gW ps):=by unfold gW;exact inferInstance
set_option maxHeartbeats 8000000 in
theorem qY (a:Option Addr) (ps:List Prf) (c:Nat) (w:World) (hP:bK w a ps) (hz:∀ p∈ps,p.st.length+p.cl.length<=1000000000000) :
  CR 19 #[.slice a ps.length c] w (.bool (decide (gW ps))):=by
 refine aB [(0,.slice a ps.length c)] Tryz.func19 Tryz.ntmps19 ?_;by_cases hm:ps.length<=30
 case neg =>
  rw [dF (fun h=>hm h.1)]
  have hm:=Nat.lt_of_not_le hm;all_goals (refine go ?_;and_intros<;>first|exact trivial|repeat first|intro(Bk:Nat)|intro h)
  all_goals exact aA Tryz.func19 Tryz.results19 rfl
 all_goals (refine go ?_;and_intros<;>first|exact trivial|repeat first|intro(Bk:Nat)|intro h)
 refine J.loop (c:=_) (0:Nat) (fun s=>ps.length-s) (fun s=>[(0,.slice a ps.length c),(3,.int .i64 s)]) (fun s=>[]) (fun s=>s<=ps.length/\∀ i (h:i < ps.length),i < s->tT ps[i]) ?_ sbT sbL ?_
 ·exact ⟨Nat.zero_le _,fun i h h2=>absurd h2 (Nat.not_lt_zero _)⟩
 intro k ⟨h1,h2⟩ ih;by_cases hk:k < ps.length
 ·obtain ⟨ba,oa,rfl,hra⟩:=aE.all hP.1 om
  have hr:=hra k hk;have hmm:=gM hk;have hs1:=(hP.2 _ hmm).1;have hs2:=(hP.2 _ hmm).2;have hz:=hz _ hmm;have hno:¬ tT ps[k]->decide (gW ps)=false:=fun h=>dF fun h'=>h (h'.2 _ (gM hk))
  have ih:=fun (h:tT ps[k])=>ih (k+1) ⟨hk,fun i hi h3=>by
   rcases Nat.lt_or_ge i k with h4|h4
   ·exact h2 i hi h4
   ·obtain rfl:i=k:=by omega
    exact h⟩ om
  clear hra h2 hP;generalize ps[k]=p at *;have hcat:flat qV p.st++flat qV p.cl=flat qV (p.st++p.cl):=by simp [flat]
  have hlen:0+p.st.length+p.cl.length=(p.st++p.cl).length:=by rw [List.length_append,Nat.zero_add]
  by_cases hL:(p.st++p.cl).length<=30
  ·generalize hLe:p.st++p.cl=L at *
   repeat' first|(refine gp ?_;and_intros<;>first|exact trivial|repeat first|intro(Bk:Nat)|intro h)|(apply J.PB [] (.q 1 <| .q 2 <| .q 3 <| .q 4 <| .q 5 <| .q 7 <| .q 8 <| .q 9 <| .q 10 <| .q 11 <| .e 0 <| .e 6 <| .r 12 <| .q 13 <| .nil);exact Tryz.Pr;decide +kernel;exact List.nil_sublist _)|(apply G.QN;rfl;intro Be)|(apply G.PY;rfl;rfl;rfl;(repeat (first|exact RAt.head|apply RAt.tail));exact cB.old (f:=qV) (l:=p.st) (fun _=>rfl) (fun _=>rfl) hs1;rfl;omega;omega;intro v';exact List.nil_sublist _;intro v';exact mm;intro a2 c2)|(apply G.ap;rfl;rfl;rfl;(repeat (first|exact RAt.head|apply RAt.tail));exact cB.old (f:=qV) (l:=p.cl) (fun _=>rfl) (fun _=>rfl) hs2;exact hcat;omega;omega;rw [hlen];intro v2;refine G.PR (base:=0) (v:=v2) (by exact mm) ?_;intro a4 c4 e4;subst e4)
   by_cases h0:0 < L.length
   ·refine J.ownOpen RAt.head h0 fun g cap _ _ e=>?_
    obtain ⟨rfl,-,rfl⟩:a4=some ⟨g,0,none⟩/\True/\c4=cap:=by cases e;exact ⟨rfl,trivial,rfl⟩
    refine J.loop (c:=_) (0:Nat) (fun s=>L.length-s) (fun s=>[(0,.slice (some ⟨ba,oa,none⟩) ps.length c),(3,.int .i64 k),(4,.slice (some ⟨g,0,none⟩) L.length c4),(5,.int .i64 s)]) (fun s=>[.blk g 25 (flat qV L) (c4*3)]) (fun s=>s<=L.length/\∀ i (h:i < L.length),i < s->aH 40 L[i]) ?_ sbT sbL ?_
    ·exact ⟨Nat.zero_le _,fun i h h2=>absurd h2 (Nat.not_lt_zero _)⟩
    intro j ⟨j1,j2⟩ ihj;by_cases hj:j < L.length
    ·have hf:=fun w'=>qX L[j] 40 w'
     have hget:L[j]?=some L[j]:=gE hj;have hq2:¬ aH 40 L[j]->¬ tT p:=fun h h'=>h (h'.2 _ (by rw [hLe];exact gM hj))
     have ihj:=fun (h:aH 40 L[j])=>ihj (j+1) ⟨hj,fun i hi h3=>by
      rcases Nat.lt_or_ge i j with h4|h4
      ·exact j2 i hi h4
      ·obtain rfl:i=j:=by omega
       exact h⟩ om
     clear j2 ih;generalize L[j]=Q at *;by_cases hq:aH 40 Q
     ·rw [dT hq] at hf
      have ihN:=ihj hq;clear ihj;obtain ⟨u,n,d⟩:=Q;dsimp only [qA] at *;repeat' first|(refine gp ?_;and_intros<;>first|exact trivial|repeat first|intro(Bk:Nat)|intro h)|(apply G.ld;rfl;exact LdV.flat (f:=qV) (fun _=>rfl) (by exact mm) hget rfl;rfl)|(apply G.cV (g:=30);rfl;rfl;exact fun w' _=>hf w')
      exact J.P1 ihN
     ·rw [dF hq] at hf
      rw [hno (hq2 hq)];obtain ⟨u,n,d⟩:=Q;dsimp only [qA] at *;repeat' first|(refine gp ?_;and_intros<;>first|exact trivial|repeat first|intro(Bk:Nat)|intro h)|(apply G.ld;rfl;exact LdV.flat (f:=qV) (fun _=>rfl) (by exact mm) hget rfl;rfl)|(apply G.cV (g:=30);rfl;rfl;exact fun w' _=>hf w')
      all_goals exact aA Tryz.func19 Tryz.results19 rfl
    ·obtain rfl:j=L.length:=by omega
     have ih:=ih ⟨by rw [hLe];exact hL,fun q hq=>by
      rw [hLe] at hq;obtain ⟨i,hi,rfl⟩:=List.mem_iff_getElem.1 hq;exact j2 i hi hi⟩
     clear ihj j2;all_goals (refine go ?_;and_intros<;>first|exact trivial|repeat first|intro(Bk:Nat)|intro h)
     exact J.P1 ih
   ·have ih:=ih ⟨by rw [hLe];exact hL,fun q hq=>by
     rw [hLe] at hq;exact absurd (List.length_pos_of_mem hq) h0⟩
    refine J.loop (c:=_) (0:Nat) (fun s=>L.length-s) (fun s=>[(0,.slice (some ⟨ba,oa,none⟩) ps.length c),(3,.int .i64 k),(4,.slice a4 L.length c4),(5,.int .i64 s)]) (fun s=>[]) (fun s=>s=0) ?_ sbT sbL ?_
    ·rfl
    rintro _ rfl _
    all_goals (refine go ?_;and_intros<;>first|exact trivial|repeat first|intro(Bk:Nat)|intro h)
    exact J.P1 ih
  ·rw [hno fun h=>hL h.1]
   have hL:=Nat.lt_of_not_le hL;repeat' first|(refine gp ?_;and_intros<;>first|exact trivial|repeat first|intro(Bk:Nat)|intro h)|(apply J.PB [] (.q 1 <| .q 2 <| .q 3 <| .q 4 <| .q 5 <| .q 7 <| .q 8 <| .q 9 <| .q 10 <| .q 11 <| .e 0 <| .e 6 <| .r 12 <| .q 13 <| .nil);exact Tryz.Pr;decide +kernel;exact List.nil_sublist _)|(apply G.QN;rfl;intro Be)|(apply G.PY;rfl;rfl;rfl;(repeat (first|exact RAt.head|apply RAt.tail));exact cB.old (f:=qV) (l:=p.st) (fun _=>rfl) (fun _=>rfl) hs1;rfl;omega;omega;intro v';exact List.nil_sublist _;intro v';exact mm;intro a2 c2)|(apply G.ap;rfl;rfl;rfl;(repeat (first|exact RAt.head|apply RAt.tail));exact cB.old (f:=qV) (l:=p.cl) (fun _=>rfl) (fun _=>rfl) hs2;exact hcat;omega;omega;rw [hlen];intro v2;refine G.PR (base:=0) (v:=v2) (by exact mm) ?_;intro a4 c4 e4;subst e4)
   all_goals exact aA Tryz.func19 Tryz.results19 rfl
 ·obtain rfl:k=ps.length:=by omega
  have hall:gW ps:=⟨hm,fun p hp=>by
   obtain ⟨i,hi,rfl⟩:=List.mem_iff_getElem.1 hp;exact h2 i hi hi⟩
  rw [dT hall];clear ih h2;all_goals (refine go ?_;and_intros<;>first|exact trivial|repeat first|intro(Bk:Nat)|intro h)
  all_goals exact aA Tryz.func19 Tryz.results19 rfl
end Go.Proofs.YtjcecdmbfmccoaaGreatDoor
