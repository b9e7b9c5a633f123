/-
  Contracts of the specification of runs: held, among, SameInts, SameHistory.
-/
import Derived.Test.YtcdgibkbbcekhaaGreatDoorRA17
set_option linter.unusedVariables false
set_option linter.unusedSimpArgs false
set_option linter.unusedSectionVars false
namespace Go.Proofs.YtcdgibkbbcekhaaGreatDoor
open Go.RowKit Go.Sl Go.Num
theorem held16_holds (a:Option Addr) (t:List (Int×Int)) (c:Nat) (x:Int) (w:World) (hA:SlAt w a 2 (t.map hoV)) (hl:t.length≤1000000) :
  Calls Tryz.prog 96 #[.slice a t.length c,.int .i64 x] w fun e w'=>e=.returned (.int .i64 (cnt x t))∧Below w.heap.size w w':=by
 generalize hT:cnt x t=T
 refine enterA [(0,.slice a t.length c),(1,.int .i64 x)] Tryz.func96 Tryz.ntmps96 ?_
 all_goals (refine go ?_;and_intros<;>(try exact trivial)<;>repeat (first|refine fun (Bk:Nat)=>?_|intro h))
 refine J.loop (c:=_) (0:Nat) (fun s=>t.length-s) (fun s=>[(0,.slice a t.length c),(1,.int .i64 x),(5,.int .i64 s)]) (fun s=>[]) (fun s=>s≤t.length∧cnt x (t.drop s)=T) ?_ sbT sbL ?_
 ·exact ⟨Nat.zero_le _,hT⟩
 clear hT
 intro k ⟨h1,h2⟩ ih
 by_cases hk:k < t.length
 ·obtain ⟨ba,oa,rfl,hra⟩:=SlAt.all hA (by omega)
  have hr:=hra k hk
  rw [List.drop_eq_getElem_cons hk] at h2
  clear hra
  generalize t[k]=z at *
  obtain ⟨y,n⟩:=z
  dsimp only [hoV] at hr
  rw [cnt] at h2
  by_cases hx:x=y
  ·rw [if_pos hx] at h2
   subst h2
   clear ih
   all_goals (refine go ?_;and_intros<;>(try exact trivial)<;>repeat (first|refine fun (Bk:Nat)=>?_|intro h))
   all_goals refine ret1b Tryz.func96 Tryz.results96 ?_
   all_goals rfl
  ·rw [if_neg hx] at h2
   all_goals (refine go ?_;and_intros<;>(try exact trivial)<;>repeat (first|refine fun (Bk:Nat)=>?_|intro h))
   exact J.fin (ih (k+1) ⟨hk,h2⟩ (by omega))
 ·rw [List.drop_eq_nil_of_le (by omega),cnt] at h2
  subst h2
  clear ih
  all_goals (refine go ?_;and_intros<;>(try exact trivial)<;>repeat (first|refine fun (Bk:Nat)=>?_|intro h))
  all_goals refine ret1b Tryz.func96 Tryz.results96 ?_
  all_goals rfl
theorem among16_holds (a:Option Addr) (l:List Int) (c:Nat) (x:Int) (w:World) (hA:SlAt w a 1 (l.map isV)) (hl:l.length≤1000000) :
  Calls Tryz.prog 95 #[.slice a l.length c,.int .i64 x] w fun e w'=>e=.returned (.int .i64 (nIn x l))∧Below w.heap.size w w':=by
 generalize hT:nIn x l=T
 refine enterA [(0,.slice a l.length c),(1,.int .i64 x)] Tryz.func95 Tryz.ntmps95 ?_
 all_goals (refine go ?_;and_intros<;>(try exact trivial)<;>repeat (first|refine fun (Bk:Nat)=>?_|intro h))
 refine J.loop (c:=_) ((0,0):Nat×Int) (fun s=>l.length-s.1) (fun s=>[(0,.slice a l.length c),(1,.int .i64 x),(5,.int .i64 s.2),(6,.int .i64 s.1)]) (fun s=>[]) (fun s=>s.1≤l.length∧s.2+nIn x (l.drop s.1)=T∧0≤s.2∧s.2≤s.1) ?_ sbT sbL ?_
 ·exact ⟨Nat.zero_le _,by rw [Int.zero_add];exact hT,Int.le_refl _,Int.le_refl _⟩
 clear hT
 intro ⟨k,n⟩ ⟨h1,h2,h3,h4⟩ ih
 dsimp only at h1 h2 h3 h4 ⊢
 by_cases hk:k < l.length
 ·obtain ⟨ba,oa,rfl,hra⟩:=SlAt.all hA (by omega)
  have hr:=hra k hk
  rw [List.drop_eq_getElem_cons hk,nIn] at h2
  clear hra
  generalize l[k]=y at *
  dsimp only [isV] at hr
  by_cases hx:y=x
  ·rw [if_pos hx] at h2
   all_goals (refine go ?_;and_intros<;>(try exact trivial)<;>repeat (first|refine fun (Bk:Nat)=>?_|intro h))
   exact J.fin (ih (k+1,n+1) ⟨hk,by dsimp only;omega,by dsimp only;omega,by dsimp only;omega⟩ (by dsimp only;omega))
  ·rw [if_neg hx,Int.zero_add] at h2
   all_goals (refine go ?_;and_intros<;>(try exact trivial)<;>repeat (first|refine fun (Bk:Nat)=>?_|intro h))
   exact J.fin (ih (k+1,n) ⟨hk,h2,h3,by dsimp only;omega⟩ (by dsimp only;omega))
 ·rw [List.drop_eq_nil_of_le (by omega),nIn,Int.add_zero] at h2
  subst h2
  clear ih
  all_goals (refine go ?_;and_intros<;>(try exact trivial)<;>repeat (first|refine fun (Bk:Nat)=>?_|intro h))
  all_goals refine ret1b Tryz.func95 Tryz.results95 ?_
  all_goals rfl
theorem sameI_holds (a b:Option Addr) (l m:List Int) (c d:Nat) (w:World) (hA:SlAt w a 1 (l.map isV)) (hB:SlAt w b 1 (m.map isV)) (hl:l.length≤1000000∧m.length≤1000000) :
  Calls Tryz.prog 97 #[.slice a l.length c,.slice b m.length d] w fun e w'=>e=.returned (.bool (decide (l=m)))∧Below w.heap.size w w':=by
 refine enterA [(0,.slice a l.length c),(1,.slice b m.length d)] Tryz.func97 Tryz.ntmps97 ?_
 by_cases hn:l.length=m.length
 case neg =>
  rw [decide_eq_false (fun e=>hn (by rw [e]))]
  all_goals (refine go ?_;and_intros<;>(try exact trivial)<;>repeat (first|refine fun (Bk:Nat)=>?_|intro h))
  all_goals refine ret1b Tryz.func97 Tryz.results97 ?_
  all_goals rfl
 all_goals (refine go ?_;and_intros<;>(try exact trivial)<;>repeat (first|refine fun (Bk:Nat)=>?_|intro h))
 refine J.loop (c:=_) (0:Nat) (fun s=>l.length-s) (fun s=>[(0,.slice a l.length c),(1,.slice b m.length d),(5,.int .i64 s)]) (fun s=>[]) (fun s=>s≤l.length∧∀ i (h:i < l.length),i < s→l[i]=m[i]) ?_ sbT sbL ?_
 ·exact ⟨Nat.zero_le _,fun i h h2=>absurd h2 (Nat.not_lt_zero _)⟩
 intro k ⟨h1,h2⟩ ih
 by_cases hk:k < l.length
 ·obtain ⟨ba,oa,rfl,hra⟩:=SlAt.all hA (by omega)
  obtain ⟨bb,ob,rfl,hrb⟩:=SlAt.all hB (by omega)
  have hr:=hra k hk
  have hr2:=hrb k (by omega)
  have hne:l[k]≠m[k]→decide (l=m)=false:=fun h=>decide_eq_false fun e=>h (by subst e;rfl)
  have ih:=fun (h:l[k]=m[k])=>ih (k+1) ⟨hk,fun i hi h3=>by
   rcases Nat.lt_or_ge i k with h4|h4
   ·exact h2 i hi h4
   ·obtain rfl:i=k:=by omega
    exact h⟩ (by omega)
  clear hra hrb h2
  generalize l[k]=x at *
  generalize m[k]=y at *
  dsimp only [isV] at hr hr2
  by_cases hx:x=y
  ·have ihN:=ih hx
   clear ih
   all_goals (refine go ?_;and_intros<;>(try exact trivial)<;>repeat (first|refine fun (Bk:Nat)=>?_|intro h))
   exact J.fin ihN
  ·rw [hne hx]
   clear ih
   all_goals (refine go ?_;and_intros<;>(try exact trivial)<;>repeat (first|refine fun (Bk:Nat)=>?_|intro h))
   all_goals refine ret1b Tryz.func97 Tryz.results97 ?_
   all_goals rfl
 ·rw [decide_eq_true (List.ext_getElem hn fun i h3 h4=>h2 i h3 (by omega))]
  clear ih
  all_goals (refine go ?_;and_intros<;>(try exact trivial)<;>repeat (first|refine fun (Bk:Nat)=>?_|intro h))
  all_goals refine ret1b Tryz.func97 Tryz.results97 ?_
  all_goals rfl
theorem sameH_holds (f g:Int) (a b:Option Addr) (l m:List Int) (c d:Nat) (w:World) (hA:SlAt w a 1 (l.map isV)) (hB:SlAt w b 1 (m.map isV)) (hl:l.length≤1000000∧m.length≤1000000) :
  Calls Tryz.prog 32 #[.agg #[.int .i64 f,.slice a l.length c],.agg #[.int .i64 g,.slice b m.length d]] w fun e w'=>e=.returned (.bool (decide (l=m∧f=g)))∧Below w.heap.size w w':=by
 have hs:=fun w' (hb:Below w.heap.size w w')=>sameI_holds a b l m c d w' (hA.below hb) (hB.below hb) hl
 refine enterA [(0,.agg #[.int .i64 f,.slice a l.length c]),(1,.agg #[.int .i64 g,.slice b m.length d])] Tryz.func32 Tryz.ntmps32 ?_
 by_cases h1:l=m
 ·rw [decide_eq_true h1] at hs
  by_cases h2:f=g
  ·rw [decide_eq_true ⟨h1,h2⟩]
   clear h1
   all_goals (refine go ?_;and_intros<;>(try exact trivial)<;>repeat (first|refine fun (Bk:Nat)=>?_|intro h))
   repeat' ((first|(apply G.cV (g:=97);rfl;rfl;exact fun w' hw'=>hs w' hw'.below))<;>(refine go ?_;and_intros<;>(try exact trivial)<;>repeat (first|refine fun (Bk:Nat)=>?_|intro h)))
   all_goals refine ret1b Tryz.func32 Tryz.results32 ?_
   all_goals rfl
  ·rw [decide_eq_false (fun h=>h2 h.2)]
   clear h1
   all_goals (refine go ?_;and_intros<;>(try exact trivial)<;>repeat (first|refine fun (Bk:Nat)=>?_|intro h))
   repeat' ((first|(apply G.cV (g:=97);rfl;rfl;exact fun w' hw'=>hs w' hw'.below))<;>(refine go ?_;and_intros<;>(try exact trivial)<;>repeat (first|refine fun (Bk:Nat)=>?_|intro h)))
   all_goals refine ret1b Tryz.func32 Tryz.results32 ?_
   all_goals rfl
 ·rw [decide_eq_false h1] at hs
  rw [decide_eq_false (fun h=>h1 h.1)]
  clear h1
  all_goals (refine go ?_;and_intros<;>(try exact trivial)<;>repeat (first|refine fun (Bk:Nat)=>?_|intro h))
  repeat' ((first|(apply G.cV (g:=97);rfl;rfl;exact fun w' hw'=>hs w' hw'.below))<;>(refine go ?_;and_intros<;>(try exact trivial)<;>repeat (first|refine fun (Bk:Nat)=>?_|intro h)))
  all_goals refine ret1b Tryz.func32 Tryz.results32 ?_
  all_goals rfl
end Go.Proofs.YtcdgibkbbcekhaaGreatDoor
/-
 Contract of the specification of runs: Same.
-/
namespace Go.Proofs.YtcdgibkbbcekhaaGreatDoor
open Go.RowKit Go.Sl Go.Num
section
variable {C:Ctx}{st:List (Nat×Value)}{M:List Row}{k:List Item}{q q':Md}{all rest:List Oper}{d:Nat}{ty:TypeId}{pos:String}{after:Array Edge}{gd:Option (Nat×Bool)}
theorem G.ne2 {T:TypeId}{x y:Operand}{yt:TypeId} (a b:Int×Int) (hx:evS st x=some (.agg (hoV a).toArray)) (hy:evS st y=some (.agg (hoV b).toArray)) [hT:TEq2 C.P T] (hs:sideB all st gd d C.N q.calm=some q') (h1:a=b→G q' C all ((d,.bool false)::st) M rest k) (h2:a≠b→G q' C all ((d,.bool true)::st) M rest k) :
  G q C all st M ({ dst:=some d,op:=.binOp .neq T x y yt,type:=ty,pos,after,guard:=gd }::rest) k:=by
 obtain ⟨g1,g2,g3⟩:=sideB_ok hs
 refine G.opDec (p:=¬ a=b) (OpV.of fun ac w hf _ dst pos after guard=>?_) g1 rfl g2 g3 h2 (fun h=>h1 (Decidable.not_not.1 h))
 have e:(binOp .neq T (.agg (hoV a).toArray) (.agg (hoV b).toArray)).run C.P w=.ok (.bool (decide (¬ a=b))) w:=by
  show ((Op.equal T _ _).bind fun b=>Sem.pure (Value.bool (!b))).run C.P w=_
  rw [Sem.run_bind',show (Op.equal T (.agg (hoV a).toArray) (.agg (hoV b).toArray)).run C.P w=_ from hT.h a.1 a.2 b.1 b.2 w,decide_not]
  obtain ⟨a1,a2⟩:=a
  obtain ⟨b1,b2⟩:=b
  simp only [Prod.mk.injEq]
  rfl
 have hg:(eqGuard .neq T x y (.agg (hoV a).toArray) (.agg (hoV b).toArray)).run C.P w=.ok () w:=run_eqGuard_agg w .neq T x y _ _ hT.g
 simp only [execOp,hf.eval hx,hf.eval hy,Sem.run_bind,hg,e,Result.andThen_ok];rfl
end
theorem rb_eq {x y:Rn}:rbare x=rbare y ↔ x.from_=y.from_∧x.to_=y.to_∧x.lo=y.lo∧x.hi=y.hi∧x.tab=y.tab:=by
 obtain ⟨f,t,tab,ad,c,lo,hi⟩:=x
 obtain ⟨f2,t2,tab2,ad2,c2,lo2,hi2⟩:=y
 simp only [rbare,Rn.mk.injEq,true_and]
 exact ⟨fun ⟨a,b,c,d,e⟩=>⟨a,b,d,e,c⟩,fun ⟨a,b,d,e,c⟩=>⟨a,b,c,d,e⟩⟩
set_option maxHeartbeats 4000000 in
theorem same16_holds (a b:Option Addr) (l m:List Rn) (c d:Nat) (w:World) (hA:RunsAt w a l) (hB:RunsAt w b m) (hl:l.length≤1000000∧m.length≤1000000) (hta:∀ r∈l,r.tab.length≤1000000) (htb:∀ r∈m,r.tab.length≤1000000) :
  Calls Tryz.prog 29 #[.slice a l.length c,.slice b m.length d] w fun e w'=>e=.returned (.bool (decide (l.map rbare=m.map rbare)))∧Below w.heap.size w w':=by
 refine enterA [(0,.slice a l.length c),(1,.slice b m.length d)] Tryz.func29 Tryz.ntmps29 ?_
 by_cases hn:l.length=m.length
 case neg =>
  rw [decide_eq_false (fun e=>hn (by have:=congrArg List.length e;rwa [List.length_map,List.length_map] at this))]
  all_goals (refine go ?_;and_intros<;>(try exact trivial)<;>repeat (first|refine fun (Bk:Nat)=>?_|intro h))
  all_goals refine ret1b Tryz.func29 Tryz.results29 ?_
  all_goals rfl
 all_goals (refine go ?_;and_intros<;>(try exact trivial)<;>repeat (first|refine fun (Bk:Nat)=>?_|intro h))
 refine J.loop (c:=_) (0:Nat) (fun s=>l.length-s) (fun s=>[(0,.slice a l.length c),(1,.slice b m.length d),(5,.int .i64 s)]) (fun s=>[]) (fun s=>s≤l.length∧∀ i (h:i < l.length),i < s→rbare l[i]=rbare m[i]) ?_ sbT sbL ?_
 ·exact ⟨Nat.zero_le _,fun i h h2=>absurd h2 (Nat.not_lt_zero _)⟩
 intro k ⟨h1,h2⟩ ih
 by_cases hk:k < l.length
 ·obtain ⟨ba,oa,rfl,hra⟩:=SlAt.all hA.1 (by omega)
  obtain ⟨bb,ob,rfl,hrb⟩:=SlAt.all hB.1 (by omega)
  have hk2:k < m.length:=by omega
  have hr:=hra k hk
  have hr2:=hrb k hk2
  have ht:=hA.2 _ (List.getElem_mem hk)
  have ht2:=hB.2 _ (List.getElem_mem hk2)
  have hlt:=hta _ (List.getElem_mem hk)
  have hlt2:=htb _ (List.getElem_mem hk2)
  have hne:rbare l[k]≠rbare m[k]→decide (l.map rbare=m.map rbare)=false:=fun h=>decide_eq_false fun e=>h (by
   have h5:(l.map rbare)[k]'(by rw [List.length_map];exact hk)=(m.map rbare)[k]'(by rw [List.length_map];exact hk2):=by simp only [e]
   rwa [List.getElem_map,List.getElem_map] at h5)
  have ih:=fun (h:rbare l[k]=rbare m[k])=>ih (k+1) ⟨hk,fun i hi h3=>by
   rcases Nat.lt_or_ge i k with h4|h4
   ·exact h2 i hi h4
   ·obtain rfl:i=k:=by omega
    exact h⟩ (by omega)
  clear hra hrb h2 hta htb hA hB
  generalize decide (l.map rbare=m.map rbare)=T at *
  generalize l[k]=x at *
  generalize m[k]=y at *
  rw [rb_eq] at ih
  rw [Ne,rb_eq] at hne
  obtain ⟨f1,t1,tb1,ad1,cp1,lo1,hi1⟩:=x
  obtain ⟨f2,t2,tb2,ad2,cp2,lo2,hi2⟩:=y
  rw [TabAt] at ht ht2
  dsimp only [rnV] at *
  by_cases e1:f1=f2
  case neg =>
   rw [hne fun h=>e1 h.1]
   clear ih
   all_goals (refine go ?_;and_intros<;>(try exact trivial)<;>repeat (first|refine fun (Bk:Nat)=>?_|intro h))
   repeat' ((first|(apply G.ix (i:=k);rfl;rfl;exact rfl;exact hk;rfl)|(apply G.ix (i:=k);rfl;rfl;exact rfl;exact hk2;rfl))<;>(refine go ?_;and_intros<;>(try exact trivial)<;>repeat (first|refine fun (Bk:Nat)=>?_|intro h)))
   all_goals refine ret1b Tryz.func29 Tryz.results29 ?_
   all_goals rfl
  by_cases e2:t1=t2
  case neg =>
   rw [hne fun h=>e2 h.2.1]
   clear ih
   all_goals (refine go ?_;and_intros<;>(try exact trivial)<;>repeat (first|refine fun (Bk:Nat)=>?_|intro h))
   repeat' ((first|(apply G.ix (i:=k);rfl;rfl;exact rfl;exact hk;rfl)|(apply G.ix (i:=k);rfl;rfl;exact rfl;exact hk2;rfl))<;>(refine go ?_;and_intros<;>(try exact trivial)<;>repeat (first|refine fun (Bk:Nat)=>?_|intro h)))
   all_goals refine ret1b Tryz.func29 Tryz.results29 ?_
   all_goals rfl
  by_cases e3:lo1=lo2
  case neg =>
   rw [hne fun h=>e3 h.2.2.1]
   clear ih
   all_goals (refine go ?_;and_intros<;>(try exact trivial)<;>repeat (first|refine fun (Bk:Nat)=>?_|intro h))
   repeat' ((first|(apply G.ix (i:=k);rfl;rfl;exact rfl;exact hk;rfl)|(apply G.ix (i:=k);rfl;rfl;exact rfl;exact hk2;rfl))<;>(refine go ?_;and_intros<;>(try exact trivial)<;>repeat (first|refine fun (Bk:Nat)=>?_|intro h)))
   all_goals refine ret1b Tryz.func29 Tryz.results29 ?_
   all_goals rfl
  by_cases e4:hi1=hi2
  case neg =>
   rw [hne fun h=>e4 h.2.2.2.1]
   clear ih
   all_goals (refine go ?_;and_intros<;>(try exact trivial)<;>repeat (first|refine fun (Bk:Nat)=>?_|intro h))
   repeat' ((first|(apply G.ix (i:=k);rfl;rfl;exact rfl;exact hk;rfl)|(apply G.ix (i:=k);rfl;rfl;exact rfl;exact hk2;rfl))<;>(refine go ?_;and_intros<;>(try exact trivial)<;>repeat (first|refine fun (Bk:Nat)=>?_|intro h)))
   all_goals refine ret1b Tryz.func29 Tryz.results29 ?_
   all_goals rfl
  by_cases e5:tb1.length=tb2.length
  case neg =>
   rw [hne fun h=>e5 (by rw [h.2.2.2.2])]
   clear ih
   all_goals (refine go ?_;and_intros<;>(try exact trivial)<;>repeat (first|refine fun (Bk:Nat)=>?_|intro h))
   repeat' ((first|(apply G.ix (i:=k);rfl;rfl;exact rfl;exact hk;rfl)|(apply G.ix (i:=k);rfl;rfl;exact rfl;exact hk2;rfl))<;>(refine go ?_;and_intros<;>(try exact trivial)<;>repeat (first|refine fun (Bk:Nat)=>?_|intro h)))
   all_goals refine ret1b Tryz.func29 Tryz.results29 ?_
   all_goals rfl
  have ih:=fun h=>ih ⟨e1,e2,e3,e4,h⟩
  have hne:=fun (h:tb1≠tb2)=>hne fun h'=>h h'.2.2.2.2
  all_goals (refine go ?_;and_intros<;>(try exact trivial)<;>repeat (first|refine fun (Bk:Nat)=>?_|intro h))
  repeat' ((first|(apply G.ix (i:=k);rfl;rfl;exact rfl;exact hk;rfl)|(apply G.ix (i:=k);rfl;rfl;exact rfl;exact hk2;rfl))<;>(refine go ?_;and_intros<;>(try exact trivial)<;>repeat (first|refine fun (Bk:Nat)=>?_|intro h)))
  refine J.loop (c:=_) (0:Nat) (fun s=>tb1.length-s) (fun s=>[(0,.slice (some ⟨ba,oa,none⟩) l.length c),(1,.slice (some ⟨bb,ob,none⟩) m.length d),(5,.int .i64 k),(6,.int .i64 s)]) (fun s=>[]) (fun s=>s≤tb1.length∧∀ i (h:i < tb1.length),i < s→tb1[i]=tb2[i]) ?_ sbT sbL ?_
  ·exact ⟨Nat.zero_le _,fun i h h2=>absurd h2 (Nat.not_lt_zero _)⟩
  intro j ⟨j1,j2⟩ ih2
  by_cases hj:j < tb1.length
  ·obtain ⟨b1,o1,rfl,q1⟩:=SlAt.all ht (by omega)
   obtain ⟨b2,o2,rfl,q2⟩:=SlAt.all ht2 (by omega)
   have hj2:j < tb2.length:=by omega
   have q1:=q1 j hj
   have q2:=q2 j hj2
   have ne2:=fun (h:tb1[j]≠tb2[j])=>hne fun e=>h (by subst e;rfl)
   have ih3:=fun (h:tb1[j]=tb2[j])=>ih2 (j+1) ⟨hj,fun i hi h3=>by
    rcases Nat.lt_or_ge i j with h4|h4
    ·exact j2 i hi h4
    ·obtain rfl:i=j:=by omega
     exact h⟩ (by omega)
   clear ih ih2 hne j2
   generalize tb1[j]=z1 at *
   generalize tb2[j]=z2 at *
   by_cases hz:z1=z2
   ·have ih4:=ih3 hz
    clear ih3 ne2
    all_goals (refine go ?_;and_intros<;>(try exact trivial)<;>repeat (first|refine fun (Bk:Nat)=>?_|intro h))
    repeat' ((first|(apply G.ix (i:=k);rfl;rfl;exact rfl;exact hk;rfl)|(apply G.ix (i:=k);rfl;rfl;exact rfl;exact hk2;rfl)|(apply G.ix (i:=j);rfl;rfl;exact rfl;exact hj;rfl)|(apply G.ix (i:=j);rfl;rfl;exact rfl;exact hj2;rfl)|(apply G.ne2 z1 z2;rfl;rfl;rfl;all_goals intro h;all_goals try (exact absurd hz h)))<;>(refine go ?_;and_intros<;>(try exact trivial)<;>repeat (first|refine fun (Bk:Nat)=>?_|intro h)))
    exact J.fin ih4
   ·rw [ne2 hz]
    clear ih3 ne2
    all_goals (refine go ?_;and_intros<;>(try exact trivial)<;>repeat (first|refine fun (Bk:Nat)=>?_|intro h))
    repeat' ((first|(apply G.ix (i:=k);rfl;rfl;exact rfl;exact hk;rfl)|(apply G.ix (i:=k);rfl;rfl;exact rfl;exact hk2;rfl)|(apply G.ix (i:=j);rfl;rfl;exact rfl;exact hj;rfl)|(apply G.ix (i:=j);rfl;rfl;exact rfl;exact hj2;rfl)|(apply G.ne2 z1 z2;rfl;rfl;rfl;all_goals intro h;all_goals try (exact absurd h hz)))<;>(refine go ?_;and_intros<;>(try exact trivial)<;>repeat (first|refine fun (Bk:Nat)=>?_|intro h)))
    all_goals refine ret1b Tryz.func29 Tryz.results29 ?_
    all_goals rfl
  ·have ih:=ih (List.ext_getElem e5 fun i h3 h4=>j2 i h3 (by omega))
   clear ih2 hne j2
   all_goals (refine go ?_;and_intros<;>(try exact trivial)<;>repeat (first|refine fun (Bk:Nat)=>?_|intro h))
   repeat' ((first|(apply G.ix (i:=k);rfl;rfl;exact rfl;exact hk;rfl)|(apply G.ix (i:=k);rfl;rfl;exact rfl;exact hk2;rfl))<;>(refine go ?_;and_intros<;>(try exact trivial)<;>repeat (first|refine fun (Bk:Nat)=>?_|intro h)))
   exact J.fin ih
 ·rw [decide_eq_true (List.ext_getElem (by rw [List.length_map,List.length_map];exact hn) fun i h3 h4=>by
   rw [List.length_map] at h3
   rw [List.getElem_map,List.getElem_map]
   exact h2 i h3 (by omega))]
  clear ih
  all_goals (refine go ?_;and_intros<;>(try exact trivial)<;>repeat (first|refine fun (Bk:Nat)=>?_|intro h))
  all_goals refine ret1b Tryz.func29 Tryz.results29 ?_
  all_goals rfl
end Go.Proofs.YtcdgibkbbcekhaaGreatDoor
/-
 Contract: run.Count.
-/
namespace Go.Proofs.YtcdgibkbbcekhaaGreatDoor
open Go.RowKit Go.Sl Go.Num
theorem G.cF0 {C:Ctx}{st:List (Nat×Value)}{M:List Row}{k:List Item}{q q':Md}{all rest:List Oper}{d:Nat}{ty:TypeId}{pos:String}{after:Array Edge}{gd:Option (Nat×Bool)}{g:FuncId}{f:Operand}{args:List Operand}{vs:List Value}{at_:Array TypeId}{v:Value} (hf:evS st f=some (.func (.func g) #[] #[])) (ha:evL st args=some vs) (hs:sideB all st gd d C.N q.calm=some q') [hF:Fun C.P g]
  (hc:∀ w,Sat C.w0 (q.cls M) w→Calls C.P g vs.toArray w fun e w'=>e=.returned v∧Below w.heap.size w w') (h:G q' C all ((d,v)::st) M rest k) :
  G q C all st M ({ dst:=some d,op:=.call { callee:=.value f,args:=args.toArray,argTypes:=at_ },type:=ty,pos,after,guard:=gd }::rest) k:=by
 obtain ⟨g1,g2,g3⟩:=sideB_ok hs
 exact G.callVf hf ha g1 g2 g3 (fun w hw=>by rw [Array.append_empty];exact hc w hw) h
def cntE (l:List Rn):List UInt8×Int:=if runsErr l≠0 then ([],runsErr l) else if l.length≠0∧400 < (lastD l).to_-(headD' l).from_ then ([],2) else (nB (cntL l),0)
theorem number_fn (n:Nat) (w:World) (h:n < 9223372036854775808):Calls Tryz.prog 83 #[.int .i64 n] w fun e w'=>e=.returned (.string (bs (nB n)))∧Below w.heap.size w w':=by
 have hi:=fun w'=>natInt_holds n w' h
 generalize nB n=B at *
 refine enterA [(0,.int .i64 n)] Tryz.func83 Tryz.ntmps83 ?_
 all_goals (refine go ?_;and_intros<;>(try exact trivial)<;>repeat (first|refine fun (Bk:Nat)=>?_|intro h))
 repeat' ((first|(apply G.cV (g:=84);rfl;rfl;exact fun w' _=>hi w'))<;>(refine go ?_;and_intros<;>(try exact trivial)<;>repeat (first|refine fun (Bk:Nat)=>?_|intro h)))
 all_goals refine ret1b Tryz.func83 Tryz.results83 ?_
 all_goals rfl
theorem mul_v {x y:Nat} (hx:(nB x).length≤536870000) (hy:(nB y).length≤536870000) (w:World):Calls Tryz.prog 43 #[.string (bs (nB x)),.string (bs (nB y))] w fun e w'=>e=.returned (.string (bs (nB (x*y))))∧Below w.heap.size w w':=by
 have h:=natMul_holds (nB x) (nB y) w (by omega) (by omega)
 rwa [vB_nB,vB_nB] at h
theorem div_v {x y:Nat} (hx:(nB x).length≤536870000) (hy:(nB y).length≤536870000) (h0:y≠0) (w:World):Calls Tryz.prog 85 #[.string (bs (nB x)),.string (bs (nB y))] w fun e w'=>e=.returned (.tuple #[.string (bs (nB (x / y))),.string (bs (nB (x % y))),.int .i64 0])∧Below w.heap.size w w':=by
 have h:=natDivMod_holds (nB x) (nB y) w (by omega) (by omega) (by rw [vB_nB];exact h0)
 rwa [vB_nB,vB_nB] at h
theorem nB_small {n:Nat} (h:n < 65536):(nB n).length≤2:=nB_bound h
def tks:List Rn→Nat
 | []=>0
 | r::t=>(r.to_-r.from_).toNat+tks t
theorem tks_cn:∀ {l:List Rn}{f t:Int},Cn f l t→(∀ r∈l,OkR r)→(tks l:Int)=t-f
 | [],f,t,h,_=>by rw [Cn] at h;rw [tks];omega
 | r::l,f,t,h,ho=>by
  have h1:=(ho r (List.mem_cons_self ..)).rng
  have h2:=tks_cn h.2 fun x hx=>ho x (List.mem_cons_of_mem _ hx)
  have:=h.1
  rw [tks];omega
theorem pow_step (v g n:Nat):v*g ^ (n+1)=v*g*g ^ n:=by rw [Nat.pow_succ,Nat.mul_comm (g ^ n),← Nat.mul_assoc]
theorem chs_mul (v m j:Nat):v*chs m j*(m+j+1) / (j+1)=v*chs m (j+1):=by
 rw [Nat.mul_assoc,chs_step,← Nat.mul_assoc,Nat.mul_div_cancel _ (Nat.succ_pos j)]
set_option maxHeartbeats 4000000 in
theorem vCount_holds (a:Option Addr) (l:List Rn) (c:Nat) (w:World) (hA:RunsAt w a l) (hta:∀ r∈l,r.tab.length≤64) (hl:l.length≤2000) :
  Calls Tryz.prog 23 #[.slice a l.length c] w fun e w'=>e=.returned (.tuple #[.string (bs (cntE l).1),.int .i64 (cntE l).2])∧Below w.heap.size w w':=by
 have hck:=fun w' (hb:Below w.heap.size w w')=>vRuns_holds a l c w' (hA.below hb) hta
 by_cases hE:runsErr l=0
 case neg =>
  have hJ:cntE l=([],runsErr l):=by rw [cntE,if_pos hE]
  rw [hJ]
  generalize runsErr l=E at *
  refine enterA [(0,.slice a l.length c)] Tryz.func23 Tryz.ntmps23 ?_
  all_goals (refine go ?_;and_intros<;>(try exact trivial)<;>repeat (first|refine fun (Bk:Nat)=>?_|intro h))
  repeat' ((first|(refine G.cvb hck ?_))<;>(refine go ?_;and_intros<;>(try exact trivial)<;>repeat (first|refine fun (Bk:Nat)=>?_|intro h)))
  all_goals refine ret2b Tryz.func23 Tryz.results23 ?_
  all_goals rfl
 rw [hE] at hck
 obtain ⟨ho,_,hc3⟩:=runs_ok hE
 have hn1:=fun w'=>number_fn 1 w' (by decide)
 by_cases hbig:l.length≠0∧400 < (lastD l).to_-(headD' l).from_
 ·have hJ:cntE l=([],2):=by rw [cntE,if_neg (by rw [hE];decide),if_pos hbig]
  rw [hJ]
  obtain ⟨ba,oa,rfl,hra⟩:=SlAt.all hA.1 (by omega)
  have r0:=hra 0 (by omega)
  have r1:=hra (l.length-1) (by omega)
  have hz:(l.length:Int)-1=((l.length-1:Nat):Int):=by omega
  have i1:=(ho _ (List.getElem_mem (l:=l) (n:=0) (by omega))).rng
  have i2:=(ho _ (List.getElem_mem (l:=l) (n:=l.length-1) (by omega))).rng
  obtain ⟨b1,b2⟩:=hbig
  rw [lastD_at (by omega),headD_at (by omega)] at b2
  clear hra hc3 ho hta hn1
  generalize l[0]=x1 at *
  generalize l[l.length-1]=x2 at *
  obtain ⟨f1,t1,tb1,ad1,cp1,lo1,hi1⟩:=x1
  obtain ⟨f2,t2,tb2,ad2,cp2,lo2,hi2⟩:=x2
  dsimp only [rnV] at *
  refine enterA [(0,.slice (some ⟨ba,oa,none⟩) l.length c)] Tryz.func23 Tryz.ntmps23 ?_
  all_goals (refine go ?_;and_intros<;>(try exact trivial)<;>repeat (first|refine fun (Bk:Nat)=>?_|intro h))
  repeat' ((first|(refine G.cvb hck ?_)|(apply G.ix (i:=l.length-1);rfl;rfl;exact hz;omega;rfl)|(apply G.ix (i:=0);rfl;rfl;exact rfl;omega;rfl))<;>(refine go ?_;and_intros<;>(try exact trivial)<;>repeat (first|refine fun (Bk:Nat)=>?_|intro h)))
  all_goals refine ret2b Tryz.func23 Tryz.results23 ?_
  all_goals rfl
 have hJ:cntE l=(nB (cntL l),0):=by rw [cntE,if_neg (by rw [hE];decide),if_neg hbig]
 rw [hJ]
 have htk:tks l≤400:=by
  by_cases h0:l=[]
  ·subst h0;exact Nat.zero_le _
  ·have:=tks_cn (hc3 h0).1 ho
   have:¬ 400 < (lastD l).to_-(headD' l).from_:=fun h=>hbig ⟨fun e=>h0 (List.length_eq_zero_iff.1 e),h⟩
   omega
 clear hJ hbig
 generalize hT:cntL l=T
 rcases Nat.eq_zero_or_pos l.length with h0|h0
 ·obtain rfl:=List.length_eq_zero_iff.1 h0
  rw [cntL] at hT
  subst hT
  refine enterA [(0,.slice a 0 c)] Tryz.func23 Tryz.ntmps23 ?_
  all_goals (refine go ?_;and_intros<;>(try exact trivial)<;>repeat (first|refine fun (Bk:Nat)=>?_|intro h))
  repeat' ((first|(refine G.cvb hck ?_)|(apply G.cF0 (g:=83);rfl;rfl;rfl;exact fun w' _=>hn1 w'))<;>(refine go ?_;and_intros<;>(try exact trivial)<;>repeat (first|refine fun (Bk:Nat)=>?_|intro h)))
  refine J.loop (c:=_) (0:Nat) (fun s=>0) (fun s=>[(6,.func (.func 83) #[] #[]),(7,.string (bs (nB 1))),(39,.slice a 0 c),(40,.int .i64 0),(41,.int .i64 0)]) (fun s=>[]) (fun s=>True) ?_ sbT sbL ?_
  ·exact trivial
  intro _ _ _
  all_goals (refine go ?_;and_intros<;>(try exact trivial)<;>repeat (first|refine fun (Bk:Nat)=>?_|intro h))
  all_goals refine ret2b Tryz.func23 Tryz.results23 ?_
  all_goals rfl
 obtain ⟨ba,oa,rfl,hra⟩:=SlAt.all hA.1 (by omega)
 have r0:=hra 0 (by omega)
 have r1:=hra (l.length-1) (by omega)
 have hz:(l.length:Int)-1=((l.length-1:Nat):Int):=by omega
 have i1:=(ho _ (List.getElem_mem (l:=l) (n:=0) (by omega))).rng
 have i2:=(ho _ (List.getElem_mem (l:=l) (n:=l.length-1) (by omega))).rng
 have hcn:=hc3 (fun e=>by rw [e] at h0;exact absurd h0 (Nat.lt_irrefl _))
 have htk2:=tks_cn hcn.1 ho
 rw [lastD_at h0,headD_at h0] at hcn htk2
 clear hc3
 refine enterA [(0,.slice (some ⟨ba,oa,none⟩) l.length c)] Tryz.func23 Tryz.ntmps23 ?_
 have r0':=r0
 have r1':=r1
 rw [show rnV l[0]=[.int .i64 l[0].from_,.int .i64 l[0].to_,.slice l[0].adr l[0].tab.length l[0].cap,.int .i64 l[0].lo,.int .i64 l[0].hi] from rfl] at r0'
 rw [show rnV l[l.length-1]=[.int .i64 (l[l.length-1]).from_,.int .i64 (l[l.length-1]).to_,.slice (l[l.length-1]).adr (l[l.length-1]).tab.length (l[l.length-1]).cap,.int .i64 (l[l.length-1]).lo,.int .i64 (l[l.length-1]).hi] from rfl] at r1'
 all_goals (refine go ?_;and_intros<;>(try exact trivial)<;>repeat (first|refine fun (Bk:Nat)=>?_|intro h))
 repeat' ((first|(refine G.cvb hck ?_)|(apply G.ix (i:=l.length-1);rfl;rfl;exact hz;omega;rfl)|(apply G.ix (i:=0);rfl;rfl;exact rfl;omega;rfl)|(apply G.cF0 (g:=83);rfl;rfl;rfl;exact fun w' _=>hn1 w'))<;>(refine go ?_;and_intros<;>(try exact trivial)<;>repeat (first|refine fun (Bk:Nat)=>?_|intro h)))
 clear hck r0 r1 r0' r1' i1 i2 hcn htk2 hn1
 refine J.loop (c:=_) ((0,1):Nat×Nat) (fun s=>l.length-s.1) (fun s=>[(6,.func (.func 83) #[] #[]),(39,.slice (some ⟨ba,oa,none⟩) l.length c),(40,.int .i64 l.length),(7,.string (bs (nB s.2))),(41,.int .i64 s.1)]) (fun s=>[]) (fun s=>s.1≤l.length∧s.2*cntL (l.drop s.1)=T∧(nB s.2).length+2*tks (l.drop s.1)≤802) ?_ sbT sbL ?_
 ·exact ⟨Nat.zero_le _,by dsimp only;rw [Nat.one_mul];exact hT,by have:=nB_small (n:=1) (by decide);show (nB 1).length+2*tks (l.drop 0)≤802;rw [List.drop_zero];omega⟩
 clear hT htk
 intro ⟨k,v⟩ ⟨h1,h2,h3⟩ ih
 dsimp only at h1 h2 h3 ⊢
 by_cases hk:k < l.length
 ·have hr:=hra k hk
  have hmem:=List.getElem_mem hk
  have hok:=ho _ hmem
  have htb:=hA.2 _ hmem
  have hlk:=hta _ hmem
  have hg:=fun w'=>gap_holds l[k] w'
  rw [List.drop_eq_getElem_cons hk,cntL] at h2
  rw [List.drop_eq_getElem_cons hk,tks] at h3
  have ihN:=fun v' e1 e2=>ih (k+1,v') ⟨hk,e1,e2⟩ (by dsimp only;omega)
  dsimp only at ihN
  clear ih hra hA ho hta
  generalize cntL (l.drop (k+1))=R at *
  generalize tks (l.drop (k+1))=K at *
  generalize l[k]=x at *
  have hrg:=hok.rng
  by_cases hq:x.tab.length=0
  ·have hgp:=hok.gap hq
   rw [cntR,if_pos hq] at h2
   rw [decide_eq_true hq] at hg
   obtain ⟨f,t,tab,adr,cap,lo,hi⟩:=x
   dsimp only [rnV,rnA,TabAt] at *
   obtain ⟨n,rfl⟩:∃ n:Nat,t=f+n:=⟨(t-f).toNat,by omega⟩
   obtain ⟨g,hgg⟩:∃ g:Nat,hi-lo+1=(g:Int):=⟨(hi-lo+1).toNat,by omega⟩
   rw [hgg,Int.toNat_natCast,show (f+(n:Int)-f).toNat=n by omega] at h2
   rw [show (f+(n:Int)-f).toNat=n by omega] at h3
   have hnx:f+(n:Int)-f=(n:Int):=by omega
   have hgs:=nB_small (n:=g) (by omega)
   have hnf:=fun w'=>number_fn g w' (by omega)
   all_goals (refine go ?_;and_intros<;>(try exact trivial)<;>repeat (first|refine fun (Bk:Nat)=>?_|intro h))
   repeat' ((first|(apply G.cV (g:=81);rfl;rfl;exact fun w' _=>hg w'))<;>(refine go ?_;and_intros<;>(try exact trivial)<;>repeat (first|refine fun (Bk:Nat)=>?_|intro h)))
   rw [hnx]
   refine J.loop (c:=_) ((0,v):Nat×Nat) (fun s=>n-s.1) (fun s=>[(6,.func (.func 83) #[] #[]),(39,.slice (some ⟨ba,oa,none⟩) l.length c),(40,.int .i64 l.length),(7,.string (bs (nB s.2))),(9,.pointer (some ⟨_,0,none⟩)),(41,.int .i64 k),(51,.int .i64 n),(52,.int .i64 s.1)]) (fun s=>[.blk _ 90 [.int .i64 f,.int .i64 (f+n),.slice adr tab.length cap,.int .i64 lo,.int .i64 hi] 5]) (fun s=>s.1≤n∧s.2*g ^ (n-s.1)*R=T∧(nB s.2).length+2*(n-s.1)+2*K≤802) ?_ sbT sbL ?_
   ·exact ⟨Nat.zero_le _,by dsimp only;rw [Nat.sub_zero,Nat.mul_assoc];exact h2,by dsimp only;omega⟩
   clear h2 h3
   intro ⟨j,v⟩ ⟨j1,j2,j3⟩ ih2
   dsimp only at j1 j2 j3 ⊢
   by_cases hj:j < n
   ·have hml:=fun w'=>mul_v (x:=v) (y:=g) (by omega) (by omega) w'
    have hlen:=nB_mul (Nat.le_refl (nB v).length) hgs
    rw [show n-j=(n-(j+1))+1 by omega,pow_step] at j2
    have ih3:=ih2 (j+1,v*g) ⟨hj,j2,by dsimp only;omega⟩ (by dsimp only;omega)
    clear ih2 ihN hlen
    dsimp only at ih3
    rw [← hgg] at hnf
    generalize nB (v*g)=B2 at *
    generalize nB v=B1 at *
    generalize nB g=B3 at *
    all_goals (refine go ?_;and_intros<;>(try exact trivial)<;>repeat (first|refine fun (Bk:Nat)=>?_|intro h))
    repeat' ((first|(apply G.cF0 (g:=83);rfl;rfl;rfl;exact fun w' _=>hnf w')|(apply G.cV (g:=43);rfl;rfl;exact fun w' _=>hml w'))<;>(refine go ?_;and_intros<;>(try exact trivial)<;>repeat (first|refine fun (Bk:Nat)=>?_|intro h)))
    exact J.fin ih3
   ·obtain rfl:j=n:=by omega
    rw [Nat.sub_self,Nat.pow_zero,Nat.mul_one] at j2
    have ih3:=ihN v j2 (by omega)
    clear ih2 ihN
    all_goals (refine go ?_;and_intros<;>(try exact trivial)<;>repeat (first|refine fun (Bk:Nat)=>?_|intro h))
    refine J.loop (c:=_) (0:Nat) (fun s=>0) (fun s=>[(6,.func (.func 83) #[] #[]),(39,.slice (some ⟨ba,oa,none⟩) l.length c),(40,.int .i64 l.length),(7,.string (bs (nB v))),(10,.int .i64 0),(41,.int .i64 k),(66,.slice adr tab.length cap),(67,.int .i64 tab.length),(68,.int .i64 0)]) (fun s=>[]) (fun s=>True) ?_ sbT sbL ?_
    ·exact trivial
    intro _ _ _
    all_goals (refine go ?_;and_intros<;>(try exact trivial)<;>repeat (first|refine fun (Bk:Nat)=>?_|intro h))
    exact J.fin ih3
  ·obtain ⟨u1,_,u3,_,_⟩:=oneE_tab hok.2 hq
   rw [cntR,if_neg hq] at h2
   rw [decide_eq_false hq] at hg
   obtain ⟨f,t,tab,adr,cap,lo,hi⟩:=x
   dsimp only [rnV,rnA,TabAt] at *
   obtain ⟨n,rfl⟩:∃ n:Nat,t=f+n:=⟨(t-f).toNat,by omega⟩
   rw [show (f+(n:Int)-f).toNat=n by omega] at h3
   rw [show f+(n:Int)-f=(n:Int) by omega] at u3
   all_goals (refine go ?_;and_intros<;>(try exact trivial)<;>repeat (first|refine fun (Bk:Nat)=>?_|intro h))
   repeat' ((first|(apply G.cV (g:=81);rfl;rfl;exact fun w' _=>hg w'))<;>(refine go ?_;and_intros<;>(try exact trivial)<;>repeat (first|refine fun (Bk:Nat)=>?_|intro h)))
   clear hr hg hrg hok
   refine J.loop (c:=_) ((0,0,v):Nat×Nat×Nat) (fun s=>tab.length-s.1) (fun s=>[(6,.func (.func 83) #[] #[]),(39,.slice (some ⟨ba,oa,none⟩) l.length c),(40,.int .i64 l.length),(7,.string (bs (nB s.2.2))),(10,.int .i64 s.2.1),(41,.int .i64 k),(66,.slice adr tab.length cap),(67,.int .i64 tab.length),(68,.int .i64 s.1)]) (fun s=>[]) (fun s=>s.1≤tab.length∧s.2.2*mnl s.2.1 (tab.drop s.1)*R=T∧(s.2.1:Int)+sumT (tab.drop s.1)=n∧(nB s.2.2).length+2*(n-s.2.1)+2*K≤802∧s.2.1≤n) ?_ sbT sbL ?_
   ·exact ⟨Nat.zero_le _,by dsimp only;rw [Nat.mul_assoc];exact h2,by dsimp only;rw [Int.natCast_zero,Int.zero_add];exact u3,by dsimp only;omega,Nat.zero_le _⟩
   have hn4:n≤401:=by omega
   clear h2 h3 u3
   intro ⟨i,m,v⟩ ⟨j1,j2,j3,j4,j5⟩ ih2
   dsimp only at j1 j2 j3 j4 j5 ⊢
   by_cases hi2:i < tab.length
   ·obtain ⟨bt,ot,rfl,hrt⟩:=SlAt.all htb (by omega)
    have hri:=hrt i hi2
    have hci:=(u1 _ (List.getElem_mem hi2)).2
    rw [List.drop_eq_getElem_cons hi2] at j2 j3
    have hsn:=sumT_nn _ fun x hx=>(u1 x (List.mem_of_mem_drop (i:=i+1) hx)).2.1
    rw [sumT] at j3
    have ih3:=fun m' v' e1 e2 e3 e4=>ih2 (i+1,m',v') ⟨hi2,e1,e2,e3,e4⟩ (by dsimp only;omega)
    dsimp only at ih3
    clear hrt ih2 u1 ihN
    generalize tab.drop (i+1)=D at *
    generalize tab[i]=z at *
    obtain ⟨zs,zc⟩:=z
    dsimp only [hoV] at *
    obtain ⟨cc,rfl⟩:∃ cc:Nat,zc=cc:=⟨zc.toNat,by omega⟩
    rw [mnl,Int.toNat_natCast,← Nat.mul_assoc] at j2
    all_goals (refine go ?_;and_intros<;>(try exact trivial)<;>repeat (first|refine fun (Bk:Nat)=>?_|intro h))
    refine J.loop (c:=_) ((0,v):Nat×Nat) (fun s=>cc-s.1) (fun s=>[(6,.func (.func 83) #[] #[]),(39,.slice (some ⟨ba,oa,none⟩) l.length c),(40,.int .i64 l.length),(7,.string (bs (nB s.2))),(10,.int .i64 ((m+s.1:Nat):Int)),(12,.pointer (some ⟨_,0,none⟩)),(13,.int .i64 ((s.1:Int)+1)),(41,.int .i64 k),(66,.slice (some ⟨bt,ot,none⟩) tab.length cap),(67,.int .i64 tab.length),(68,.int .i64 i)]) (fun s=>[.blk _ 92 [.int .i64 zs,.int .i64 cc] 2]) (fun s=>s.1≤cc∧s.2=v*chs m s.1∧(nB s.2).length+2*(n-(m+s.1))+2*K≤802) ?_ sbT sbL ?_
    ·exact ⟨Nat.zero_le _,by dsimp only;rw [chs_zero,Nat.mul_one],j4⟩
    clear j4
    intro ⟨j,v2⟩ ⟨q1,q2,q3⟩ ih4
    dsimp only at q1 q2 q3 ⊢
    by_cases hj:j < cc
    ·have hsm:=nB_small (n:=m+j+1) (by omega)
     have hs2:=nB_small (n:=j+1) (by omega)
     have hlen:=nB_mul (Nat.le_refl (nB v2).length) hsm
     have hml:=fun w'=>mul_v (x:=v2) (y:=m+j+1) (by omega) (by omega) w'
     have hdv:=fun w'=>div_v (x:=v2*(m+j+1)) (y:=j+1) (by omega) (by omega) (by omega) w'
     have hn1:∀ w',Calls Tryz.prog 83 #[.int .i64 (((m+j:Nat):Int)+1)] w' fun e w2=>e=.returned (.string (bs (nB (m+j+1))))∧Below w'.heap.size w' w2:=fun w'=>by
      have h:=number_fn (m+j+1) w' (by omega)
      rwa [show ((m+j+1:Nat):Int)=((m+j:Nat):Int)+1 by omega] at h
     have hn2:∀ w',Calls Tryz.prog 83 #[.int .i64 ((j:Int)+1)] w' fun e w2=>e=.returned (.string (bs (nB (j+1))))∧Below w'.heap.size w' w2:=fun w'=>by
      have h:=number_fn (j+1) w' (by omega)
      rwa [show ((j+1:Nat):Int)=(j:Int)+1 by omega] at h
     have hlt:(nB (v2*(m+j+1) / (j+1))).length≤(nB v2).length+2:=Nat.le_trans (nB_len_le (Nat.div_le_self _ _)) hlen
     have heq:v2*(m+j+1) / (j+1)=v*chs m (j+1):=by rw [q2,chs_mul]
     have ih5:=ih4 (j+1,v2*(m+j+1) / (j+1)) ⟨hj,heq,by dsimp only;omega⟩ (by dsimp only;omega)
     dsimp only at ih5
     rw [show ((m+(j+1):Nat):Int)=((m+j:Nat):Int)+1 by omega,show ((j+1:Nat):Int)+1=(j:Int)+1+1 by omega] at ih5
     clear ih4 ih3 hlen hlt heq q2 hsm hs2 j2
     generalize nB (v2*(m+j+1) / (j+1))=B1 at *
     generalize nB (v2*(m+j+1) % (j+1))=B2 at *
     generalize nB (v2*(m+j+1))=B3 at *
     generalize nB (m+j+1)=B4 at *
     generalize nB (j+1)=B5 at *
     generalize nB v2=B6 at *
     all_goals (refine go ?_;and_intros<;>(try exact trivial)<;>repeat (first|refine fun (Bk:Nat)=>?_|intro h))
     repeat' ((first|(apply G.cF0 (g:=83) (vs:=[.int .i64 (((m+j:Nat):Int)+1)]);rfl;rfl;rfl;exact fun w' _=>hn1 w')|(apply G.cF0 (g:=83) (vs:=[.int .i64 ((j:Int)+1)]);rfl;rfl;rfl;exact fun w' _=>hn2 w')|(apply G.cV (g:=43);rfl;rfl;exact fun w' _=>hml w')|(apply G.cV (g:=85);rfl;rfl;exact fun w' _=>hdv w'))<;>(refine go ?_;and_intros<;>(try exact trivial)<;>repeat (first|refine fun (Bk:Nat)=>?_|intro h)))
     exact J.fin ih5
    ·obtain rfl:j=cc:=by omega
     subst q2
     have ih5:=ih3 (m+j) _ j2 (by omega) q3 (by omega)
     clear ih4 ih3
     all_goals (refine go ?_;and_intros<;>(try exact trivial)<;>repeat (first|refine fun (Bk:Nat)=>?_|intro h))
     exact J.fin ih5
   ·rw [List.drop_eq_nil_of_le (by omega),mnl,Nat.mul_one] at j2
    have ih3:=ihN v j2 (by omega)
    clear ih2 ihN
    all_goals (refine go ?_;and_intros<;>(try exact trivial)<;>repeat (first|refine fun (Bk:Nat)=>?_|intro h))
    exact J.fin ih3
 ·rw [List.drop_eq_nil_of_le (by omega),cntL,Nat.mul_one] at h2
  subst h2
  clear ih
  all_goals (refine go ?_;and_intros<;>(try exact trivial)<;>repeat (first|refine fun (Bk:Nat)=>?_|intro h))
  all_goals refine ret2b Tryz.func23 Tryz.results23 ?_
  all_goals rfl
end Go.Proofs.YtcdgibkbbcekhaaGreatDoor
