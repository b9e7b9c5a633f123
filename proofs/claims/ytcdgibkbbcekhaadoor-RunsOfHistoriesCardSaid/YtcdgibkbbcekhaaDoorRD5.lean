/-
  Contracts: the span of a tick and its worth; histories that are right.
-/
import Derived.Test.YtcdgibkbbcekhaaDoorRD4
import Derived.ProofKit
set_option linter.unusedVariables false
set_option linter.unusedSimpArgs false
set_option linter.unusedSectionVars false
namespace Go.Proofs.YtcdgibkbbcekhaaDoor
open Go.RowKit Go.Sl Go.Num
def inS (t:Int) (s:Spn):Bool:=decide (s.from_≤t) && decide (t < s.to_)
def spanAt (l:List Spn) (t:Int):Nat:=l.findIdx (inS t)
def worthOf (l:List Spn) (t st:Int):Rat:=match l[spanAt l t]? with
 | none=>0
 | some s=>rateOf s st
theorem within_holds (n lo hi:Int) (w:World):Calls Tryd.prog 36 #[.int .i64 n,.int .i64 lo,.int .i64 hi] w fun e w'=>e=.returned (.bool (decide (lo≤n∧n≤hi)))∧Below w.heap.size w w':=by
 refine enterA [(0,.int .i64 n),(1,.int .i64 lo),(2,.int .i64 hi)] Tryd.func36 Tryd.ntmps36 ?_
 all_goals (refine go ?_;and_intros<;>(try exact trivial)<;>repeat (first|refine fun (Bk:Nat)=>?_|intro h))
 all_goals refine ret1b Tryd.func36 Tryd.results36 ?_
 all_goals exact ret_bool (by first|(rw [decide_eq_true (by omega)])|(rw [decide_eq_false (by omega)]))
def badSt (s:Int):Bool:=!decide (0≤s∧s≤1000)
theorem right1_holds (s:Int) (w:World):Calls Tryd.prog 42 #[.int .i64 s] w fun e w'=>e=.returned (.bool (badSt s))∧Below w.heap.size w w':=by
 have hw1:=fun w'=>within_holds s 0 1000 w'
 rw [badSt]
 generalize decide (0≤s∧s≤1000)=b at *
 refine enterA [(0,.int .i64 s)] Tryd.func42 Tryd.ntmps42 ?_
 cases b
 all_goals skip
 all_goals (refine go ?_;and_intros<;>(try exact trivial)<;>repeat (first|refine fun (Bk:Nat)=>?_|intro h))
 repeat' ((first|(apply G.cV (g:=36);rfl;rfl;exact fun w' _=>hw1 w'))<;>(refine go ?_;and_intros<;>(try exact trivial)<;>repeat (first|refine fun (Bk:Nat)=>?_|intro h)))
 all_goals refine ret1b Tryd.func42 Tryd.results42 ?_
 all_goals rfl
def idxI (l:List Int) (p:Int→Bool):Int:=if l.findIdx p < l.length then (l.findIdx p:Int) else -1
theorem indexFunc_holds (g:FuncId) [hF:Fun Tryd.prog g] (p:Int→Bool) (a:Option Addr) (l:List Int) (c:Nat) (w:World) (hA:SlAt w a 1 (l.map isV)) (hl:l.length≤1000000000)
  (hf:∀ s w',Calls Tryd.prog g (#[.int .i64 s]++#[]) w' fun e w2=>e=.returned (.bool (p s))∧Below w'.heap.size w' w2) :
  Calls Tryd.prog 54 #[.slice a l.length c,.func (.func g) #[] #[]] w fun e w'=>e=.returned (.int .i64 (idxI l p))∧Below w.heap.size w w':=by
 have hle:l.findIdx p≤l.length:=List.findIdx_le_length
 refine enterA [(0,.slice a l.length c),(1,.func (.func g) #[] #[])] Tryd.func54 Tryd.ntmps54 ?_
 all_goals (refine go ?_;and_intros<;>(try exact trivial)<;>repeat (first|refine fun (Bk:Nat)=>?_|intro h))
 refine J.loop (c:=_) (0:Nat) (fun s=>l.length-s) (fun s=>[(0,.slice a l.length c),(1,.func (.func g) #[] #[]),(7,.int .i64 l.length),(8,.int .i64 s)]) (fun s=>[]) (fun s=>s≤l.findIdx p) ?_ sbT sbL ?_
 ·exact Nat.zero_le _
 intro k h1 ih
 by_cases hk:k < l.length
 ·obtain ⟨ba,oa,rfl,hra⟩:=SlAt.all hA (by omega)
  have hr:=hra k hk
  have hfk:=hf l[k]
  by_cases hq:l.findIdx p=k
  ·have hp:p l[k]=true:=by
    have:=List.findIdx_getElem (w:=(show l.findIdx p < l.length by omega))
    simpa only [hq] using this
   rw [idxI,if_pos (by omega),hq]
   rw [hp] at hfk
   generalize l[k]=s at *
   dsimp only [isV] at *
   all_goals (refine go ?_;and_intros<;>(try exact trivial)<;>repeat (first|refine fun (Bk:Nat)=>?_|intro h))
   repeat' ((first|(apply G.callVf (g:=g);rfl;rfl;rfl;rfl;rfl;exact fun w' _=>hfk w'))<;>(refine go ?_;and_intros<;>(try exact trivial)<;>repeat (first|refine fun (Bk:Nat)=>?_|intro h)))
   all_goals refine ret1b Tryd.func54 Tryd.results54 ?_
   all_goals rfl
  ·have hp:p l[k]=false:=by
    have:=List.not_of_lt_findIdx (show k < l.findIdx p by omega)
    simpa using this
   rw [hp] at hfk
   generalize l[k]=s at *
   dsimp only [isV] at *
   all_goals (refine go ?_;and_intros<;>(try exact trivial)<;>repeat (first|refine fun (Bk:Nat)=>?_|intro h))
   repeat' ((first|(apply G.callVf (g:=g);rfl;rfl;rfl;rfl;rfl;exact fun w' _=>hfk w'))<;>(refine go ?_;and_intros<;>(try exact trivial)<;>repeat (first|refine fun (Bk:Nat)=>?_|intro h)))
   exact J.fin (ih (k+1) (by omega) (by omega))
 ·rw [idxI,if_neg (by omega)]
  all_goals (refine go ?_;and_intros<;>(try exact trivial)<;>repeat (first|refine fun (Bk:Nat)=>?_|intro h))
  all_goals refine ret1b Tryd.func54 Tryd.results54 ?_
  all_goals rfl
theorem containsFunc_holds (g:FuncId) [hF:Fun Tryd.prog g] (p:Int→Bool) (a:Option Addr) (l:List Int) (c:Nat) (w:World) (hA:SlAt w a 1 (l.map isV)) (hl:l.length≤1000000000)
  (hf:∀ s w',Calls Tryd.prog g (#[.int .i64 s]++#[]) w' fun e w2=>e=.returned (.bool (p s))∧Below w'.heap.size w' w2) :
  Calls Tryd.prog 41 #[.slice a l.length c,.func (.func g) #[] #[]] w fun e w'=>e=.returned (.bool (l.any p))∧Below w.heap.size w w':=by
 have hi:=fun w' (hb:Below w.heap.size w w')=>indexFunc_holds g p a l c w' (hA.below hb) hl hf
 have hlt:l.findIdx p < l.length ↔ l.any p=true:=by rw [List.findIdx_lt_length,List.any_eq_true]
 rw [idxI] at hi
 generalize l.any p=b at *
 by_cases h:l.findIdx p < l.length
 ·rw [if_pos h] at hi
  have hb:=hlt.1 h
  subst hb
  generalize l.findIdx p=j at *
  refine enterA [(0,.slice a l.length c),(1,.func (.func g) #[] #[])] Tryd.func41 Tryd.ntmps41 ?_
  all_goals (refine go ?_;and_intros<;>(try exact trivial)<;>repeat (first|refine fun (Bk:Nat)=>?_|intro h))
  repeat' ((first|(apply G.cV (g:=54);rfl;rfl;exact fun w' hw=>hi w' hw.below))<;>(refine go ?_;and_intros<;>(try exact trivial)<;>repeat (first|refine fun (Bk:Nat)=>?_|intro h)))
  all_goals refine ret1b Tryd.func41 Tryd.results41 ?_
  all_goals rfl
 ·rw [if_neg h] at hi
  have hb:b=false:=by cases b<;>simp_all
  subst hb
  refine enterA [(0,.slice a l.length c),(1,.func (.func g) #[] #[])] Tryd.func41 Tryd.ntmps41 ?_
  all_goals (refine go ?_;and_intros<;>(try exact trivial)<;>repeat (first|refine fun (Bk:Nat)=>?_|intro h))
  repeat' ((first|(apply G.cV (g:=54);rfl;rfl;exact fun w' hw=>hi w' hw.below))<;>(refine go ?_;and_intros<;>(try exact trivial)<;>repeat (first|refine fun (Bk:Nat)=>?_|intro h)))
  all_goals refine ret1b Tryd.func41 Tryd.results41 ?_
  all_goals rfl
def rightH (f:Int) (l:List Int):Bool:=decide (l.length≤40000∧0≤f∧f≤1402560-l.length) && !l.any badSt
theorem hRight_holds (f:Int) (a:Option Addr) (l:List Int) (c:Nat) (w:World) (hA:SlAt w a 1 (l.map isV)) (hl:l.length≤1000000000) :
  Calls Tryd.prog 19 #[.agg #[.int .i64 f,.slice a l.length c]] w fun e w'=>e=.returned (.bool (rightH f l))∧Below w.heap.size w w':=by
 have hc:=fun w' (hb:Below w.heap.size w w')=>containsFunc_holds 42 badSt a l c w' (hA.below hb) hl (fun s w2=>by rw [Array.append_empty];exact right1_holds s w2)
 have hw1:=fun w'=>within_holds f 0 (1402560-l.length) w'
 rw [rightH]
 generalize l.any badSt=b at *
 by_cases h1:l.length≤40000
 ·by_cases h2:0≤f∧f≤1402560-l.length
  ·rw [decide_eq_true h2] at hw1
   rw [decide_eq_true ⟨h1,h2⟩]
   refine enterA [(0,.agg #[.int .i64 f,.slice a l.length c])] Tryd.func19 Tryd.ntmps19 ?_
   cases b
   all_goals skip
   all_goals (refine go ?_;and_intros<;>(try exact trivial)<;>repeat (first|refine fun (Bk:Nat)=>?_|intro h))
   repeat' ((first|(apply G.cV (g:=36);rfl;rfl;exact fun w' _=>hw1 w')|(apply G.cV (g:=41);rfl;rfl;exact fun w' hw=>hc w' hw.below))<;>(refine go ?_;and_intros<;>(try exact trivial)<;>repeat (first|refine fun (Bk:Nat)=>?_|intro h)))
   all_goals refine ret1b Tryd.func19 Tryd.results19 ?_
   all_goals rfl
  ·rw [decide_eq_false h2] at hw1
   rw [decide_eq_false (fun e=>h2 e.2)]
   refine enterA [(0,.agg #[.int .i64 f,.slice a l.length c])] Tryd.func19 Tryd.ntmps19 ?_
   all_goals (refine go ?_;and_intros<;>(try exact trivial)<;>repeat (first|refine fun (Bk:Nat)=>?_|intro h))
   repeat' ((first|(apply G.cV (g:=36);rfl;rfl;exact fun w' _=>hw1 w'))<;>(refine go ?_;and_intros<;>(try exact trivial)<;>repeat (first|refine fun (Bk:Nat)=>?_|intro h)))
   all_goals refine ret1b Tryd.func19 Tryd.results19 ?_
   all_goals rfl
 ·rw [decide_eq_false (fun e=>h1 e.1)]
  refine enterA [(0,.agg #[.int .i64 f,.slice a l.length c])] Tryd.func19 Tryd.ntmps19 ?_
  all_goals (refine go ?_;and_intros<;>(try exact trivial)<;>repeat (first|refine fun (Bk:Nat)=>?_|intro h))
  all_goals refine ret1b Tryd.func19 Tryd.results19 ?_
  all_goals rfl
end Go.Proofs.YtcdgibkbbcekhaaDoor
/-
 Contracts of the specification: right histories,and their volume.
-/
namespace Go.Proofs.YtcdgibkbbcekhaaDoor
open Go.RowKit Go.Sl Go.Num
theorem rRight_holds (f:Int) (a:Option Addr) (l:List Int) (c:Nat) (w:World) (hA:SlAt w a 1 (l.map isV)) (hl:l.length≤9223372036854775807) :
  Calls Tryd.prog 4 #[.agg #[.int .i64 f,.slice a l.length c]] w fun e w'=>e=.returned (.bool (rightH f l))∧Below w.heap.size w w':=by
 rw [rightH]
 refine enterA [(0,.agg #[.int .i64 f,.slice a l.length c])] Tryd.func4 Tryd.ntmps4 ?_
 by_cases h1:l.length≤40000∧0≤f∧f≤1402560-l.length
 ·rw [decide_eq_true h1]
  all_goals (refine go ?_;and_intros<;>(try exact trivial)<;>repeat (first|refine fun (Bk:Nat)=>?_|intro h))
  refine J.loop (c:=_) (0:Nat) (fun s=>l.length-s) (fun s=>[(1,.pointer (some ⟨_,0,none⟩)),(3,.int .i64 s)]) (fun s=>[.blk _ 24 [.int .i64 f,.slice a l.length c] 2]) (fun s=>s≤l.length∧∀ i (h:i < l.length),i < s→badSt l[i]=false) ?_ sbT sbL ?_
  ·exact ⟨Nat.zero_le _,fun i h h2=>absurd h2 (Nat.not_lt_zero _)⟩
  intro k ⟨h3,h2⟩ ih
  by_cases hk:k < l.length
  ·obtain ⟨ba,oa,rfl,hra⟩:=SlAt.all hA (by omega)
   have hr:=hra k hk
   by_cases hq:badSt l[k]=true
   ·rw [show l.any badSt=true from List.any_eq_true.2 ⟨_,List.getElem_mem hk,hq⟩]
    rw [badSt,Bool.not_eq_true',decide_eq_false_iff_not] at hq
    generalize l[k]=s at *
    dsimp only [isV] at *
    all_goals (refine go ?_;and_intros<;>(try exact trivial)<;>repeat (first|refine fun (Bk:Nat)=>?_|intro h))
    all_goals refine ret1b Tryd.func4 Tryd.results4 ?_
    all_goals rfl
   ·have hq2:badSt l[k]=false:=by simpa using hq
    have h2:∀ i (h:i < l.length),i < k+1→badSt l[i]=false:=fun i h h3=>by
     rcases Nat.lt_or_ge i k with h4|h4
     ·exact h2 i h h4
     ·obtain rfl:i=k:=by omega
      exact hq2
    rw [badSt,Bool.not_eq_false',decide_eq_true_eq] at hq2
    generalize l[k]=s at *
    dsimp only [isV] at *
    all_goals (refine go ?_;and_intros<;>(try exact trivial)<;>repeat (first|refine fun (Bk:Nat)=>?_|intro h))
    exact J.fin (ih (k+1) ⟨by omega,h2⟩ (by omega))
  ·rw [show l.any badSt=false from List.any_eq_false.2 fun x hx=>by
    obtain ⟨i,h4,rfl⟩:=List.getElem_of_mem hx
    rw [h2 i h4 (by omega)];decide]
   all_goals (refine go ?_;and_intros<;>(try exact trivial)<;>repeat (first|refine fun (Bk:Nat)=>?_|intro h))
   all_goals refine ret1b Tryd.func4 Tryd.results4 ?_
   all_goals rfl
 ·rw [decide_eq_false h1]
  all_goals (refine go ?_;and_intros<;>(try exact trivial)<;>repeat (first|refine fun (Bk:Nat)=>?_|intro h))
  all_goals refine ret1b Tryd.func4 Tryd.results4 ?_
  all_goals rfl
def volSum (l:List Spn):Int→List Int→Rat
 | _,[]=>0
 | f,s::r=>worthOf l f s+volSum l (f+1) r
def outH (f:Int) (n:Nat) (s:Spn):Bool:=decide (s.from_ < f) || decide (f+n < s.to_)
def volE (f:Int) (h:List Int) (l:List Spn):Q3×Int :=
 if spansErr l≠0 then (zero3,spansErr l) else if rightH f h=false then (zero3,1) else if l.any (outH f h.length)=true then (zero3,19) else (rQ (volSum l f h),0)
theorem spErr_ok {l:List Spn}{x:Int} (h:spErr x l=0):∀ s∈l,RightS s:=by
 induction l generalizing x with
 | nil=>simp
 | cons s r ih =>
  rw [spErr] at h
  split at h
  ·cases h
  rename_i c1
  intro t ht
  rcases List.mem_cons.1 ht with rfl|ht
  ·simp only [Bool.or_eq_true,Bool.not_eq_true',decide_eq_false_iff_not,decide_eq_true_eq,not_or,Decidable.not_not] at c1
   exact c1.1
  ·exact ih h t ht
theorem rightH_ok {f:Int}{h:List Int} (hr:rightH f h=true):(h.length≤40000∧0≤f∧f≤1402560-h.length)∧∀ i (hi:i < h.length),0≤h[i]∧h[i]≤1000:=by
 rw [rightH,Bool.and_eq_true,decide_eq_true_eq,Bool.not_eq_true'] at hr
 refine ⟨hr.1,fun i hi=>?_⟩
 have:=List.any_eq_false.1 hr.2 _ (List.getElem_mem hi)
 rw [badSt] at this
 simpa using this
end Go.Proofs.YtcdgibkbbcekhaaDoor
/-
 Contracts: the error of one run.
-/
namespace Go.Proofs.YtcdgibkbbcekhaaDoor
open Go.RowKit Go.Sl Go.Num
structure Rn where
 from_:Int
 to_:Int
 tab:List (Int×Int)
 adr:Option Addr
 cap:Nat
 lo:Int
 hi:Int
def hoV (h:Int×Int):List Value:=[.int .i64 h.1,.int .i64 h.2]
def rnV (r:Rn):List Value:=[.int .i64 r.from_,.int .i64 r.to_,.slice r.adr r.tab.length r.cap,.int .i64 r.lo,.int .i64 r.hi]
def rnA (r:Rn):Value:=.agg #[.int .i64 r.from_,.int .i64 r.to_,.slice r.adr r.tab.length r.cap,.int .i64 r.lo,.int .i64 r.hi]
def TabAt (w:World) (r:Rn):Prop:=SlAt w r.adr 2 (r.tab.map hoV)
def RunsAt (w:World) (a:Option Addr) (l:List Rn):Prop:=SlAt w a 5 (l.map rnV)∧∀ r∈l,TabAt w r
theorem RunsAt.below {w w':World}{a:Option Addr}{l:List Rn} (h:RunsAt w a l) (hb:Below w.heap.size w w'):RunsAt w' a l:=⟨h.1.below hb,fun s hs=>(h.2 s hs).below hb⟩
def badH (h:Int×Int):Bool:=!decide (0≤h.1∧h.1≤1000) || !decide (1≤h.2∧h.2≤1402560)
def sortedT:Option (Int×Int)→List (Int×Int)→Bool
 | _,[]=>true
 | p,h::r=>(match p with|none=>true|some q=>decide (q.1 < h.1)) && sortedT (some h) r
def sumT:List (Int×Int)→Int
 | []=>0
 | h::r=>h.2+sumT r
def oneE (r:Rn):Int:=if r.tab.length=0 then (if r.lo < 0∨r.hi < r.lo∨1000 < r.hi then 3 else 0) else if r.tab.any badH=true then 3 else if sortedT none r.tab=true∧sumT r.tab=r.to_-r.from_∧r.lo=0∧r.hi=0 then 0 else 1
theorem sortedT_step {l:List (Int×Int)}{k:Nat} (hk:k < l.length):sortedT (prv l k) (l.drop k)=((match prv l k with|none=>true|some q=>decide (q.1 < l[k].1)) && sortedT (prv l (k+1)) (l.drop (k+1))):=by
 rw [List.drop_eq_getElem_cons hk,prv,List.getElem?_eq_getElem hk]
 cases prv l k<;>rfl
theorem gap_holds (r:Rn) (w:World):Calls Tryd.prog 24 #[rnA r] w fun e w'=>e=.returned (.bool (decide (r.tab.length=0)))∧Below w.heap.size w w':=by
 obtain ⟨f,t,tab,adr,cap,lo,hi⟩:=r
 dsimp only [rnA]
 refine enterA [(0,.agg #[.int .i64 f,.int .i64 t,.slice adr tab.length cap,.int .i64 lo,.int .i64 hi])] Tryd.func24 Tryd.ntmps24 ?_
 all_goals (refine go ?_;and_intros<;>(try exact trivial)<;>repeat (first|refine fun (Bk:Nat)=>?_|intro h))
 all_goals refine ret1b Tryd.func24 Tryd.results24 ?_
 all_goals exact ret_bool (by first|(rw [decide_eq_true (by omega)])|(rw [decide_eq_false (by omega)]))
theorem vOne_holds (r:Rn) (w:World) (hA:TabAt w r) (hl:r.tab.length≤64) (hr:0≤r.from_∧r.from_ < r.to_∧r.to_≤1402560) :
  Calls Tryd.prog 32 #[rnA r] w fun e w'=>e=.returned (.int .i64 (oneE r))∧Below w.heap.size w w':=by
 rw [oneE]
 have hg:=fun w'=>gap_holds r w'
 obtain ⟨f,t,tab,adr,cap,lo,hi⟩:=r
 dsimp only [rnA,TabAt] at *
 refine enterA [(0,.agg #[.int .i64 f,.int .i64 t,.slice adr tab.length cap,.int .i64 lo,.int .i64 hi])] Tryd.func32 Tryd.ntmps32 ?_
 by_cases h0:tab.length=0
 ·rw [if_pos h0]
  rw [decide_eq_true h0] at hg
  by_cases h1:lo < 0∨hi < lo∨1000 < hi
  ·rw [if_pos h1]
   all_goals (refine go ?_;and_intros<;>(try exact trivial)<;>repeat (first|refine fun (Bk:Nat)=>?_|intro h))
   repeat' ((first|(apply G.cV (g:=24);rfl;rfl;exact fun w' _=>hg w'))<;>(refine go ?_;and_intros<;>(try exact trivial)<;>repeat (first|refine fun (Bk:Nat)=>?_|intro h)))
   all_goals refine ret1b Tryd.func32 Tryd.results32 ?_
   all_goals rfl
  ·rw [if_neg h1]
   all_goals (refine go ?_;and_intros<;>(try exact trivial)<;>repeat (first|refine fun (Bk:Nat)=>?_|intro h))
   repeat' ((first|(apply G.cV (g:=24);rfl;rfl;exact fun w' _=>hg w'))<;>(refine go ?_;and_intros<;>(try exact trivial)<;>repeat (first|refine fun (Bk:Nat)=>?_|intro h)))
   all_goals refine ret1b Tryd.func32 Tryd.results32 ?_
   all_goals rfl
 rw [if_neg h0]
 rw [decide_eq_false h0] at hg
 all_goals (refine go ?_;and_intros<;>(try exact trivial)<;>repeat (first|refine fun (Bk:Nat)=>?_|intro h))
 repeat' ((first|(apply G.cV (g:=24);rfl;rfl;exact fun w' _=>hg w'))<;>(refine go ?_;and_intros<;>(try exact trivial)<;>repeat (first|refine fun (Bk:Nat)=>?_|intro h)))
 refine J.loop (c:=_) (0:Nat) (fun s=>tab.length-s) (fun s=>[(1,.pointer (some ⟨_,0,none⟩)),(41,.slice adr tab.length cap),(42,.int .i64 tab.length),(43,.int .i64 s)]) (fun s=>[.blk _ 50 [.int .i64 f,.int .i64 t,.slice adr tab.length cap,.int .i64 lo,.int .i64 hi] 5]) (fun s=>s≤tab.length∧∀ i (h:i < tab.length),i < s→badH tab[i]=false) ?_ sbT sbL ?_
 ·exact ⟨Nat.zero_le _,fun i h h2=>absurd h2 (Nat.not_lt_zero _)⟩
 intro k ⟨h3,h4⟩ ih
 obtain ⟨ba,oa,rfl,hra⟩:=SlAt.all hA (by omega)
 by_cases hk:k < tab.length
 ·have hrk:=hra k hk
  by_cases hq:badH tab[k]=true
  ·rw [if_pos (List.any_eq_true.2 ⟨_,List.getElem_mem hk,hq⟩)]
   rw [badH] at hq
   clear ih h4
   generalize tab[k]=s at *
   obtain ⟨x,y⟩:=s
   dsimp only [hoV] at *
   have hw1:=fun w'=>within_holds x 0 1000 w'
   have hw2:=fun w'=>within_holds y 1 1402560 w'
   generalize decide (0≤x∧x≤1000)=b1 at *
   generalize decide (1≤y∧y≤1402560)=b2 at *
   cases b1<;>cases b2
   all_goals try (exact absurd hq (by decide))
   all_goals (refine go ?_;and_intros<;>(try exact trivial)<;>repeat (first|refine fun (Bk:Nat)=>?_|intro h))
   repeat' ((first|(apply G.cV (g:=36) (vs:=[.int .i64 x,.int .i64 0,.int .i64 1000]);rfl;rfl;exact fun w' _=>hw1 w')|(apply G.cV (g:=36) (vs:=[.int .i64 y,.int .i64 1,.int .i64 1402560]);rfl;rfl;exact fun w' _=>hw2 w'))<;>(refine go ?_;and_intros<;>(try exact trivial)<;>repeat (first|refine fun (Bk:Nat)=>?_|intro h)))
   all_goals refine ret1b Tryd.func32 Tryd.results32 ?_
   all_goals rfl
  ·have hq2:badH tab[k]=false:=by simpa using hq
   have h4:∀ i (h:i < tab.length),i < k+1→badH tab[i]=false:=fun i h h5=>by
    rcases Nat.lt_or_ge i k with h6|h6
    ·exact h4 i h h6
    ·obtain rfl:i=k:=by omega
     exact hq2
   rw [badH] at hq2
   clear hq
   generalize tab[k]=s at *
   obtain ⟨x,y⟩:=s
   dsimp only [hoV] at *
   have hw1:=fun w'=>within_holds x 0 1000 w'
   have hw2:=fun w'=>within_holds y 1 1402560 w'
   generalize decide (0≤x∧x≤1000)=b1 at *
   generalize decide (1≤y∧y≤1402560)=b2 at *
   cases b1<;>cases b2
   all_goals try (exact absurd hq2 (by decide))
   all_goals (refine go ?_;and_intros<;>(try exact trivial)<;>repeat (first|refine fun (Bk:Nat)=>?_|intro h))
   repeat' ((first|(apply G.cV (g:=36) (vs:=[.int .i64 x,.int .i64 0,.int .i64 1000]);rfl;rfl;exact fun w' _=>hw1 w')|(apply G.cV (g:=36) (vs:=[.int .i64 y,.int .i64 1,.int .i64 1402560]);rfl;rfl;exact fun w' _=>hw2 w'))<;>(refine go ?_;and_intros<;>(try exact trivial)<;>repeat (first|refine fun (Bk:Nat)=>?_|intro h)))
   exact J.fin (ih (k+1) ⟨by omega,h4⟩ (by omega))
 rw [show tab.any badH=false from List.any_eq_false.2 fun x hx=>by
  obtain ⟨i,h5,rfl⟩:=List.getElem_of_mem hx
  rw [h4 i h5 (by omega)];decide]
 rw [if_neg (by decide)]
 have h4:∀ i (h:i < tab.length),1≤tab[i].2∧tab[i].2≤1402560:=fun i h=>by
  have:=h4 i h (by omega)
  simp only [badH,Bool.or_eq_false_iff,Bool.not_eq_false',decide_eq_true_eq] at this
  exact this.2
 clear ih
 generalize hS:sumT tab=S
 generalize hO:sortedT none tab=O
 all_goals (refine go ?_;and_intros<;>(try exact trivial)<;>repeat (first|refine fun (Bk:Nat)=>?_|intro h))
 clear hk h3
 refine J.loop (c:=_) ((0,0):Nat×Int) (fun s=>tab.length-s.1) (fun s=>[(1,.pointer (some ⟨_,0,none⟩)),(5,.int .i64 s.2),(59,.slice (some ⟨ba,oa,none⟩) tab.length cap),(60,.int .i64 tab.length),(61,.int .i64 s.1)]) (fun s=>[.blk _ 50 [.int .i64 f,.int .i64 t,.slice (some ⟨ba,oa,none⟩) tab.length cap,.int .i64 lo,.int .i64 hi] 5]) (fun s=>s.1≤tab.length∧(0≤s.2∧s.2≤1402560*s.1)∧s.2+sumT (tab.drop s.1)=S∧sortedT (prv tab s.1) (tab.drop s.1)=O) ?_ sbT sbL ?_
 ·exact ⟨Nat.zero_le _,⟨Int.le_refl _,Int.le_refl _⟩,by rw [Int.zero_add];exact hS,hO⟩
 clear hS hO
 intro ⟨k,x⟩ ⟨h3,⟨h5,h5'⟩,h6,h7⟩ ih
 dsimp only at h3 h5 h5' h6 h7 ⊢
 by_cases hk:k < tab.length
 ·have hrk:=hra k hk
  have h8:=h4 k hk
  rw [sortedT_step hk] at h7
  rw [List.drop_eq_getElem_cons hk,sumT,← Int.add_assoc] at h6
  rcases k with _|j
  ·rw [show prv tab 0=none from rfl] at h7
   dsimp only at h7
   rw [Bool.true_and] at h7
   generalize tab[0]=s at *
   obtain ⟨u,v⟩:=s
   dsimp only [hoV] at *
   all_goals (refine go ?_;and_intros<;>(try exact trivial)<;>repeat (first|refine fun (Bk:Nat)=>?_|intro h))
   exact J.fin (ih (1,x+v) ⟨hk,⟨by dsimp only;omega,by dsimp only;omega⟩,h6,h7⟩ (by dsimp only;omega))
  ·have hrj:=hra j (by omega)
   rw [show prv tab (j+1)=some tab[j] from List.getElem?_eq_getElem (by omega)] at h7
   dsimp only at h7
   generalize tab[j+1]=s at *
   generalize tab[j]=p at *
   obtain ⟨u,v⟩:=s
   obtain ⟨u2,v2⟩:=p
   dsimp only [hoV] at *
   by_cases hlt:u2 < u
   ·rw [decide_eq_true hlt,Bool.true_and] at h7
    all_goals (refine go ?_;and_intros<;>(try exact trivial)<;>repeat (first|refine fun (Bk:Nat)=>?_|intro h))
    exact J.fin (ih (j+2,x+v) ⟨hk,⟨by dsimp only;omega,by dsimp only;omega⟩,h6,h7⟩ (by dsimp only;omega))
   ·rw [decide_eq_false hlt,Bool.false_and] at h7
    rw [if_neg (by rw [← h7];simp)]
    clear ih
    all_goals (refine go ?_;and_intros<;>(try exact trivial)<;>repeat (first|refine fun (Bk:Nat)=>?_|intro h))
    all_goals refine ret1b Tryd.func32 Tryd.results32 ?_
    all_goals rfl
 ·rw [show k=tab.length by omega,List.drop_length] at h6 h7
  rw [sortedT] at h7
  rw [sumT,Int.add_zero] at h6
  subst h6 h7
  clear ih
  by_cases h9:x=t-f∧lo=0∧hi=0
  ·rw [if_pos ⟨rfl,h9⟩]
   all_goals (refine go ?_;and_intros<;>(try exact trivial)<;>repeat (first|refine fun (Bk:Nat)=>?_|intro h))
   all_goals refine ret1b Tryd.func32 Tryd.results32 ?_
   all_goals rfl
  ·rw [if_neg (fun e=>h9 e.2)]
   all_goals (refine go ?_;and_intros<;>(try exact trivial)<;>repeat (first|refine fun (Bk:Nat)=>?_|intro h))
   all_goals refine ret1b Tryd.func32 Tryd.results32 ?_
   all_goals rfl
end Go.Proofs.YtcdgibkbbcekhaaDoor
/-
 Contracts: the error of runs.
-/
namespace Go.Proofs.YtcdgibkbbcekhaaDoor
open Go.RowKit Go.Sl Go.Num
def inT (r:Rn):Bool:=decide (0≤r.from_∧r.from_ < r.to_∧r.to_≤1402560)
def rnErr (prev:Option Rn):List Rn→Int
 | []=>0
 | r::t=>if inT r=false then 3 else if (match prev with|none=>false|some q=>decide (r.from_≠q.to_))=true then 1 else if oneE r≠0 then oneE r else rnErr (some r) t
def lenT (l:List Rn):Int:=match l[0]?,l[l.length-1]? with
 | some a,some b=>b.to_-a.from_
 | _,_=>0
def runsErr (l:List Rn):Int:=if 2000 < l.length then 2 else if rnErr none l≠0 then rnErr none l else if 40000 < lenT l then 2 else 0
theorem rnErr_step {l:List Rn}{k:Nat} (hk:k < l.length):rnErr (prv l k) (l.drop k)=if inT l[k]=false then 3 else if (match prv l k with|none=>false|some q=>decide (l[k].from_≠q.to_))=true then 1 else if oneE l[k]≠0 then oneE l[k] else rnErr (prv l (k+1)) (l.drop (k+1)):=by
 rw [List.drop_eq_getElem_cons hk,prv,List.getElem?_eq_getElem hk]
 cases prv l k<;>rfl
theorem rnErr_end {l:List Rn}{q:Option Rn}:rnErr q (l.drop l.length)=0:=by
 rw [List.drop_length];rfl
theorem vRuns_holds (a:Option Addr) (l:List Rn) (c:Nat) (w:World) (hA:RunsAt w a l) (hf:∀ r∈l,r.tab.length≤64) :
  Calls Tryd.prog 9 #[.slice a l.length c] w fun e w'=>e=.returned (.int .i64 (runsErr l))∧Below w.heap.size w w':=by
 rw [runsErr]
 refine enterA [(0,.slice a l.length c)] Tryd.func9 Tryd.ntmps9 ?_
 by_cases hl:2000 < l.length
 ·rw [if_pos hl]
  all_goals (refine go ?_;and_intros<;>(try exact trivial)<;>repeat (first|refine fun (Bk:Nat)=>?_|intro h))
  all_goals refine ret1b Tryd.func9 Tryd.results9 ?_
  all_goals rfl
 rw [if_neg hl]
 generalize hE:rnErr none l=E
 all_goals (refine go ?_;and_intros<;>(try exact trivial)<;>repeat (first|refine fun (Bk:Nat)=>?_|intro h))
 refine J.loop (c:=_) (0:Nat) (fun s=>l.length-s) (fun s=>[(0,.slice a l.length c),(10,.slice a l.length c),(11,.int .i64 l.length),(12,.int .i64 s)]) (fun s=>[]) (fun s=>s≤l.length∧rnErr (prv l s) (l.drop s)=E∧∀ i (h:i < l.length),i < s→inT l[i]=true) ?_ sbT sbL ?_
 ·exact ⟨Nat.zero_le _,hE,fun i h h2=>absurd h2 (Nat.not_lt_zero _)⟩
 clear hE
 intro k ⟨h1,h2,h3⟩ ih
 by_cases hk:k < l.length
 ·obtain ⟨ba,oa,rfl,hra⟩:=SlAt.all hA.1 (by omega)
  have hrk:=hra k hk
  have hm:=List.getElem_mem hk
  have ho:=fun (hi:inT l[k]=true) w' (hb:Below w.heap.size w w')=>vOne_holds l[k] w' (SlAt.below (hA.2 _ hm) hb) (hf _ hm) (by rw [inT,decide_eq_true_eq] at hi;exact hi)
  have h3:inT l[k]=true→∀ i (h:i < l.length),i < k+1→inT l[i]=true:=fun hq i h h5=>by
   rcases Nat.lt_or_ge i k with h6|h6
   ·exact h3 i h h6
   ·obtain rfl:i=k:=by omega
    exact hq
  rw [rnErr_step hk] at h2
  clear hm
  by_cases hi:inT l[k]=true
  ·have ho:=ho hi
   have g3:=h3 hi
   clear h3
   rw [if_neg (by rw [hi];decide)] at h2
   rw [inT,decide_eq_true_eq] at hi
   generalize oneE l[k]=e at *
   by_cases he:e=0
   ·subst he
    rcases k with _|j
    ·rw [show prv l 0=none from rfl] at h2
     dsimp only at h2
     rw [if_neg (by decide),if_neg (by decide)] at h2
     generalize l[0]=s at *
     obtain ⟨f,t,tab,adr,cap,lo,hi2⟩:=s
     dsimp only [rnV,rnA] at *
     all_goals (refine go ?_;and_intros<;>(try exact trivial)<;>repeat (first|refine fun (Bk:Nat)=>?_|intro h))
     repeat' ((first|(apply G.cV (g:=32);rfl;rfl;exact fun w' hw=>ho w' hw.below))<;>(refine go ?_;and_intros<;>(try exact trivial)<;>repeat (first|refine fun (Bk:Nat)=>?_|intro h)))
     exact J.fin (ih 1 ⟨hk,h2,g3⟩ (by omega))
    ·have hrj:=hra j (by omega)
     rw [show prv l (j+1)=some l[j] from List.getElem?_eq_getElem (by omega)] at h2
     dsimp only at h2
     by_cases hn:l[j+1].from_=l[j].to_
     ·rw [if_neg (by simp [hn]),if_neg (by decide)] at h2
      generalize l[j+1]=s at *
      generalize l[j]=p at *
      obtain ⟨f,t,tab,adr,cap,lo,hi2⟩:=s
      obtain ⟨f2,t2,tab2,adr2,cap2,lo2,hi3⟩:=p
      dsimp only [rnV,rnA] at *
      all_goals (refine go ?_;and_intros<;>(try exact trivial)<;>repeat (first|refine fun (Bk:Nat)=>?_|intro h))
      repeat' ((first|(apply G.cV (g:=32);rfl;rfl;exact fun w' hw=>ho w' hw.below))<;>(refine go ?_;and_intros<;>(try exact trivial)<;>repeat (first|refine fun (Bk:Nat)=>?_|intro h)))
      exact J.fin (ih (j+2) ⟨hk,h2,g3⟩ (by omega))
     ·rw [if_pos (by simp [hn])] at h2
      subst h2
      clear ih g3
      generalize l[j+1]=s at *
      generalize l[j]=p at *
      obtain ⟨f,t,tab,adr,cap,lo,hi2⟩:=s
      obtain ⟨f2,t2,tab2,adr2,cap2,lo2,hi3⟩:=p
      dsimp only [rnV,rnA] at *
      all_goals (refine go ?_;and_intros<;>(try exact trivial)<;>repeat (first|refine fun (Bk:Nat)=>?_|intro h))
      repeat' ((first|(apply G.cV (g:=32);rfl;rfl;exact fun w' hw=>ho w' hw.below))<;>(refine go ?_;and_intros<;>(try exact trivial)<;>repeat (first|refine fun (Bk:Nat)=>?_|intro h)))
      all_goals refine ret1b Tryd.func9 Tryd.results9 ?_
      all_goals rfl
   ·clear ih g3
    rcases k with _|j
    ·rw [show prv l 0=none from rfl] at h2
     dsimp only at h2
     rw [if_neg (by decide),if_pos he] at h2
     subst h2
     generalize l[0]=s at *
     obtain ⟨f,t,tab,adr,cap,lo,hi2⟩:=s
     dsimp only [rnV,rnA] at *
     rw [if_pos he]
     all_goals (refine go ?_;and_intros<;>(try exact trivial)<;>repeat (first|refine fun (Bk:Nat)=>?_|intro h))
     repeat' ((first|(apply G.cV (g:=32);rfl;rfl;exact fun w' hw=>ho w' hw.below))<;>(refine go ?_;and_intros<;>(try exact trivial)<;>repeat (first|refine fun (Bk:Nat)=>?_|intro h)))
     all_goals refine ret1b Tryd.func9 Tryd.results9 ?_
     all_goals rfl
    ·have hrj:=hra j (by omega)
     rw [show prv l (j+1)=some l[j] from List.getElem?_eq_getElem (by omega)] at h2
     dsimp only at h2
     by_cases hn:l[j+1].from_=l[j].to_
     ·rw [if_neg (by simp [hn]),if_pos he] at h2
      subst h2
      rw [if_pos he]
      generalize l[j+1]=s at *
      generalize l[j]=p at *
      obtain ⟨f,t,tab,adr,cap,lo,hi2⟩:=s
      obtain ⟨f2,t2,tab2,adr2,cap2,lo2,hi3⟩:=p
      dsimp only [rnV,rnA] at *
      all_goals (refine go ?_;and_intros<;>(try exact trivial)<;>repeat (first|refine fun (Bk:Nat)=>?_|intro h))
      repeat' ((first|(apply G.cV (g:=32);rfl;rfl;exact fun w' hw=>ho w' hw.below))<;>(refine go ?_;and_intros<;>(try exact trivial)<;>repeat (first|refine fun (Bk:Nat)=>?_|intro h)))
      all_goals refine ret1b Tryd.func9 Tryd.results9 ?_
      all_goals rfl
     ·rw [if_pos (by simp [hn])] at h2
      subst h2
      generalize l[j+1]=s at *
      generalize l[j]=p at *
      obtain ⟨f,t,tab,adr,cap,lo,hi2⟩:=s
      obtain ⟨f2,t2,tab2,adr2,cap2,lo2,hi3⟩:=p
      dsimp only [rnV,rnA] at *
      all_goals (refine go ?_;and_intros<;>(try exact trivial)<;>repeat (first|refine fun (Bk:Nat)=>?_|intro h))
      repeat' ((first|(apply G.cV (g:=32);rfl;rfl;exact fun w' hw=>ho w' hw.below))<;>(refine go ?_;and_intros<;>(try exact trivial)<;>repeat (first|refine fun (Bk:Nat)=>?_|intro h)))
      all_goals refine ret1b Tryd.func9 Tryd.results9 ?_
      all_goals rfl
  ·have hi:inT l[k]=false:=by simpa using hi
   rw [if_pos hi] at h2
   subst h2
   rw [inT,decide_eq_false_iff_not] at hi
   clear ih h3 ho
   generalize l[k]=s at *
   obtain ⟨f,t,tab,adr,cap,lo,hi2⟩:=s
   dsimp only [rnV] at *
   all_goals (refine go ?_;and_intros<;>(try exact trivial)<;>repeat (first|refine fun (Bk:Nat)=>?_|intro h))
   all_goals refine ret1b Tryd.func9 Tryd.results9 ?_
   all_goals rfl
 ·obtain rfl:k=l.length:=by omega
  rw [rnErr_end] at h2
  subst h2
  rw [if_neg (by decide)]
  clear ih
  rcases Nat.eq_zero_or_pos l.length with h0|h0
  ·rw [lenT,List.getElem?_eq_none (by omega)]
   dsimp only
   rw [if_neg (by decide)]
   all_goals (refine go ?_;and_intros<;>(try exact trivial)<;>repeat (first|refine fun (Bk:Nat)=>?_|intro h))
   all_goals refine ret1b Tryd.func9 Tryd.results9 ?_
   all_goals rfl
  ·obtain ⟨ba,oa,rfl,hra⟩:=SlAt.all hA.1 (by omega)
   have r1:=hra 0 h0
   have r2:=hra (l.length-1) (by omega)
   have i1:=h3 0 h0 (by omega)
   have i2:=h3 (l.length-1) (by omega) (by omega)
   have hz:(l.length:Int)-1=((l.length-1:Nat):Int):=by omega
   rw [lenT,List.getElem?_eq_getElem h0,List.getElem?_eq_getElem (show l.length-1 < l.length by omega)]
   dsimp only
   rw [inT,decide_eq_true_eq] at i1 i2
   clear h3
   generalize l[0]=x at *
   generalize l[l.length-1]=y at *
   obtain ⟨f,t,tab,adr,cap,lo,hi⟩:=x
   obtain ⟨f2,t2,tab2,adr2,cap2,lo2,hi2⟩:=y
   dsimp only [rnV] at *
   by_cases hlen:40000 < t2-f
   ·rw [if_pos hlen]
    all_goals (refine go ?_;and_intros<;>(try exact trivial)<;>repeat (first|refine fun (Bk:Nat)=>?_|intro h))
    repeat' ((first|(apply G.ix;rfl;rfl;exact hz;omega;rfl)|(apply G.ix (i:=0);rfl;rfl;exact rfl;omega;rfl))<;>(refine go ?_;and_intros<;>(try exact trivial)<;>repeat (first|refine fun (Bk:Nat)=>?_|intro h)))
    all_goals refine ret1b Tryd.func9 Tryd.results9 ?_
    all_goals rfl
   ·rw [if_neg hlen]
    all_goals (refine go ?_;and_intros<;>(try exact trivial)<;>repeat (first|refine fun (Bk:Nat)=>?_|intro h))
    repeat' ((first|(apply G.ix;rfl;rfl;exact hz;omega;rfl)|(apply G.ix (i:=0);rfl;rfl;exact rfl;omega;rfl))<;>(refine go ?_;and_intros<;>(try exact trivial)<;>repeat (first|refine fun (Bk:Nat)=>?_|intro h)))
    all_goals refine ret1b Tryd.func9 Tryd.results9 ?_
    all_goals rfl
end Go.Proofs.YtcdgibkbbcekhaaDoor
/-
 Contracts: spans that are cut.
-/
namespace Go.Proofs.YtcdgibkbbcekhaaDoor
open Go.RowKit Go.Sl Go.Num
def cutS (x y:Int) (s:Spn):Spn:={ s with from_:=max s.from_ x,to_:=min s.to_ y }
def cutL (x y:Int):List Spn→List Spn
 | []=>[]
 | s::r=>if max s.from_ x < min s.to_ y then cutS x y s::cutL x y r else cutL x y r
end Go.Proofs.YtcdgibkbbcekhaaDoor
/-
 Contract: few runs.
-/
namespace Go.Proofs.YtcdgibkbbcekhaaDoor
open Go.RowKit Go.Sl Go.Num
theorem rnErr_ok {p:Option Rn}{l:List Rn} (h:rnErr p l=0):∀ r∈l,inT r=true:=by
 induction l generalizing p with
 | nil=>simp
 | cons s r ih =>
  obtain ⟨B,hs⟩:∃ B:Bool,(if inT s=false then 3 else if B=true then 1 else if oneE s≠0 then oneE s else rnErr (some s) r)=(0:Int):=by
   cases p with
   | none=>exact ⟨false,h⟩
   | some q=>exact ⟨decide (s.from_≠q.to_),h⟩
  by_cases c1:inT s=false
  ·rw [if_pos c1] at hs;cases hs
  rw [if_neg c1] at hs
  cases B
  ·rw [if_neg (by decide)] at hs
   by_cases c2:oneE s≠0
   ·rw [if_pos c2] at hs;exact absurd hs c2
   rw [if_neg c2] at hs
   intro t ht
   rcases List.mem_cons.1 ht with rfl|ht
   ·simpa using c1
   ·exact ih hs t ht
  ·rw [if_pos rfl] at hs;cases hs
theorem runsErr_ok {l:List Rn} (h:runsErr l=0):l.length≤2000∧(∀ r∈l,inT r=true)∧lenT l≤40000:=by
 rw [runsErr] at h
 split at h
 ·cases h
 split at h
 ·exact absurd h (by assumption)
 rename_i c1
 split at h
 ·cases h
 exact ⟨by omega,rnErr_ok (Decidable.not_not.1 c1),by omega⟩
end Go.Proofs.YtcdgibkbbcekhaaDoor
/-
 Contracts of the specification: gaps with different rates.
-/
namespace Go.Proofs.YtcdgibkbbcekhaaDoor
open Go.RowKit Go.Sl Go.Num
def freeB (x:Rn) (l:List Spn):Bool:=(List.range (x.to_-x.from_).toNat).any fun (i:Nat)=>decide (worthOf l (x.from_+i) x.lo≠worthOf l (x.from_+i) x.hi)
end Go.Proofs.YtcdgibkbbcekhaaDoor
/-
 Contracts: raw runs.
-/
namespace Go.Proofs.YtcdgibkbbcekhaaDoor
open Go.RowKit Go.Sl Go.Num
theorem raw_holds (r:Rn) (w:World):Calls Tryd.prog 28 #[rnA r] w fun e w'=>e=.returned (.bool (decide (r.tab.length=1)))∧Below w.heap.size w w':=by
 obtain ⟨f,t,tab,adr,cap,lo,hi⟩:=r
 dsimp only [rnA]
 refine enterA [(0,.agg #[.int .i64 f,.int .i64 t,.slice adr tab.length cap,.int .i64 lo,.int .i64 hi])] Tryd.func28 Tryd.ntmps28 ?_
 all_goals (refine go ?_;and_intros<;>(try exact trivial)<;>repeat (first|refine fun (Bk:Nat)=>?_|intro h))
 all_goals refine ret1b Tryd.func28 Tryd.results28 ?_
 all_goals exact ret_bool (by first|(rw [decide_eq_true (by omega)])|(rw [decide_eq_false (by omega)]))
theorem held_holds (f t s:Int) (w:World) (h1:0≤f∧f≤1402560) (h2:0≤t∧t≤1402560) :
  Calls Tryd.prog 20 #[.int .i64 f,.int .i64 t,.int .i64 s] w fun e w'=>∃ a' c',e=.returned (.agg #[.int .i64 f,.int .i64 t,.slice a' 1 c',.int .i64 0,.int .i64 0])∧SlAt w' a' 2 ([(s,t-f)].map hoV)∧(∀ p,a'=some p→w.heap.size≤p.block)∧Below w.heap.size w w':=by
 refine enterA [(0,.int .i64 f),(1,.int .i64 t),(2,.int .i64 s)] Tryd.func20 Tryd.ntmps20 ?_
 all_goals (refine go ?_;and_intros<;>(try exact trivial)<;>repeat (first|refine fun (Bk:Nat)=>?_|intro h))
 repeat' ((first|(apply G.sliceL;rfl;rfl;rfl;rfl;rfl;rfl;rfl;rfl;intro Bs))<;>(refine go ?_;and_intros<;>(try exact trivial)<;>repeat (first|refine fun (Bk:Nat)=>?_|intro h)))
 (refine ret1 Tryd.func20 Tryd.results20 ?_;intro w' hw)
 refine ⟨some ⟨_,0,none⟩,1,rfl,SlAt.ofBlk (f:=hoV) (sz:=2) (l:=[(s,t-f)]) (fun _=>rfl) hw (List.Mem.head _),fun p hp=>?_,hw.below⟩
 cases hp
 exact ((hw.old _ (List.Mem.head _)).2 _ rfl).1
end Go.Proofs.YtcdgibkbbcekhaaDoor
/-
 Contracts: the ledger that adds up volumes.
-/
namespace Go.Proofs.YtcdgibkbbcekhaaDoor
open Go.RowKit Go.Sl Go.Num
def k2V (p:Int×Int):Value:=.agg #[.int .i64 p.1,.int .i64 p.2]
def ofR (l:List Spn) (k t:Int):Rat:=if k < 0 then 0 else match l[k.toNat]? with
 | some s=>rateOf s t
 | none=>0
def Rates (l:List Spn) (o:Obj):Prop:=∃ es clock L,o=.map es clock∧MapIs k2V es clock L∧∀ k t v,getM (k,t) L=some v→v=qA (rQ (ofR l k t))
theorem Rates.nil {l:List Spn}:Rates l (.map #[] 0):=⟨_,_,[],rfl,MapIs.nil,fun k t v h=>by cases h⟩
theorem ofR_at {l:List Spn}{k:Nat}{t:Int} (hk:k < l.length):ofR l (k:Int) t=rateOf l[k] t:=by
 rw [ofR,if_neg (by omega),Int.toNat_natCast,List.getElem?_eq_getElem hk]
end Go.Proofs.YtcdgibkbbcekhaaDoor
/-
 Plain laws: a volume is the sum over the spans,and over what a map of counts holds.
-/
namespace Go.Proofs.YtcdgibkbbcekhaaDoor
open Go.RowKit Go.Sl Go.Num
def segSum (g:Int→Rat):List Int→Rat
 | []=>0
 | x::r=>g x+segSum g r
def InOrd:Int→List Spn→Prop
 | _,[]=>True
 | x,s::r=>x≤s.from_∧s.from_ < s.to_∧InOrd s.to_ r
theorem InOrd.mono {x y:Int}{l:List Spn} (h:InOrd y l) (hxy:x≤y):InOrd x l:=by
 cases l with
 | nil=>trivial
 | cons s r=>exact ⟨Int.le_trans hxy h.1,h.2⟩
theorem inOrd_of {l:List Spn}{x:Int} (h:spErr x l=0):InOrd x l:=by
 induction l generalizing x with
 | nil=>trivial
 | cons s r ih =>
  rw [spErr] at h
  split at h
  ·cases h
  rename_i c1
  simp only [Bool.or_eq_true,Bool.not_eq_true',decide_eq_false_iff_not,decide_eq_true_eq,not_or,Decidable.not_not] at c1
  exact ⟨by omega,c1.1.1.2.1,ih h⟩
theorem InOrd.none {x t:Int}{l:List Spn} (h:InOrd x l) (ht:t < x):spanAt l t=l.length:=by
 induction l generalizing x with
 | nil=>rfl
 | cons s r ih =>
  have h1:=ih h.2.2 (by have:=h.1;have:=h.2.1;omega)
  unfold spanAt at *
  rw [List.findIdx_cons,show inS t s=false from by have:=h.1;simp [inS];omega,h1];simp
theorem worth_cons {x t st:Int}{s:Spn}{l:List Spn} (h:InOrd x (s::l)):worthOf (s::l) t st=(if inS t s=true then rateOf s st else 0)+worthOf l t st:=by
 unfold worthOf spanAt
 rw [List.findIdx_cons]
 cases hi:inS t s with
 | true =>
  have h1:t < s.to_:=by simp [inS] at hi;exact hi.2
  have h2:=h.2.2.none h1
  unfold spanAt at h2
  rw [h2]
  simp [Rat.add_zero]
 | false=>simp [Rat.zero_add]
def wsum (g:Int→Rat):List (Int×Int)→Rat
 | []=>0
 | (x,n)::r=>(n:Rat)*g x+wsum g r
theorem wsum_bump (g:Int→Rat) (x:Int):∀ L:List (Int×Int),wsum g (bump x L)=wsum g L+g x
 | []=>by simp [bump,wsum];grind
 | (y,n)::r=>by
  rw [bump]
  split
  ·rename_i h;subst h
   rw [wsum,wsum,Rat.intCast_add];grind
  ·rw [wsum,wsum,wsum_bump g x r];grind
def okL (n:Int) (L:List (Int×Int)):Prop:=∀ p∈L,(0≤p.1∧p.1≤1000)∧0≤p.2∧p.2≤n
theorem okL.bump {n x:Int} (hx:0≤x∧x≤1000) (hn:0≤n):∀ {L:List (Int×Int)},okL n L→okL (n+1) (bump x L)
 | [],_,p,hp=>by simp [Proofs.YtcdgibkbbcekhaaDoor.bump] at hp;subst hp;exact ⟨hx,by show (0:Int)≤1;decide,by show (1:Int)≤n+1;omega⟩
 | (y,m)::r,h,p,hp=>by
  have h1:=h _ (List.mem_cons_self ..)
  rw [Proofs.YtcdgibkbbcekhaaDoor.bump] at hp
  split at hp
  ·rcases List.mem_cons.1 hp with rfl|hp
   ·exact ⟨hx,by show 0≤m+1;have:=h1.2.1;dsimp only at this;omega,by show m+1≤n+1;have:=h1.2.2;dsimp only at this;omega⟩
   ·have h2:=h _ (List.mem_cons_of_mem _ hp);exact ⟨h2.1,h2.2.1,by omega⟩
  ·rcases List.mem_cons.1 hp with rfl|hp
   ·exact ⟨h1.1,h1.2.1,by have:=h1.2.2;omega⟩
   ·exact okL.bump hx hn (fun q hq=>h q (List.mem_cons_of_mem _ hq)) p hp
theorem okL.len {x:Int}:∀ (L:List (Int×Int)),(Proofs.YtcdgibkbbcekhaaDoor.bump x L).length≤L.length+1
 | []=>Nat.le_refl _
 | (y,m)::r=>by
  rw [Proofs.YtcdgibkbbcekhaaDoor.bump]
  split
  ·simp
  ·simpa using okL.len r
theorem okL.cnt {n x:Int} (hn:0≤n):∀ {L:List (Int×Int)},okL n L→0≤Proofs.YtcdgibkbbcekhaaDoor.cnt x L∧Proofs.YtcdgibkbbcekhaaDoor.cnt x L≤n
 | [],_=>⟨Int.le_refl _,hn⟩
 | (y,m)::r,h=>by
  rw [Proofs.YtcdgibkbbcekhaaDoor.cnt]
  split
  ·exact (h _ (List.mem_cons_self ..)).2
  ·exact okL.cnt hn fun q hq=>h q (List.mem_cons_of_mem _ hq)
end Go.Proofs.YtcdgibkbbcekhaaDoor
/-
 Contracts: the runs that a history is.
-/
namespace Go.Proofs.YtcdgibkbbcekhaaDoor
open Go.RowKit Go.Sl Go.Num
def rawR (r:Rn) (s:Int):Prop:=r.tab=[(s,r.to_-r.from_)]∧r.lo=0∧r.hi=0
theorem rnV_len (r:Rn):(rnV r).length=5:=rfl
theorem bothEq_holds (p r:Rn) (s:Int) (w:World) (hp:rawR p s) (hr:rawR r s) (hA:TabAt w p) (hB:TabAt w r) (h1:0≤p.from_∧p.from_≤1402560) (h2:0≤r.to_∧r.to_≤1402560) :
  Calls Tryd.prog 21 #[rnA p,rnA r] w fun e w'=>∃ a' c',e=.returned (.tuple #[.agg #[.int .i64 p.from_,.int .i64 r.to_,.slice a' 1 c',.int .i64 0,.int .i64 0],.bool true])∧SlAt w' a' 2 ([(s,r.to_-p.from_)].map hoV)∧(∀ p,a'=some p→w.heap.size≤p.block)∧Below w.heap.size w w':=by
 have hra:=fun w'=>raw_holds p w'
 have hrb:=fun w'=>raw_holds r w'
 have hh:=fun w'=>held_holds p.from_ r.to_ s w' h1 h2
 obtain ⟨f,t,tab,adr,cap,lo,hi⟩:=p
 obtain ⟨f2,t2,tab2,adr2,cap2,lo2,hi2⟩:=r
 dsimp only [rawR] at hp hr h1 h2 hh
 obtain ⟨rfl,rfl,rfl⟩:=hp
 obtain ⟨rfl,rfl,rfl⟩:=hr
 obtain ⟨b1,o1,rfl,hr1⟩:=SlAt.all hA (Nat.succ_pos _)
 obtain ⟨b2,o2,rfl,hr2⟩:=SlAt.all hB (Nat.succ_pos _)
 have hr1:=hr1 0 (Nat.succ_pos _)
 have hr2:=hr2 0 (Nat.succ_pos _)
 dsimp only [rnA,hoV,List.getElem_cons_zero,List.length_cons,List.length_nil,List.map_cons,List.map_nil] at *
 simp only [Nat.zero_add,eq_self,decide_true] at hra hrb
 refine enterA [(0,.agg #[.int .i64 f,.int .i64 t,.slice (some ⟨b1,o1,none⟩) 1 cap,.int .i64 0,.int .i64 0]),(1,.agg #[.int .i64 f2,.int .i64 t2,.slice (some ⟨b2,o2,none⟩) 1 cap2,.int .i64 0,.int .i64 0])] Tryd.func21 Tryd.ntmps21 ?_
 all_goals (refine goR ?_;and_intros<;>(try exact trivial)<;>intros)
 repeat' ((first|(apply G.cV (g:=28) (vs:=[.agg #[.int .i64 f,.int .i64 t,.slice (some ⟨b1,o1,none⟩) 1 cap,.int .i64 0,.int .i64 0]]);rfl;rfl;exact fun w' _=>hra w')|(apply G.cV (g:=28) (vs:=[.agg #[.int .i64 f2,.int .i64 t2,.slice (some ⟨b2,o2,none⟩) 1 cap2,.int .i64 0,.int .i64 0]]);rfl;rfl;exact fun w' _=>hrb w')|(apply J.regA (.q 0 <| .q 1 <| .q 2 <| .q 3 <| .q 4 <| .q 5 <| .q 6 <| .q 7 <| .q 8 <| .e 9 <| .r 10 <| .q 11 <| .nil);exact Tryd.mixed;decide +kernel)|(apply G.cN (g:=20) (fun a' c'=>.agg #[.int .i64 f,.int .i64 t2,.slice a' 1 c',.int .i64 0,.int .i64 0]) ([(s,t2-f)].map hoV);rfl;rfl;exact fun w' _=>hh w';intro a1 c1 hp1 hq1)|(apply J.regQ;exact Tryd.mixed;decide +kernel)|(apply J.regL';exact Tryd.mixed;decide +kernel))<;>(refine goR ?_;and_intros<;>(try exact trivial)<;>intros))
 refine ret2 Tryd.func21 Tryd.results21 ?_
 exact fun w' hw'=>⟨a1,c1,rfl,hw'.sl (N:=w.heap.size) mm,hq1,hw'.below⟩
theorem bothNe_holds (p r:Rn) (s u:Int) (w:World) (hp:rawR p s) (hr:rawR r u) (hA:TabAt w p) (hB:TabAt w r) (hsu:s≠u) :
  Calls Tryd.prog 21 #[rnA p,rnA r] w fun e w'=>e=.returned (.tuple #[.agg #[.int .i64 0,.int .i64 0,.slice none 0 0,.int .i64 0,.int .i64 0],.bool false])∧Below w.heap.size w w':=by
 have hra:=fun w'=>raw_holds p w'
 have hrb:=fun w'=>raw_holds r w'
 have hga:=fun w'=>gap_holds p w'
 obtain ⟨f,t,tab,adr,cap,lo,hi⟩:=p
 obtain ⟨f2,t2,tab2,adr2,cap2,lo2,hi2⟩:=r
 dsimp only [rawR] at hp hr
 obtain ⟨rfl,rfl,rfl⟩:=hp
 obtain ⟨rfl,rfl,rfl⟩:=hr
 obtain ⟨b1,o1,rfl,hr1⟩:=SlAt.all hA (Nat.succ_pos _)
 obtain ⟨b2,o2,rfl,hr2⟩:=SlAt.all hB (Nat.succ_pos _)
 have hr1:=hr1 0 (Nat.succ_pos _)
 have hr2:=hr2 0 (Nat.succ_pos _)
 dsimp only [rnA,hoV,List.getElem_cons_zero,List.length_cons,List.length_nil,List.map_cons,List.map_nil] at *
 simp only [Nat.zero_add,eq_self,decide_true,Nat.one_ne_zero,decide_false] at hra hrb hga
 refine enterA [(0,.agg #[.int .i64 f,.int .i64 t,.slice (some ⟨b1,o1,none⟩) 1 cap,.int .i64 0,.int .i64 0]),(1,.agg #[.int .i64 f2,.int .i64 t2,.slice (some ⟨b2,o2,none⟩) 1 cap2,.int .i64 0,.int .i64 0])] Tryd.func21 Tryd.ntmps21 ?_
 all_goals (refine goR ?_;and_intros<;>(try exact trivial)<;>intros)
 repeat' ((first|(apply G.cV (g:=28) (vs:=[.agg #[.int .i64 f,.int .i64 t,.slice (some ⟨b1,o1,none⟩) 1 cap,.int .i64 0,.int .i64 0]]);rfl;rfl;exact fun w' _=>hra w')|(apply G.cV (g:=28) (vs:=[.agg #[.int .i64 f2,.int .i64 t2,.slice (some ⟨b2,o2,none⟩) 1 cap2,.int .i64 0,.int .i64 0]]);rfl;rfl;exact fun w' _=>hrb w')|(apply G.cV (g:=24) (vs:=[.agg #[.int .i64 f,.int .i64 t,.slice (some ⟨b1,o1,none⟩) 1 cap,.int .i64 0,.int .i64 0]]);rfl;rfl;exact fun w' _=>hga w')|(apply J.regQ;exact Tryd.mixed;decide +kernel)|(apply J.regL';exact Tryd.mixed;decide +kernel))<;>(refine goR ?_;and_intros<;>(try exact trivial)<;>intros))
 all_goals refine ret2b Tryd.func21 Tryd.results21 ?_
 all_goals rfl
def ofStep (o:List (Int×Int×Int)) (k s:Int):List (Int×Int×Int):=match o.getLast? with
 | none=>[(k,k+1,s)]
 | some p=>if p.2.2=s then o.dropLast++[(p.1,k+1,s)] else o++[(k,k+1,s)]
def ofL:Int→List Int→List (Int×Int×Int)→List (Int×Int×Int)
 | _,[],o=>o
 | k,s::r,o=>ofL (k+1) r (ofStep o k s)
def stg (r:Rn):Int:=(r.tab.headD (0,0)).1
def key (r:Rn):Int×Int×Int:=(r.from_,r.to_,stg r)
def RawsOf (o:List Rn) (l:List (Int×Int×Int)):Prop:=o.map key=l∧∀ r∈o,rawR r (stg r)
def newR (N:Nat) (o:List Rn):Prop:=∀ r∈o,∀ p,r.adr=some p→N≤p.block
theorem famTab {w0 w:World}{M:List Row}{N:Nat}{o:List Rn}{r:Rn} (hw:Sat w0 M w) (hr:r∈o) (hm:famRow N Rn.adr 2 (fun r=>r.tab.map hoV) o∈M:=by (repeat (first|exact List.Mem.head _|apply List.Mem.tail))):TabAt w r:=hw.fam hm r hr
theorem slTab {w0 w:World}{M:List Row}{N:Nat}{r:Rn} (hw:Sat w0 M w) (hm:slRow N r.adr 2 (r.tab.map hoV)∈M:=by (repeat (first|exact List.Mem.head _|apply List.Mem.tail))):TabAt w r:=hw.sl hm
theorem ofRuns_holds (f:Int) (a:Option Addr) (hs:List Int) (c:Nat) (w:World) (hA:SlAt w a 1 (hs.map isV)) (hl:hs.length≤1000) (hr:rightH f hs=true) :
  Calls Tryd.prog 6 #[.agg #[.int .i64 f,.slice a hs.length c]] w fun e w'=>∃ (L:List Rn) (a':Option Addr) (c':Nat),RawsOf L (ofL f hs [])∧e=.returned (.tuple #[.slice a' L.length c',.int .i64 0])∧L.length≤c'∧L.length≤hs.length∧RunsAt w' a' L∧(∀ p,a'=some p→w.heap.size≤p.block)∧newR w.heap.size L∧Below w.heap.size w w':=by
 have hri:=fun w' (hb:Below w.heap.size w w')=>hRight_holds f a hs c w' (hA.below hb) (by omega)
 rw [hr] at hri
 obtain ⟨k3,k4⟩:=rightH_ok hr
 generalize hT:ofL f hs []=T
 refine enterA [(0,.agg #[.int .i64 f,.slice a hs.length c])] Tryd.func6 Tryd.ntmps6 ?_
 all_goals (refine go ?_;and_intros<;>(try exact trivial)<;>intros)
 repeat' ((first|(refine G.cvb hri ?_))<;>(refine go ?_;and_intros<;>(try exact trivial)<;>intros))
 clear hri
 apply J.nilOwn (E:=50) (size:=5)
 apply J.fam0 Rn.adr 2 (fun r=>r.tab.map hoV)
 refine J.loop (c:=_) ((0,.slice none 0 0,0,[]):Nat×Value×Nat×List Rn) (fun s=>hs.length-s.1) (fun s=>[(1,.pointer (some ⟨_,0,none⟩)),(4,s.2.1),(14,.slice a hs.length c),(15,.int .i64 hs.length),(16,.int .i64 s.1)]) (fun s=>[famRow w.heap.size Rn.adr 2 (fun r=>r.tab.map hoV) s.2.2.2,.own 0 s.2.1 50 5 s.2.2.1 (flat rnV s.2.2.2),.blk _ 24 [.int .i64 f,.slice a hs.length c] 2]) (fun s=>s.1≤hs.length∧s.2.2.2.length=s.2.2.1∧s.2.2.1≤s.1∧ofL (f+s.1) (hs.drop s.1) (s.2.2.2.map key)=T∧(∀ r∈s.2.2.2,rawR r (stg r))∧(∀ r∈s.2.2.2,0≤r.from_∧r.from_≤1402560)∧newR w.heap.size s.2.2.2) ?_ sbT sbL ?_
 ·exact ⟨Nat.zero_le _,rfl,Nat.le_refl _,by dsimp only;rw [List.drop_zero,List.map_nil,Int.natCast_zero,Int.add_zero];exact hT,fun r h=>(by cases h),fun r h=>(by cases h),fun r h=>(by cases h)⟩
 clear hT
 intro ⟨k,u,j,o⟩ ⟨h3,h4,h5,h6,h7,h8,h9⟩ ih
 dsimp only at h3 h4 h5 h6 h7 h8 h9 ⊢
 by_cases hk:k < hs.length
 ·obtain ⟨ba,oa,rfl,hra⟩:=SlAt.all hA (by omega)
  have hrk:=hra k hk
  rw [List.drop_eq_getElem_cons hk,ofL] at h6
  generalize hs[k]=s at *
  dsimp only [isV] at *
  have hh:=fun w'=>held_holds (f+k) (f+k+1) s w' (by omega) (by omega)
  rcases nil_or_snoc o with rfl|⟨o',p,rfl⟩
  ·obtain rfl:j=0:=by simpa using h4.symm
   all_goals (refine go ?_;and_intros<;>(try exact trivial)<;>intros)
   repeat' ((first|(apply G.cN (g:=20) (fun a' c'=>.agg #[.int .i64 (f+k),.int .i64 (f+k+1),.slice a' 1 c',.int .i64 0,.int .i64 0]) ([(s,f+k+1-(f+k))].map hoV);rfl;rfl;exact fun w' _=>hh w';intro a1 c1 hp1 hq1)|(apply G.sliceL;rfl;rfl;rfl;rfl;rfl;rfl;rfl;rfl;intro Bs)|(apply G.ap;rfl;rfl;rfl;(repeat (first|exact RAt.head|apply RAt.tail));exact SrcV.blk (by exact mm) rfl rfl;exact flat1 rnV [] ⟨f+k,f+k+1,[(s,f+k+1-(f+k))],a1,c1,0,0⟩;omega;omega;intro v2)|(refine G.ownOpen RAt.au (by omega) ?_;intro g cap hgc hcm hv;subst hv))<;>(refine go ?_;and_intros<;>(try exact trivial)<;>intros))
   refine J.blkCut (l':=[⟨f+k,f+k+1,[(s,f+k+1-(f+k))],a1,c1,0,0⟩]) 1 rnV_len RAt.au hgc hcm (Nat.le_refl _) rfl ?_
   refine J.famAdd (r:=(⟨f+k,f+k+1,[(s,f+k+1-(f+k))],a1,c1,0,0⟩:Rn)) (o:=[]) mm mm ?_
   exact J.fin (ih (k+1,_,1,[⟨f+k,f+k+1,[(s,f+k+1-(f+k))],a1,c1,0,0⟩]) ⟨hk,rfl,by dsimp only;omega,by dsimp only;rw [← h6,show f+((k+1:Nat):Int)=f+k+1 by omega];rfl,fun r hr=>by rw [List.mem_singleton.1 hr];exact ⟨rfl,rfl,rfl⟩,fun r hr=>by rw [List.mem_singleton.1 hr];dsimp only;omega,fun r hr=>by rw [List.mem_singleton.1 hr];exact hq1⟩ (by dsimp only;omega))
  ·have hj:j=o'.length+1:=by rw [← h4];simp
   have hpm:p∈o'++[p]:=by simp
   have hp7:=h7 p hpm
   have hp8:=h8 p hpm
   rw [List.map_append,List.map_cons,List.map_nil,ofStep,List.getLast?_concat] at h6
   dsimp only at h6
   subst hj
   have hrw:∀ a1 c1,rawR (⟨f+k,f+k+1,[(s,f+k+1-(f+k))],a1,c1,0,0⟩:Rn) s:=fun _ _=>⟨rfl,rfl,rfl⟩
   have hL1:∀ a1 c1,((o'++[p])++[(⟨f+k,f+k+1,[(s,f+k+1-(f+k))],a1,c1,0,0⟩:Rn)])[o'.length]?=some p:=fun _ _=>by simp
   have hL2:∀ a1 c1,((o'++[p])++[(⟨f+k,f+k+1,[(s,f+k+1-(f+k))],a1,c1,0,0⟩:Rn)])[o'.length+1]?=some ⟨f+k,f+k+1,[(s,f+k+1-(f+k))],a1,c1,0,0⟩:=fun _ _=>by simp
   by_cases hs:stg p=s
   ·rw [if_pos (show (key p).2.2=s from hs),List.dropLast_concat] at h6
    dsimp only [key] at h6
    rw [hs] at hp7
    have hbe:=fun a1 c1 w' hA' hB'=>bothEq_holds p ⟨f+k,f+k+1,[(s,f+k+1-(f+k))],a1,c1,0,0⟩ s w' hp7 (hrw a1 c1) hA' hB' hp8 (by dsimp only;omega)
    dsimp only at hbe
    all_goals (refine goR ?_;and_intros<;>(try exact trivial)<;>intros)
    repeat' ((first|(apply G.cN (g:=20) (fun a' c'=>.agg #[.int .i64 (f+k),.int .i64 (f+k+1),.slice a' 1 c',.int .i64 0,.int .i64 0]) ([(s,f+k+1-(f+k))].map hoV);rfl;rfl;exact fun w' _=>hh w';intro a1 c1 hp1 hq1)|(apply G.sliceL;rfl;rfl;rfl;rfl;rfl;rfl;rfl;rfl;intro Bs)|(apply G.ap;rfl;rfl;rfl;(repeat (first|exact RAt.head|apply RAt.tail));exact SrcV.blk (by exact mm) rfl rfl;exact flat1 rnV (o'++[p]) ⟨f+k,f+k+1,[(s,f+k+1-(f+k))],a1,c1,0,0⟩;omega;omega;intro v2)|(refine G.ownOpen RAt.au (by omega) ?_;intro g cap hgc hcm hv;subst hv)|(apply J.regA (.q 0 <| .q 1 <| .q 2 <| .q 3 <| .q 4 <| .q 5 <| .q 6 <| .q 7 <| .q 8 <| .q 9 <| .f 10 (.q 11 <| .q 12 <| .q 13 <| .e 14 <| .r 15 <| .q 16 <| .nil) 14 (.e 10 <| .q 11 <| .q 12 <| .q 13 <| .r 15 <| .q 16 <| .nil));exact Tryd.mixed;decide +kernel)|(apply G.ix (i:=o'.length);rfl;rfl;omega;omega;rfl)|(apply G.ix (i:=o'.length+1);rfl;rfl;omega;omega;rfl)|(apply G.ld;rfl;exact LdV.flat rnV_len mm (hL1 a1 c1) rfl;rfl)|(apply G.ld;rfl;exact LdV.flat rnV_len mm (hL2 a1 c1) rfl;rfl)|(apply G.cN (g:=21) (fun a' c'=>.tuple #[.agg #[.int .i64 p.from_,.int .i64 (f+k+1),.slice a' 1 c',.int .i64 0,.int .i64 0],.bool true]) ([(s,f+k+1-p.from_)].map hoV);rfl;rfl;exact fun w' hw'=>hbe a1 c1 w' (famTab (N:=w.heap.size) hw' hpm) (slTab (N:=w.heap.size) hw');intro a2 c2 hp2 hq2)|(apply G.fork)|(apply J.regQ;exact Tryd.mixed;decide +kernel)|(apply J.regL';exact Tryd.mixed;decide +kernel))<;>(refine goR ?_;and_intros<;>(try exact trivial)<;>intros))
    all_goals
     refine J.blkCut (l':=o') o'.length rnV_len RAt.au (by omega) hcm (by simp) (by simp) ?_
     all_goals (refine goR ?_;and_intros<;>(try exact trivial)<;>intros)
     repeat' ((first|(apply J.regA (.q 0 <| .q 1 <| .q 2 <| .q 3 <| .q 4 <| .e 5 <| .r 6 <| .q 7 <| .nil);exact Tryd.mixed;decide +kernel)|(apply G.slH (len:=o'.length);rfl;rfl;omega;omega;omega;rfl)|(apply G.sliceL;rfl;rfl;rfl;rfl;rfl;rfl;rfl;rfl;intro Bs)|(apply G.ap;rfl;rfl;rfl;(repeat (first|exact RAt.head|apply RAt.tail));exact SrcV.blk (by exact mm) rfl rfl;exact flat1 rnV o' ⟨p.from_,f+k+1,[(s,f+k+1-p.from_)],a2,c2,0,0⟩;omega;omega;intro v3)|(apply J.regQ;exact Tryd.mixed;decide +kernel)|(apply J.regL';exact Tryd.mixed;decide +kernel))<;>(refine goR ?_;and_intros<;>(try exact trivial)<;>intros))
     refine J.famSub (o:=o'++[p]) (o':=o') mm (fun r hr=>List.mem_append_left _ hr) ?_
     refine J.famAdd (r:=(⟨p.from_,f+k+1,[(s,f+k+1-p.from_)],a2,c2,0,0⟩:Rn)) (o:=o') mm mm ?_
     exact J.fin (ih (k+1,_,o'.length+1,o'++[⟨p.from_,f+k+1,[(s,f+k+1-p.from_)],a2,c2,0,0⟩]) ⟨hk,by simp,by dsimp only;omega,by dsimp only;rw [← h6,show f+((k+1:Nat):Int)=f+k+1 by omega,List.map_append];rfl,fun r hr=>(List.mem_append.1 hr).elim (fun h=>h7 r (List.mem_append_left _ h)) (fun h=>by rw [List.mem_singleton.1 h];exact ⟨rfl,rfl,rfl⟩),fun r hr=>(List.mem_append.1 hr).elim (fun h=>h8 r (List.mem_append_left _ h)) (fun h=>by rw [List.mem_singleton.1 h];exact hp8),fun r hr=>(List.mem_append.1 hr).elim (fun h=>h9 r (List.mem_append_left _ h)) (fun h=>by rw [List.mem_singleton.1 h];exact hq2)⟩ (by dsimp only;omega))
   ·rw [if_neg (show ¬ (key p).2.2=s from hs)] at h6
    have hbn:=fun a1 c1 w' hA' hB'=>bothNe_holds p ⟨f+k,f+k+1,[(s,f+k+1-(f+k))],a1,c1,0,0⟩ (stg p) s w' hp7 (hrw a1 c1) hA' hB' hs
    all_goals (refine goR ?_;and_intros<;>(try exact trivial)<;>intros)
    repeat' ((first|(apply G.cN (g:=20) (fun a' c'=>.agg #[.int .i64 (f+k),.int .i64 (f+k+1),.slice a' 1 c',.int .i64 0,.int .i64 0]) ([(s,f+k+1-(f+k))].map hoV);rfl;rfl;exact fun w' _=>hh w';intro a1 c1 hp1 hq1)|(apply G.sliceL;rfl;rfl;rfl;rfl;rfl;rfl;rfl;rfl;intro Bs)|(apply G.ap;rfl;rfl;rfl;(repeat (first|exact RAt.head|apply RAt.tail));exact SrcV.blk (by exact mm) rfl rfl;exact flat1 rnV (o'++[p]) ⟨f+k,f+k+1,[(s,f+k+1-(f+k))],a1,c1,0,0⟩;omega;omega;intro v2)|(refine G.ownOpen RAt.au (by omega) ?_;intro g cap hgc hcm hv;subst hv)|(apply J.regA (.q 0 <| .q 1 <| .q 2 <| .q 3 <| .q 4 <| .q 5 <| .q 6 <| .q 7 <| .q 8 <| .q 9 <| .q 10 <| .q 11 <| .q 12 <| .q 13 <| .e 14 <| .r 15 <| .q 16 <| .nil);exact Tryd.mixed;decide +kernel)|(apply G.ix (i:=o'.length);rfl;rfl;omega;omega;rfl)|(apply G.ix (i:=o'.length+1);rfl;rfl;omega;omega;rfl)|(apply G.ld;rfl;exact LdV.flat rnV_len mm (hL1 a1 c1) rfl;rfl)|(apply G.ld;rfl;exact LdV.flat rnV_len mm (hL2 a1 c1) rfl;rfl)|(apply G.cV (g:=21);rfl;rfl;exact fun w' hw'=>hbn a1 c1 w' (famTab (N:=w.heap.size) hw' hpm) (slTab (N:=w.heap.size) hw'))|(apply J.regQ;exact Tryd.mixed;decide +kernel)|(apply J.regL';exact Tryd.mixed;decide +kernel))<;>(refine goR ?_;and_intros<;>(try exact trivial)<;>intros))
    refine J.blkCut (l':=o'++[p]++[⟨f+k,f+k+1,[(s,f+k+1-(f+k))],a1,c1,0,0⟩]) (o'.length+2) rnV_len RAt.au (by omega) hcm (by simp) (by rw [List.take_of_length_le (by simp)]) ?_
    refine J.famAdd (r:=(⟨f+k,f+k+1,[(s,f+k+1-(f+k))],a1,c1,0,0⟩:Rn)) (o:=o'++[p]) mm mm ?_
    exact J.fin (ih (k+1,_,o'.length+2,o'++[p]++[⟨f+k,f+k+1,[(s,f+k+1-(f+k))],a1,c1,0,0⟩]) ⟨hk,by simp,by dsimp only;omega,by dsimp only;rw [← h6,show f+((k+1:Nat):Int)=f+k+1 by omega,List.map_append,List.map_append];rfl,fun r hr=>(List.mem_append.1 hr).elim (fun h=>h7 r h) (fun h=>by rw [List.mem_singleton.1 h];exact ⟨rfl,rfl,rfl⟩),fun r hr=>(List.mem_append.1 hr).elim (fun h=>h8 r h) (fun h=>by rw [List.mem_singleton.1 h];dsimp only;omega),fun r hr=>(List.mem_append.1 hr).elim (fun h=>h9 r h) (fun h=>by rw [List.mem_singleton.1 h];exact hq1)⟩ (by dsimp only;omega))
 ·obtain rfl:k=hs.length:=by omega
  rw [List.drop_length,ofL] at h6
  subst h4
  apply J.ownForm (i:=1) rfl
  intro a2 c2 hu
  subst hu
  clear ih
  all_goals (refine go ?_;and_intros<;>(try exact trivial)<;>intros)
  refine ret2 Tryd.func6 Tryd.results6 ?_
  intro w' hw'
  have ho:=hw'.hold (Row.own 0 (.slice a2 o.length c2) 50 5 o.length (flat rnV o)) (by exact mm)
  refine ⟨o,a2,c2,⟨h6,h7⟩,rfl,?_,h5,⟨SlAt.ofOwn rnV_len ho rfl,fun r hr=>famTab (N:=w.heap.size) hw' hr⟩,?_,h9,hw'.below⟩
  ·obtain ⟨_,⟨e1,e2⟩|⟨g,cap,cur,e1,_,_,e2,_⟩⟩:=ho
   ·omega
   ·cases e1;exact e2
  ·rintro p rfl
   exact ((hw'.old (Row.own 0 (.slice (some p) o.length c2) 50 5 o.length (flat rnV o)) (by exact mm)).2 p.block rfl).1
end Go.Proofs.YtcdgibkbbcekhaaDoor
/-
 Contracts: the volume of a history;of a duration table,as the specification has it.
-/
namespace Go.Proofs.YtcdgibkbbcekhaaDoor
open Go.RowKit Go.Sl Go.Num
theorem ofBad_holds (f:Int) (a:Option Addr) (hs:List Int) (c:Nat) (w:World) (hA:SlAt w a 1 (hs.map isV)) (hl:hs.length≤1000000000) (hr:rightH f hs=false) :
  Calls Tryd.prog 6 #[.agg #[.int .i64 f,.slice a hs.length c]] w fun e w'=>e=.returned (.tuple #[.slice none 0 0,.int .i64 1])∧Below w.heap.size w w':=by
 have hri:=fun w' (hb:Below w.heap.size w w')=>hRight_holds f a hs c w' (hA.below hb) hl
 rw [hr] at hri
 refine enterA [(0,.agg #[.int .i64 f,.slice a hs.length c])] Tryd.func6 Tryd.ntmps6 ?_
 all_goals (refine go ?_;and_intros<;>(try exact trivial)<;>intros)
 repeat' ((first|(refine G.cvb hri ?_))<;>(refine go ?_;and_intros<;>(try exact trivial)<;>intros))
 all_goals refine ret2b Tryd.func6 Tryd.results6 ?_
 all_goals rfl
theorem oneE_gap {r:Rn} (h:oneE r=0) (h0:r.tab.length=0):0≤r.lo∧r.lo≤r.hi∧r.hi≤1000:=by
 rw [oneE,if_pos h0] at h
 split at h
 ·cases h
 ·omega
theorem oneE_tab {r:Rn} (h:oneE r=0) (h0:r.tab.length≠0):(∀ x∈r.tab,(0≤x.1∧x.1≤1000)∧1≤x.2∧x.2≤1402560)∧sortedT none r.tab=true∧sumT r.tab=r.to_-r.from_∧r.lo=0∧r.hi=0:=by
 rw [oneE,if_neg h0] at h
 split at h
 ·cases h
 ·rename_i h1
  split at h
  ·rename_i h2
   refine ⟨fun x hx=>?_,h2⟩
   have h3:=fun e=>h1 (List.any_eq_true.2 ⟨x,hx,e⟩)
   simpa [badH] using h3
  ·cases h
theorem rnErr_one {p:Option Rn}{l:List Rn} (h:rnErr p l=0):∀ r∈l,oneE r=0:=by
 induction l generalizing p with
 | nil=>simp
 | cons s r ih =>
  obtain ⟨B,hs⟩:∃ B:Bool,(if inT s=false then 3 else if B=true then 1 else if oneE s≠0 then oneE s else rnErr (some s) r)=(0:Int):=by
   cases p with
   | none=>exact ⟨false,h⟩
   | some q=>exact ⟨decide (s.from_≠q.to_),h⟩
  by_cases c1:inT s=false
  ·rw [if_pos c1] at hs;cases hs
  rw [if_neg c1] at hs
  cases B
  ·rw [if_neg (by decide)] at hs
   by_cases c2:oneE s≠0
   ·rw [if_pos c2] at hs;exact absurd hs c2
   rw [if_neg c2] at hs
   intro t ht
   rcases List.mem_cons.1 ht with rfl|ht
   ·exact Decidable.not_not.1 c2
   ·exact ih hs t ht
  ·rw [if_pos rfl] at hs;cases hs
theorem runsErr_rn {l:List Rn} (h:runsErr l=0):rnErr none l=0:=by
 rw [runsErr] at h
 split at h
 ·cases h
 ·split at h
  ·rename_i h1;exact absurd h h1
  ·rename_i h1;exact Decidable.not_not.1 h1
theorem runsErr_one {l:List Rn} (h:runsErr l=0):∀ r∈l,oneE r=0:=rnErr_one (runsErr_rn h)
def tableE (r:Rn) (s:Spn):Q3×Int :=
 if runsErr [r]≠0 then (zero3,runsErr [r]) else if ¬ RightS s then (zero3,1) else if r.from_ < s.from_∨s.to_ < r.to_ then (zero3,3)
 else if r.tab.length=0 then (if rateOf s r.lo=rateOf s r.hi then (rQ (((r.to_-r.from_:Int):Rat)*rateOf s r.lo),0) else (zero3,29)) else (rQ (wsum (rateOf s) r.tab),0)
end Go.Proofs.YtcdgibkbbcekhaaDoor
/-
 Contracts: the classes of a run's ticks.
-/
namespace Go.Proofs.YtcdgibkbbcekhaaDoor
open Go.RowKit Go.Sl Go.Num
def ovl (r:Rn) (s:Spn):Int:=min s.to_ r.to_-max s.from_ r.from_
def clsS (r:Rn):Int→Int→List Spn→List (Int×Int)
 | _,rest,[]=>if 0 < rest then [(-1,rest)] else []
 | k,rest,s::t=>if ovl r s≤0 then clsS r (k+1) rest t else (k,ovl r s)::clsS r (k+1) (rest-ovl r s) t
def clsL (l:List Spn) (r:Rn):List (Int×Int):=clsS r 0 (r.to_-r.from_) l
end Go.Proofs.YtcdgibkbbcekhaaDoor
/-
 Contract: what a ledger takes of a run.
-/
namespace Go.Proofs.YtcdgibkbbcekhaaDoor
open Go.RowKit Go.Sl Go.Num
def okE (l:List Spn) (r:Rn) (e:Int×Int):Prop:=match r.tab with
 | []=>ofR l e.1 r.lo=ofR l e.1 r.hi
 | h::_=>∀ x∈r.tab,ofR l e.1 x.1-ofR l ((clsL l r).headD (0,0)).1 x.1=ofR l e.1 h.1-ofR l ((clsL l r).headD (0,0)).1 h.1
def takeB (l:List Spn) (r:Rn):Prop:=∀ e∈clsL l r,okE l r e
def takeV (l:List Spn) (r:Rn):Rat:=match r.tab with
 | []=>wsum (fun k=>ofR l k r.lo) (clsL l r)
 | h::_=>wsum (ofR l ((clsL l r).headD (0,0)).1) r.tab+wsum (fun k=>ofR l k h.1-ofR l ((clsL l r).headD (0,0)).1 h.1) (clsL l r)
theorem clsS_ok {r:Rn}{l0:List Spn}:∀ (l:List Spn) (k q:Int),0≤k→k+l.length≤l0.length→q≤1402560→(∀ s∈l,0≤s.from_∧s.to_≤1402560)→∀ e∈clsS r k q l,e.1 < l0.length∧-1≤e.1∧0 < e.2∧e.2≤1402560
 | [],k,q,h0,h,hq,_,e,he=>by
  rw [clsS] at he
  split at he
  ·rw [List.mem_singleton.1 he];refine ⟨?_,Int.le_refl _,by assumption,hq⟩;dsimp only;omega
  ·cases he
 | s::t,k,q,h0,h,hq,hs,e,he=>by
  rw [clsS] at he
  have h1:=hs s (List.mem_cons_self ..)
  simp only [List.length_cons] at h
  split at he
  ·exact clsS_ok t (k+1) q (by omega) (by omega) hq (fun x hx=>hs x (List.mem_cons_of_mem _ hx)) e he
  ·rename_i h2
   unfold ovl at *
   rcases List.mem_cons.1 he with rfl|he
   ·refine ⟨?_,?_,?_,?_⟩<;>dsimp only<;>omega
   ·exact clsS_ok t (k+1) _ (by omega) (by omega) (by omega) (fun x hx=>hs x (List.mem_cons_of_mem _ hx)) e he
end Go.Proofs.YtcdgibkbbcekhaaDoor
/-
 Contract: the exact volume of runs.
-/
namespace Go.Proofs.YtcdgibkbbcekhaaDoor
open Go.RowKit Go.Sl Go.Num
instance (l:List Spn) (r:Rn) (e:Int×Int):Decidable (okE l r e):=by unfold okE;split<;>exact inferInstance
instance (l:List Spn) (r:Rn):Decidable (takeB l r):=by unfold takeB;exact inferInstance
def outX (rs:List Rn) (s:Spn):Bool:=match rs[0]?,rs[rs.length-1]? with
 | some a,some b=>decide (s.from_ < a.from_) || decide (b.to_ < s.to_)
 | _,_=>true
def takeS (l:List Spn):List Rn→Rat
 | []=>0
 | r::t=>takeV l r+takeS l t
def exE (rs:List Rn) (l:List Spn):Q3×Int :=
 if runsErr rs≠0 then (zero3,runsErr rs) else if spansErr l≠0 then (zero3,spansErr l) else if l.any (outX rs)=true then (zero3,19) else if ∀ r∈rs,takeB l r then (rQ (takeS l rs),0) else (zero3,29)
end Go.Proofs.YtcdgibkbbcekhaaDoor
/-
 Contract of the specification: the first history of runs.
-/
namespace Go.Proofs.YtcdgibkbbcekhaaDoor
open Go.RowKit Go.Sl Go.Num
def tabS (t:List (Int×Int)):List Int:=t.flatMap fun x=>List.replicate x.2.toNat x.1
def stagesR (r:Rn):List Int:=if r.tab.length=0 then List.replicate (r.to_-r.from_).toNat r.lo else tabS r.tab
def firstS:List Rn→List Int
 | []=>[]
 | r::t=>stagesR r++firstS t
def firstF (l:List Rn):Int:=match l with
 | []=>0
 | r::_=>r.from_
theorem tabS_cons (x:Int×Int) (t:List (Int×Int)):tabS (x::t)=List.replicate x.2.toNat x.1++tabS t:=List.flatMap_cons
theorem sumT_nn:∀ (t:List (Int×Int)),(∀ x∈t,1≤x.2)→0≤sumT t
 | [],_=>Int.le_refl _
 | x::t,h=>by
  have h1:=h _ (List.mem_cons_self ..)
  have h2:=sumT_nn t fun y hy=>h y (List.mem_cons_of_mem _ hy)
  rw [sumT];omega
end Go.Proofs.YtcdgibkbbcekhaaDoor
/-
 Contract of the specification: whether two stages of a table run can be exchanged.
-/
namespace Go.Proofs.YtcdgibkbbcekhaaDoor
open Go.RowKit Go.Sl Go.Num
def movP (x:Rn) (l:List Spn):Prop:=∃ (k:Nat) (h0:0 < x.tab.length) (hk:k < x.tab.length),0 < k∧∃ j:Nat,0 < j∧x.from_+j < x.to_∧worthOf l x.from_ x.tab[0].1+worthOf l (x.from_+j) x.tab[k].1≠worthOf l x.from_ x.tab[k].1+worthOf l (x.from_+j) x.tab[0].1
end Go.Proofs.YtcdgibkbbcekhaaDoor
/-
 Contract of the specification: the exact volume of runs.
-/
namespace Go.Proofs.YtcdgibkbbcekhaaDoor
open Go.RowKit Go.Sl Go.Num
def badR (l:List Spn) (r:Rn):Prop:=(r.tab.length=0∧freeB r l=true)∨(r.tab.length≠0∧movP r l)
end Go.Proofs.YtcdgibkbbcekhaaDoor
/-
 Plain law: the exact volume by classes is the exact volume by ticks.
-/
namespace Go.Proofs.YtcdgibkbbcekhaaDoor
open Go.RowKit Go.Sl Go.Num
def pl:Int→List Spn→Int→Int
 | _,[],_=>-1
 | k,s::l,t=>if inS t s=true then k else pl (k+1) l t
def tS (g:Int→Rat):Int→Nat→Rat
 | _,0=>0
 | f,n+1=>g f+tS g (f+1) n
theorem tS_congr {g h:Int→Rat}:∀ (n:Nat) (f:Int),(∀ t,f≤t→t < f+n→g t=h t)→tS g f n=tS h f n
 | 0,_,_=>rfl
 | n+1,f,H=>by rw [tS,tS,H f (by omega) (by omega),tS_congr n (f+1) fun t h1 h2=>H t (by omega) (by omega)]
theorem tS_add (g h:Int→Rat):∀ (n:Nat) (f:Int),tS (fun t=>g t+h t) f n=tS g f n+tS h f n
 | 0,_=>by simp [tS,Rat.add_zero]
 | n+1,f=>by rw [tS,tS,tS,tS_add g h n];grind
theorem tS_in (s:Spn) (c:Rat):∀ (n:Nat) (f:Int),tS (fun t=>if inS t s=true then c else 0) f n=((max 0 (min s.to_ (f+n)-max s.from_ f):Int):Rat)*c
 | 0,f=>by
  rw [tS,show max 0 (min s.to_ (f+(0:Nat))-max s.from_ f)=(0:Int) from by omega];simp
 | n+1,f=>by
  rw [tS,tS_in s c n (f+1)]
  by_cases h:inS f s=true
  ·rw [if_pos h]
   simp only [inS,Bool.and_eq_true,decide_eq_true_eq] at h
   rw [show max 0 (min s.to_ (f+(n+1:Nat))-max s.from_ f)=max 0 (min s.to_ (f+1+n)-max s.from_ (f+1))+1 from by omega,Rat.intCast_add]
   grind
  ·rw [if_neg h]
   simp only [inS,Bool.and_eq_true,decide_eq_true_eq] at h
   rw [show max 0 (min s.to_ (f+(n+1:Nat))-max s.from_ f)=max 0 (min s.to_ (f+1+n)-max s.from_ (f+1)) from by omega]
   grind
theorem pl_late:∀ {l:List Spn}{x t:Int} (k:Int),InOrd x l→t < x→pl k l t=-1
 | [],_,_,_,_,_=>rfl
 | s::l,x,t,k,h,ht=>by
  rw [pl,if_neg (by have:=h.1;simp [inS];omega),pl_late (k+1) h.2.2 (by have:=h.1;have:=h.2.1;omega)]
theorem pl_cons {g:Int→Rat}{s:Spn}{l:List Spn}{x t k:Int} (h:InOrd x (s::l)):g (pl k (s::l) t)=(if inS t s=true then g k-g (-1) else 0)+g (pl (k+1) l t):=by
 rw [pl]
 by_cases hi:inS t s=true
 ·rw [if_pos hi,if_pos hi,pl_late (k+1) h.2.2 (by simp only [inS,Bool.and_eq_true,decide_eq_true_eq] at hi;exact hi.2)];grind
 ·rw [if_neg hi,if_neg hi];grind
theorem cls_sum {g:Int→Rat}{r:Rn}{n:Nat} (hn:r.to_=r.from_+n):∀ (l:List Spn) (x k q:Int),InOrd x l→0≤q→r.to_-max x r.from_≤q→tS (fun t=>g (pl k l t)) r.from_ n+((q-n:Int):Rat)*g (-1)=wsum g (clsS r k q l)
 | [],x,k,q,_,hq,_=>by
  have h1:tS (fun t=>g (pl k [] t)) r.from_ n=(n:Rat)*g (-1):=by
   generalize r.from_=f
   clear hn
   induction n generalizing f with
   | zero=>simp [tS]
   | succ n ih=>rw [tS,ih,pl,show ((n+1:Nat):Rat)=(n:Rat)+1 from by simp];grind
  have e:((n:Int):Rat)=(n:Rat):=rfl
  rw [h1,clsS,Rat.intCast_sub,e]
  split
  ·rw [wsum,wsum];grind
  ·rw [wsum,show q=0 from by omega];simp;grind
 | s::l,x,k,q,h,hq,h1=>by
  rw [tS_congr n r.from_ (h:=fun t=>(if inS t s=true then g k-g (-1) else 0)+g (pl (k+1) l t)) fun t _ _=>pl_cons h,tS_add,tS_in,clsS,← hn]
  have:=h.1
  have:=h.2.1
  split
  ·rename_i ho
   rw [ovl] at ho
   rw [← cls_sum hn l s.to_ (k+1) q h.2.2 hq (by omega),show max 0 (min s.to_ r.to_-max s.from_ r.from_)=(0:Int) from by omega]
   simp;grind
  ·rename_i ho
   rw [ovl] at ho
   rw [wsum,← cls_sum hn l s.to_ (k+1) (q-ovl r s) h.2.2 (by rw [ovl];omega) (by rw [ovl];omega)]
   show ((max 0 (min s.to_ r.to_-max s.from_ r.from_):Int):Rat)*(g k-g (-1))+tS (fun t=>g (pl (k+1) l t)) r.from_ n+((q-n:Int):Rat)*g (-1)=((ovl r s:Int):Rat)*g k+(tS (fun t=>g (pl (k+1) l t)) r.from_ n+((q-ovl r s-n:Int):Rat)*g (-1))
   rw [show max 0 (min s.to_ r.to_-max s.from_ r.from_)=ovl r s from by rw [ovl];omega,show q-ovl r s-n=(q-n)-ovl r s from by omega,Rat.intCast_sub (q-n)]
   grind
theorem tS_pos {P:Int→Prop} [DecidablePred P]:∀ (n:Nat) (f:Int),0≤tS (fun t=>if P t then 1 else 0) f n∧(0 < tS (fun t=>if P t then 1 else 0) f n ↔ ∃ i:Nat,i < n∧P (f+i))
 | 0,f=>⟨Rat.le_refl,by simp [tS]⟩
 | n+1,f=>by
  have ⟨h1,h2⟩:=tS_pos (P:=P) n (f+1)
  rw [tS]
  have h3:(∃ i:Nat,i < n+1∧P (f+i)) ↔ P f∨∃ i:Nat,i < n∧P (f+1+i):=by
   constructor
   ·rintro ⟨i,hi,hp⟩
    cases i with
    | zero=>left;simpa using hp
    | succ i=>right;exact ⟨i,by omega,by rw [show f+1+(i:Int)=f+(i+1:Nat) from by omega];exact hp⟩
   ·rintro (hp|⟨i,hi,hp⟩)
    ·exact ⟨0,by omega,by simpa using hp⟩
    ·exact ⟨i+1,by omega,by rw [show f+((i+1:Nat):Int)=f+1+(i:Int) from by omega];exact hp⟩
  rw [h3,← h2]
  split
  ·rename_i hp;exact ⟨by grind,by constructor<;>intro _<;>first|exact .inl hp|grind⟩
  ·rename_i hp
   rw [Rat.zero_add]
   exact ⟨h1,by simp [hp]⟩
theorem wsum_pos {P:Int→Prop} [DecidablePred P]:∀ (L:List (Int×Int)),(∀ e∈L,0 < e.2)→0≤wsum (fun t=>if P t then 1 else 0) L∧(0 < wsum (fun t=>if P t then 1 else 0) L ↔ ∃ e∈L,P e.1)
 | [],_=>⟨Rat.le_refl,by simp [wsum]⟩
 | (y,m)::L,h=>by
  have ⟨h1,h2⟩:=wsum_pos (P:=P) L fun e he=>h e (List.mem_cons_of_mem _ he)
  have h3:(0:Rat) < (m:Rat):=by have:=h _ (List.mem_cons_self ..);exact_mod_cast this
  rw [wsum]
  have h4:(∃ e∈(y,m)::L,P e.1) ↔ P y∨∃ e∈L,P e.1:=by simp
  rw [h4,← h2]
  split
  ·rename_i hp;exact ⟨by grind,by constructor<;>intro _<;>first|exact .inl hp|grind⟩
  ·rename_i hp
   rw [Rat.mul_zero,Rat.zero_add]
   exact ⟨h1,by simp [hp]⟩
theorem rn_to {r:Rn} (h:inT r=true):r.to_=r.from_+(r.to_-r.from_).toNat:=by
 rw [inT,decide_eq_true_eq] at h;omega
theorem cls_pos {r:Rn}{l:List Spn} (h:inT r=true) (hR:∀ s∈l,RightS s):∀ e∈clsL l r,0 < e.2:=by
 rw [inT,decide_eq_true_eq] at h
 exact fun e he=>(clsS_ok (l0:=l) l 0 (r.to_-r.from_) (Int.le_refl _) (by omega) (by omega) (fun s hs=>by have:=(hR s hs).1;omega) e he).2.2.1
theorem clsL_sum {g:Int→Rat}{r:Rn}{l:List Spn}{x:Int} (h:inT r=true) (hl:InOrd x l):tS (fun t=>g (pl 0 l t)) r.from_ (r.to_-r.from_).toNat=wsum g (clsL l r):=by
 have h1:=rn_to h
 rw [inT,decide_eq_true_eq] at h
 rw [clsL,← cls_sum h1 l x 0 (r.to_-r.from_) hl (by omega) (by omega),show r.to_-r.from_-((r.to_-r.from_).toNat:Int)=0 from by omega]
 simp;grind
theorem clsL_ex {P:Int→Prop}{r:Rn}{l:List Spn}{x:Int} (h:inT r=true) (hl:InOrd x l) (hR:∀ s∈l,RightS s):(∃ e∈clsL l r,P e.1) ↔ ∃ i:Nat,i < (r.to_-r.from_).toNat∧P (pl 0 l (r.from_+i)):=by
 haveI:DecidablePred P:=fun _=>Classical.propDecidable _
 rw [← (wsum_pos (P:=P) (clsL l r) (cls_pos h hR)).2,← clsL_sum h hl]
 exact (tS_pos (P:=fun t=>P (pl 0 l t)) _ _).2
theorem pl_worth {l:List Spn}{t st:Int}:worthOf l t st=ofR l (pl 0 l t) st:=by
 have key:∀ (m l0:List Spn) (k:Nat),l0.drop k=m→(match m[spanAt m t]? with|none=>0|some s=>rateOf s st)=ofR l0 (pl k m t) st:=by
  intro m
  induction m with
  | nil=>intro l0 k _;rw [pl,ofR,if_pos (by decide)];rfl
  | cons s m ih =>
   intro l0 k hd
   have hk:k < l0.length:=by
    rcases Nat.lt_or_ge k l0.length with h|h
    ·exact h
    ·rw [List.drop_eq_nil_of_le h] at hd;cases hd
   rw [List.drop_eq_getElem_cons hk] at hd
   injection hd with h1 h2
   rw [pl]
   unfold spanAt at *
   rw [List.findIdx_cons]
   by_cases hi:inS t s=true
   ·rw [if_pos hi,hi,ofR_at hk,h1];rfl
   ·rw [if_neg hi,Bool.eq_false_iff.2 hi,← Int.natCast_succ,← ih l0 (k+1) h2];rfl
 rw [worthOf]
 exact key l l 0 rfl
theorem volSum_app (l:List Spn):∀ (a b:List Int) (f:Int),volSum l f (a++b)=volSum l f a+volSum l (f+a.length) b
 | [],b,f=>by rw [volSum,List.nil_append,Rat.zero_add];simp
 | y::a,b,f=>by rw [List.cons_append,volSum,volSum,volSum_app l a b (f+1),List.length_cons,show f+((a.length+1:Nat):Int)=f+1+a.length from by omega];grind
theorem volSum_rep (l:List Spn) (x:Int):∀ (n:Nat) (f:Int),volSum l f (List.replicate n x)=tS (fun t=>worthOf l t x) f n
 | 0,_=>rfl
 | n+1,f=>by rw [List.replicate_succ,volSum,tS,volSum_rep l x n]
theorem volSum_sep (l:List Spn) (A B:Int→Rat):∀ (hs:List Int) (f:Int),(∀ t,f≤t→t < f+hs.length→∀ x∈hs,worthOf l t x=A x+B t)→volSum l f hs=segSum A hs+tS B f hs.length
 | [],_,_=>by rw [volSum,segSum];simp [tS,Rat.add_zero]
 | y::hs,f,h=>by
  rw [volSum,segSum,List.length_cons,tS,h f (by omega) (by rw [List.length_cons];omega) y (List.mem_cons_self ..),volSum_sep l A B hs (f+1) fun t h1 h2 x hx=>h t (by omega) (by rw [List.length_cons];omega) x (List.mem_cons_of_mem _ hx)]
  grind
theorem segSum_app (g:Int→Rat):∀ (a b:List Int),segSum g (a++b)=segSum g a+segSum g b
 | [],b=>by rw [List.nil_append,segSum,Rat.zero_add]
 | y::a,b=>by rw [List.cons_append,segSum,segSum,segSum_app g a b,Rat.add_assoc]
theorem segSum_rep (g:Int→Rat) (x:Int):∀ n:Nat,segSum g (List.replicate n x)=(n:Rat)*g x
 | 0=>by simp [segSum]
 | n+1=>by rw [List.replicate_succ,segSum,segSum_rep g x n,show ((n+1:Nat):Rat)=(n:Rat)+1 from by simp];grind
theorem segSum_tab (g:Int→Rat):∀ (t:List (Int×Int)),(∀ x∈t,1≤x.2)→segSum g (tabS t)=wsum g t
 | [],_=>rfl
 | (x,m)::t,h=>by
  have h1:=h _ (List.mem_cons_self ..)
  dsimp only at h1
  have e:((m.toNat:Nat):Rat)=(m:Rat):=by
   show ((m.toNat:Int):Rat)=(m:Rat)
   rw [Int.toNat_of_nonneg (by omega)]
  rw [tabS_cons,segSum_app,segSum_rep,segSum_tab g t fun x hx=>h x (List.mem_cons_of_mem _ hx),wsum,e]
theorem tabS_len:∀ (t:List (Int×Int)),(∀ x∈t,1≤x.2)→((tabS t).length:Int)=sumT t
 | [],_=>rfl
 | x::t,h=>by
  have h1:=tabS_len t fun y hy=>h y (List.mem_cons_of_mem _ hy)
  have h2:=h x (List.mem_cons_self ..)
  rw [tabS_cons,List.length_append,List.length_replicate,sumT];omega
theorem tabS_mem {t:List (Int×Int)}{x:Int} (h:x∈tabS t):∃ m,(x,m)∈t:=by
 obtain ⟨⟨y,m⟩,h1,h2⟩:=List.mem_flatMap.1 h
 rw [List.mem_replicate] at h2
 exact ⟨m,h2.2 ▸ h1⟩
theorem stagesR_len {r:Rn} (h:inT r=true) (h1:oneE r=0):((stagesR r).length:Int)=r.to_-r.from_:=by
 rw [inT,decide_eq_true_eq] at h
 rw [stagesR]
 split
 ·rw [List.length_replicate];omega
 ·rename_i h0
  obtain ⟨e1,_,e3,_⟩:=oneE_tab h1 h0
  rw [tabS_len _ fun x hx=>(e1 x hx).2.1,e3]
theorem stagesR_bd {r:Rn} (h1:oneE r=0):∀ x∈stagesR r,0≤x∧x≤1000:=by
 rw [stagesR]
 split
 ·rename_i h0
  obtain ⟨e1,e2,e3⟩:=oneE_gap h1 h0
  intro x hx
  rw [(List.mem_replicate.1 hx).2];omega
 ·rename_i h0
  intro x hx
  obtain ⟨m,hm⟩:=tabS_mem hx
  exact ((oneE_tab h1 h0).1 _ hm).1
theorem takeB_iff {l:List Spn}{r:Rn}{x:Int} (h:inT r=true) (hl:InOrd x l) (hR:∀ s∈l,RightS s):takeB l r ↔ ¬ badR l r:=by
 have hT:=h
 rw [inT,decide_eq_true_eq] at hT
 cases ht:r.tab with
 | nil =>
  have hb:badR l r ↔ freeB r l=true:=by rw [badR,ht];simp
  have he:takeB l r ↔ ¬ ∃ e∈clsL l r,ofR l e.1 r.lo≠ofR l e.1 r.hi:=by
   unfold takeB okE
   rw [ht]
   constructor
   ·rintro h1 ⟨e,he,h2⟩;exact h2 (h1 e he)
   ·intro h1 e he;exact Classical.byContradiction fun h2=>h1 ⟨e,he,h2⟩
  rw [hb,he,clsL_ex (P:=fun k=>ofR l k r.lo≠ofR l k r.hi) h hl hR,freeB,List.any_eq_true]
  simp only [List.mem_range,decide_eq_true_eq,pl_worth]
 | cons y t =>
  have hb:badR l r ↔ movP r l:=by rw [badR,ht];simp
  rw [hb]
  have hd:∀ (z:Int×Int),z∈r.tab→∀ c:Rat,(∀ e∈clsL l r,ofR l e.1 z.1-ofR l e.1 y.1=c) ↔ ∀ i:Nat,i < (r.to_-r.from_).toNat→worthOf l (r.from_+i) z.1-worthOf l (r.from_+i) y.1=c:=by
   intro z _ c
   have:=clsL_ex (P:=fun k=>ofR l k z.1-ofR l k y.1≠c) h hl hR
   simp only [pl_worth]
   constructor
   ·intro h1 i hi
    exact Classical.byContradiction fun h2=>by obtain ⟨e,he,h3⟩:=this.2 ⟨i,hi,h2⟩;exact h3 (h1 e he)
   ·intro h1 e he
    exact Classical.byContradiction fun h2=>by obtain ⟨i,hi,h3⟩:=this.1 ⟨e,he,h2⟩;exact h3 (h1 i hi)
  have hne:∃ e∈clsL l r,True:=(clsL_ex (P:=fun _=>True) h hl hR).2 ⟨0,by omega,trivial⟩
  have hhd:(clsL l r).headD (0,0)∈clsL l r:=by
   obtain ⟨e,he,_⟩:=hne
   cases hc:clsL l r with
   | nil=>rw [hc] at he;cases he
   | cons a b=>exact List.mem_cons_self ..
  have hk:takeB l r ↔ ∀ z∈r.tab,∃ c,∀ e∈clsL l r,ofR l e.1 z.1-ofR l e.1 y.1=c:=by
   unfold takeB okE
   rw [ht]
   constructor
   ·intro h1 z hz
    exact ⟨ofR l ((clsL l r).headD (0,0)).1 z.1-ofR l ((clsL l r).headD (0,0)).1 y.1,fun e he=>by have:=h1 e he z hz;grind⟩
   ·intro h1 e he z hz
    obtain ⟨c,hc⟩:=h1 z hz
    have:=hc e he
    have:=hc _ hhd
    grind
  have hm:(¬ movP r l) ↔ ∀ z∈r.tab,∀ i:Nat,i < (r.to_-r.from_).toNat→worthOf l (r.from_+i) z.1-worthOf l (r.from_+i) y.1=worthOf l r.from_ z.1-worthOf l r.from_ y.1:=by
   have hp:0 < r.tab.length:=by rw [ht];exact Nat.zero_lt_succ _
   have h0:r.tab[0]=y:=by simp [ht]
   constructor
   ·intro h1 z hz i hi
    obtain ⟨k,hk,rfl⟩:=List.getElem_of_mem hz
    refine Classical.byContradiction fun h2=>h1 ⟨k,hp,hk,?_,i,?_,by omega,?_⟩
    ·rcases Nat.eq_zero_or_pos k with rfl|h3
     ·exact absurd (by rw [h0];grind) h2
     ·exact h3
    ·rcases Nat.eq_zero_or_pos i with rfl|h3
     ·exact absurd (by simp) h2
     ·exact h3
    ·rw [h0]
     intro h3;apply h2;grind
   ·rintro h1 ⟨k,_,hk,_,j,_,hj,h2⟩
    have:=h1 _ (List.getElem_mem hk) j (by omega)
    rw [h0] at h2
    apply h2;grind
  rw [hk,hm]
  constructor
  ·intro h1 z hz i hi
   obtain ⟨c,hc⟩:=h1 z hz
   have h2:=(hd z hz c).1 hc
   have:=h2 i hi
   have:=h2 0 (by omega)
   simp only [Int.natCast_zero,Int.add_zero] at this
   grind
  ·intro h1 z hz
   exact ⟨_,(hd z hz _).2 (h1 z hz)⟩
theorem takeV_eq {l:List Spn}{r:Rn}{x:Int} (h:inT r=true) (h1:oneE r=0) (hl:InOrd x l) (hb:takeB l r) (hR:∀ s∈l,RightS s):takeV l r=volSum l r.from_ (stagesR r):=by
 have hT:=h
 rw [inT,decide_eq_true_eq] at hT
 cases ht:r.tab with
 | nil =>
  rw [takeV,ht,stagesR,if_pos (by rw [ht];rfl),volSum_rep]
  simp only [pl_worth]
  exact (clsL_sum (g:=fun k=>ofR l k r.lo) h hl).symm
 | cons y t =>
  have h0:r.tab.length≠0:=by rw [ht];exact Nat.succ_ne_zero _
  obtain ⟨e1,_,e3,_⟩:=oneE_tab h1 h0
  have hlen:=tabS_len _ fun x hx=>(e1 x hx).2.1
  unfold takeB okE at hb
  rw [ht] at hb
  dsimp only at hb
  rw [takeV,ht,stagesR,if_neg h0]
  dsimp only
  rw [← ht,← segSum_tab _ _ fun x hx=>(e1 x hx).2.1,← clsL_sum h hl,show (r.to_-r.from_).toNat=(tabS r.tab).length from by omega]
  rw [volSum_sep l (ofR l ((clsL l r).headD (0,0)).1) (fun t=>ofR l (pl 0 l t) y.1-ofR l ((clsL l r).headD (0,0)).1 y.1)]
  intro t ht1 ht2 z hz
  obtain ⟨m,hm⟩:=tabS_mem hz
  have hall:¬ ∃ e∈clsL l r,ofR l e.1 z-ofR l ((clsL l r).headD (0,0)).1 z≠ofR l e.1 y.1-ofR l ((clsL l r).headD (0,0)).1 y.1:=by
   rintro ⟨e,he,h5⟩
   exact h5 (hb e he (z,m) (ht ▸ hm))
  rw [clsL_ex (P:=fun k=>ofR l k z-ofR l ((clsL l r).headD (0,0)).1 z≠ofR l k y.1-ofR l ((clsL l r).headD (0,0)).1 y.1) h hl hR] at hall
  have h6:=Classical.byContradiction fun h7=>hall ⟨(t-r.from_).toNat,by omega,h7⟩
  rw [show r.from_+((t-r.from_).toNat:Int)=t from by omega] at h6
  rw [pl_worth];grind
def Chn:Int→List Rn→Prop
 | _,[]=>True
 | f,r::t=>r.from_=f∧Chn r.to_ t
theorem chn_of:∀ {l:List Rn}{p:Option Rn},rnErr p l=0→Chn (match p with|none=>firstF l|some q=>q.to_) l
 | [],_,_=>trivial
 | r::t,p,h=>by
  have h5:rnErr (some r) t=0∧∀ q,p=some q→r.from_=q.to_:=by
   cases p with
   | none =>
    have h6:(if inT r=false then 3 else if false=true then 1 else if oneE r≠0 then oneE r else rnErr (some r) t)=0:=h
    split at h6
    ·cases h6
    rw [if_neg (by decide)] at h6
    split at h6
    ·rename_i h3;exact absurd h6 h3
    exact ⟨h6,fun q e=>by cases e⟩
   | some q =>
    have h6:(if inT r=false then 3 else if decide (r.from_≠q.to_)=true then 1 else if oneE r≠0 then oneE r else rnErr (some r) t)=0:=h
    split at h6
    ·cases h6
    split at h6
    ·cases h6
    rename_i h2
    split at h6
    ·rename_i h3;exact absurd h6 h3
    exact ⟨h6,fun q' e=>by cases e;simpa using h2⟩
  refine ⟨?_,chn_of (p:=some r) h5.1⟩
  cases p with
  | none=>rfl
  | some q=>exact h5.2 q rfl
theorem takeS_eq {l:List Spn}{x:Int} (hl:InOrd x l) (hR:∀ s∈l,RightS s):∀ (rs:List Rn) (f:Int),Chn f rs→(∀ r∈rs,inT r=true)→(∀ r∈rs,oneE r=0)→(∀ r∈rs,takeB l r)→takeS l rs=volSum l f (firstS rs)
 | [],_,_,_,_,_=>rfl
 | r::t,f,h,h1,h2,h3=>by
  have m:=List.mem_cons_self (a:=r) (l:=t)
  rw [takeS,firstS,volSum_app,takeV_eq (h1 r m) (h2 r m) hl (h3 r m) hR,takeS_eq hl hR t r.to_ h.2 (fun y hy=>h1 y (List.mem_cons_of_mem _ hy)) (fun y hy=>h2 y (List.mem_cons_of_mem _ hy)) (fun y hy=>h3 y (List.mem_cons_of_mem _ hy)),
   stagesR_len (h1 r m) (h2 r m),h.1]
  congr 2;have:=h.1;omega
end Go.Proofs.YtcdgibkbbcekhaaDoor
/-
 Plain law: the examples of the documentation.
-/
namespace Go.Proofs.YtcdgibkbbcekhaaDoor
open Go.RowKit Go.Sl Go.Num
def rbare (r:Rn):Rn:={ r with adr:=none,cap:=0 }
theorem rnErr_bare:∀ (l:List Rn) (p:Option Rn),rnErr (p.map rbare) (l.map rbare)=rnErr p l
 | [],_=>rfl
 | r::l,p=>by
  have:=rnErr_bare l (some r)
  cases p with
  | none =>
   show (if inT r=false then 3 else if false=true then 1 else if oneE r≠0 then oneE r else rnErr ((some r).map rbare) (l.map rbare))=_
   rw [this];rfl
  | some q =>
   show (if inT r=false then 3 else if decide (r.from_≠q.to_)=true then 1 else if oneE r≠0 then oneE r else rnErr ((some r).map rbare) (l.map rbare))=_
   rw [this];rfl
theorem lenT_bare (l:List Rn):lenT (l.map rbare)=lenT l:=by
 unfold lenT
 rw [List.getElem?_map,List.getElem?_map,List.length_map]
 cases l[0]?<;>cases l[l.length-1]?<;>rfl
theorem runsErr_bare (l:List Rn):runsErr (l.map rbare)=runsErr l:=by
 have:=rnErr_bare l none
 rw [Option.map_none] at this
 rw [runsErr,runsErr,this,lenT_bare,List.length_map]
theorem firstS_bare:∀ l:List Rn,firstS (l.map rbare)=firstS l
 | []=>rfl
 | r::l=>by rw [List.map_cons,firstS,firstS,firstS_bare l];rfl
theorem firstF_bare (l:List Rn):firstF (l.map rbare)=firstF l:=by cases l<;>rfl
end Go.Proofs.YtcdgibkbbcekhaaDoor
/-
 Plain laws: the volume of cut and of scaled spans,and of the raw runs of a history.
-/
namespace Go.Proofs.YtcdgibkbbcekhaaDoor
open Go.RowKit Go.Sl Go.Num
theorem spErr_iff {l:List Spn}{z:Int}:spErr z l=0 ↔ (∀ s∈l,RightS s)∧InOrd z l:=by
 constructor
 ·exact fun h=>⟨spErr_ok h,inOrd_of h⟩
 ·induction l generalizing z with
  | nil=>exact fun _=>rfl
  | cons s l ih =>
   rintro ⟨h1,h2,h3,h4⟩
   have h5:=h1 s (List.mem_cons_self ..)
   rw [spErr,if_neg (by simp [h5];omega)]
   exact ih ⟨fun t ht=>h1 t (List.mem_cons_of_mem _ ht),h4⟩
theorem InOrd.cut {x y:Int}:∀ {l:List Spn}{z:Int},InOrd z l→InOrd z (cutL x y l)
 | [],_,_=>trivial
 | s::l,z,h=>by
  have h1:=InOrd.cut (x:=x) (y:=y) h.2.2
  have:=h.1
  have:=h.2.1
  rw [cutL]
  split
  ·rename_i hc
   exact ⟨by show z≤max s.from_ x;omega,hc,h1.mono (by show min s.to_ y≤s.to_;omega)⟩
  ·exact h1.mono (by omega)
def Chq:Int→List (Int×Int×Int)→Int→Prop
 | f,[],e=>f=e
 | f,p::t,e=>p.1=f∧f < p.2.1∧Chq p.2.1 t e
theorem Chq.app:∀ {o:List (Int×Int×Int)}{f e:Int}{p:Int×Int×Int},Chq f (o++[p]) e ↔ Chq f o p.1∧p.1 < p.2.1∧p.2.1=e
 | [],f,e,p=>by
  simp only [List.nil_append,Chq]
  constructor
  ·rintro ⟨rfl,h2,h3⟩;exact ⟨rfl,h2,h3⟩
  ·rintro ⟨rfl,h2,h3⟩;exact ⟨rfl,h2,h3⟩
 | q::o,f,e,p=>by
  simp only [List.cons_append,Chq,Chq.app (o:=o),and_assoc]
theorem oneE_raw {r:Rn} (h:rawR r (stg r)) (h1:0≤stg r∧stg r≤1000) (h2:0≤r.from_∧r.from_ < r.to_∧r.to_≤1402560):oneE r=0:=by
 obtain ⟨k1,k2,k3⟩:=h
 rw [oneE,k1,if_neg (by exact Nat.succ_ne_zero _)]
 rw [if_neg (by simp [badH];omega),if_pos ⟨rfl,by simp [sumT],k2,k3⟩]
theorem rnErr_chn:∀ {L:List Rn}{p:Option Rn}{f:Int},Chn f L→(∀ q,p=some q→q.to_=f)→(∀ r∈L,inT r=true)→(∀ r∈L,oneE r=0)→rnErr p L=0
 | [],_,_,_,_,_,_=>rfl
 | r::L,p,f,h,hp,h1,h2=>by
  have m:=List.mem_cons_self (a:=r) (l:=L)
  have h3:=rnErr_chn (p:=some r) h.2 (fun q hq=>by cases hq;rfl) (fun x hx=>h1 x (List.mem_cons_of_mem _ hx)) fun x hx=>h2 x (List.mem_cons_of_mem _ hx)
  have h4:=h1 r m
  have h5:=h2 r m
  have h6:=h.1
  cases p with
  | none =>
   show (if inT r=false then (3:Int) else if false=true then 1 else if oneE r≠0 then oneE r else rnErr (some r) L)=0
   rw [h4,if_neg (by decide),if_neg (by decide),h5,if_neg (by decide)];exact h3
  | some q =>
   have h7:=hp q rfl
   show (if inT r=false then (3:Int) else if decide (r.from_≠q.to_)=true then 1 else if oneE r≠0 then oneE r else rnErr (some r) L)=0
   rw [h4,if_neg (by decide),if_neg (by simp;omega),h5,if_neg (by decide)];exact h3
end Go.Proofs.YtcdgibkbbcekhaaDoor
/-
 Contract: does a history agree with runs.
-/
namespace Go.Proofs.YtcdgibkbbcekhaaDoor
open Go.RowKit Go.Sl Go.Num
def fillC (L:List (Int×Int)):List (Int×Int)→List (Int×Int)
 | []=>L
 | (s,t)::r=>fillC (setC s t L) r
theorem fillC_bd {m:Int} (hm:0≤m):∀ (tab L:List (Int×Int)),(∀ x,0≤cnt x L∧cnt x L≤m)→(∀ p∈tab,0≤p.2∧p.2≤m)→∀ x,0≤cnt x (fillC L tab)∧cnt x (fillC L tab)≤m
 | [],_,h,_,x=>h x
 | (s,t)::r,L,h,h2,x=>fillC_bd hm r (setC s t L) (fun y=>by
   have:=h2 _ (List.mem_cons_self ..)
   rw [cnt_setC]
   split
   ·exact this
   ·exact h y) (fun p hp=>h2 p (List.mem_cons_of_mem _ hp)) x
def badC (g:Bool) (lo hi:Int) (L:List (Int×Int)) (s:Int):Bool:=if g=true then !decide (lo≤s∧s≤hi) else decide (cnt s L=0)
def goC (g:Bool) (lo hi:Int):List (Int×Int)→List Int→Bool
 | _,[]=>true
 | L,s::r=>!badC g lo hi L s && goC g lo hi (setC s (cnt s L-1) L) r
def agr1 (r:Rn) (seg:List Int):Bool:=goC (decide (r.tab.length=0)) r.lo r.hi (fillC [] r.tab) seg
def agrL (f:Int) (hs:List Int):List Rn→Bool
 | []=>true
 | r::t=>agr1 r ((hs.drop (r.from_-f).toNat).take (r.to_-r.from_).toNat) && agrL f hs t
def agreeB (rs:List Rn) (f:Int) (hs:List Int):Bool :=
 if runsErr rs≠0∨rightH f hs=false then false else match rs[0]?,rs[rs.length-1]? with
 | some a,some b=>if f≠a.from_∨(hs.length:Int)≠b.to_-f then false else agrL f hs rs
 | _,_=>decide (hs.length=0)
theorem chn_in:∀ {L:List Rn}{f:Int} (hp:0 < L.length),Chn f L→(∀ r∈L,inT r=true)→∀ (k:Nat) (hk:k < L.length),f≤L[k].from_∧L[k].from_ < L[k].to_∧L[k].to_≤(L[L.length-1]).to_
 | [r],f,_,h,h1,k,hk=>by
  have h2:=h1 r (List.mem_cons_self ..)
  rw [inT,decide_eq_true_eq] at h2
  have:=h.1
  obtain rfl:k=0:=by rw [List.length_singleton] at hk;omega
  simp only [List.length_singleton,Nat.sub_self,List.getElem_cons_zero]
  omega
 | r::s::t,f,_,h,h1,k,hk=>by
  have h2:=h1 r (List.mem_cons_self ..)
  rw [inT,decide_eq_true_eq] at h2
  have h3:=h.1
  have h4:=chn_in (L:=s::t) (Nat.zero_lt_succ _) h.2 fun x hx=>h1 x (List.mem_cons_of_mem _ hx)
  simp only [List.length_cons,Nat.add_sub_cancel,List.getElem_cons_succ] at h4 ⊢
  cases k with
  | zero =>
   have:=h4 0 (by omega)
   simp only [List.getElem_cons_zero] at this ⊢
   omega
  | succ k =>
   have:=h4 k (by simpa using hk)
   simp only [List.getElem_cons_succ]
   omega
set_option maxHeartbeats 4000000 in
theorem agree_holds (a b:Option Addr) (rs:List Rn) (f:Int) (hs:List Int) (c d:Nat) (w:World) (hA:RunsAt w a rs) (hB:SlAt w b 1 (hs.map isV)) (hfr:∀ r∈rs,r.tab.length≤64) (hcap:hs.length≤d) (hl:hs.length≤1000000000) :
  Calls Tryd.prog 11 #[.slice a rs.length c,.agg #[.int .i64 f,.slice b hs.length d]] w fun e w'=>e=.returned (.bool (agreeB rs f hs))∧Below w.heap.size w w':=by
 have hc:=fun w' (hb:Below w.heap.size w w')=>vRuns_holds a rs c w' (hA.below hb) hfr
 have hr:=fun w' (hb:Below w.heap.size w w')=>hRight_holds f b hs d w' (hB.below hb) hl
 rw [agreeB]
 by_cases h1:¬ runsErr rs=0
 ·rw [if_pos (.inl h1)]
  generalize runsErr rs=E at *
  refine enterA [(0,.slice a rs.length c),(1,.agg #[.int .i64 f,.slice b hs.length d])] Tryd.func11 Tryd.ntmps11 ?_
  all_goals (refine go ?_;and_intros<;>(try exact trivial)<;>intros)
  repeat' ((first|(refine G.cvb hc ?_))<;>(refine go ?_;and_intros<;>(try exact trivial)<;>intros))
  all_goals refine ret1b Tryd.func11 Tryd.results11 ?_
  all_goals rfl
 rw [Decidable.not_not] at h1
 have ⟨_,k5,_⟩:=runsErr_ok h1
 have k6:=runsErr_one h1
 have hch:Chn (firstF rs) rs:=chn_of (p:=none) (runsErr_rn h1)
 by_cases h2:rightH f hs=false
 ·rw [if_pos (.inr h2)]
  rw [h1] at hc
  rw [h2] at hr
  refine enterA [(0,.slice a rs.length c),(1,.agg #[.int .i64 f,.slice b hs.length d])] Tryd.func11 Tryd.ntmps11 ?_
  all_goals (refine go ?_;and_intros<;>(try exact trivial)<;>intros)
  repeat' ((first|(refine G.cvb hc ?_)|(refine G.cvb hr ?_))<;>(refine go ?_;and_intros<;>(try exact trivial)<;>intros))
  all_goals refine ret1b Tryd.func11 Tryd.results11 ?_
  all_goals rfl
 rw [if_neg (by rw [h1];simp [h2])]
 rw [Bool.not_eq_false] at h2
 rw [h1] at hc
 rw [h2] at hr
 obtain ⟨k3,k4⟩:=rightH_ok h2
 clear h1 h2
 rcases Nat.eq_zero_or_pos rs.length with h0|h0
 ·rw [List.getElem?_eq_none (by omega)]
  show Calls _ _ _ _ fun e w'=>e=.returned (.bool (decide (hs.length=0)))∧Below w.heap.size w w'
  by_cases h3:hs.length=0
  ·rw [decide_eq_true h3]
   refine enterA [(0,.slice a rs.length c),(1,.agg #[.int .i64 f,.slice b hs.length d])] Tryd.func11 Tryd.ntmps11 ?_
   all_goals (refine go ?_;and_intros<;>(try exact trivial)<;>intros)
   repeat' ((first|(refine G.cvb hc ?_)|(refine G.cvb hr ?_))<;>(refine go ?_;and_intros<;>(try exact trivial)<;>intros))
   all_goals refine ret1b Tryd.func11 Tryd.results11 ?_
   all_goals exact ret_bool (by first|(rw [decide_eq_true (by omega)])|rfl)
  ·rw [decide_eq_false h3]
   refine enterA [(0,.slice a rs.length c),(1,.agg #[.int .i64 f,.slice b hs.length d])] Tryd.func11 Tryd.ntmps11 ?_
   all_goals (refine go ?_;and_intros<;>(try exact trivial)<;>intros)
   repeat' ((first|(refine G.cvb hc ?_)|(refine G.cvb hr ?_))<;>(refine go ?_;and_intros<;>(try exact trivial)<;>intros))
   all_goals refine ret1b Tryd.func11 Tryd.results11 ?_
   all_goals exact ret_bool (by first|(rw [decide_eq_false (by omega)])|rfl)
 rw [List.getElem?_eq_getElem h0,List.getElem?_eq_getElem (show rs.length-1 < rs.length by omega)]
 dsimp only
 have hin:=chn_in h0 hch k5
 have hz:(rs.length:Int)-1=((rs.length-1:Nat):Int):=by omega
 have hfF:firstF rs=rs[0].from_:=by
  cases rs with
  | nil=>exact absurd h0 (Nat.lt_irrefl _)
  | cons r t=>rfl
 rw [hfF] at hin
 obtain ⟨ba,oa,rfl,hra⟩:=SlAt.all hA.1 (by omega)
 have r1:=hra 0 h0
 have r2:=hra (rs.length-1) (by omega)
 have i1:=k5 _ (List.getElem_mem h0)
 have i2:=k5 _ (List.getElem_mem (show rs.length-1 < rs.length by omega))
 rw [inT,decide_eq_true_eq] at i1 i2
 refine enterA [(0,.slice (some ⟨ba,oa,none⟩) rs.length c),(1,.agg #[.int .i64 f,.slice b hs.length d])] Tryd.func11 Tryd.ntmps11 ?_
 by_cases h3:f≠rs[0].from_∨(hs.length:Int)≠(rs[rs.length-1]).to_-f
 ·rw [if_pos h3]
  clear hin hfF hch
  generalize rs[0]=x at *
  generalize rs[rs.length-1]=y at *
  obtain ⟨f1,u,tab,adr,cap,lo,hi⟩:=x
  obtain ⟨f2,u2,tab2,adr2,cap2,lo2,hi2⟩:=y
  dsimp only [rnV] at *
  rcases h3 with h3|h3
  ·skip
   all_goals (refine go ?_;and_intros<;>(try exact trivial)<;>intros)
   repeat' ((first|(refine G.cvb hc ?_)|(refine G.cvb hr ?_)|(apply G.ix;rfl;rfl;exact hz;omega;rfl)|(apply G.ix (i:=0);rfl;rfl;exact rfl;omega;rfl))<;>(refine go ?_;and_intros<;>(try exact trivial)<;>intros))
   all_goals refine ret1b Tryd.func11 Tryd.results11 ?_
   all_goals rfl
  ·skip
   all_goals (refine go ?_;and_intros<;>(try exact trivial)<;>intros)
   repeat' ((first|(refine G.cvb hc ?_)|(refine G.cvb hr ?_)|(apply G.ix;rfl;rfl;exact hz;omega;rfl)|(apply G.ix (i:=0);rfl;rfl;exact rfl;omega;rfl))<;>(refine go ?_;and_intros<;>(try exact trivial)<;>intros))
   all_goals
    all_goals refine ret1b Tryd.func11 Tryd.results11 ?_
    all_goals rfl
 rw [if_neg h3]
 rw [not_or,Decidable.not_not,Decidable.not_not] at h3
 obtain ⟨h3,h4⟩:=h3
 rw [← h3] at hin
 have hin2:∀ (k:Nat) (hk:k < rs.length),f≤rs[k].from_∧rs[k].from_ < rs[k].to_∧rs[k].to_≤f+hs.length:=fun k hk=>by have:=hin k hk;omega
 clear hin hfF hch
 have r1':=r1
 have r2':=r2
 rw [show rnV rs[0]=[.int .i64 rs[0].from_,.int .i64 rs[0].to_,.slice rs[0].adr rs[0].tab.length rs[0].cap,.int .i64 rs[0].lo,.int .i64 rs[0].hi] from rfl] at r1'
 rw [show rnV rs[rs.length-1]=[.int .i64 (rs[rs.length-1]).from_,.int .i64 (rs[rs.length-1]).to_,.slice (rs[rs.length-1]).adr (rs[rs.length-1]).tab.length (rs[rs.length-1]).cap,.int .i64 (rs[rs.length-1]).lo,.int .i64 (rs[rs.length-1]).hi] from rfl] at r2'
 all_goals (refine go ?_;and_intros<;>(try exact trivial)<;>intros)
 repeat' ((first|(refine G.cvb hc ?_)|(refine G.cvb hr ?_)|(apply G.ix;rfl;rfl;exact hz;omega;rfl)|(apply G.ix (i:=0);rfl;rfl;exact rfl;omega;rfl))<;>(refine go ?_;and_intros<;>(try exact trivial)<;>intros))
 clear hc hr r1 r2 r1' r2' i1 i2
 generalize hT:agrL f hs rs=T
 refine J.loop (c:=_) (0:Nat) (fun s=>rs.length-s) (fun s=>[(3,.pointer (some ⟨_,0,none⟩)),(50,.slice (some ⟨ba,oa,none⟩) rs.length c),(51,.int .i64 rs.length),(52,.int .i64 s)]) (fun s=>[.blk _ 24 [.int .i64 f,.slice b hs.length d] 2]) (fun s=>s≤rs.length∧agrL f hs (rs.drop s)=T) ?_ sbT sbL ?_
 ·exact ⟨Nat.zero_le _,hT⟩
 clear hT
 intro k ⟨e1,e2⟩ ih
 by_cases hk:k < rs.length
 ·have hrk:=hra k hk
  have htk:=hA.2 _ (List.getElem_mem hk)
  have hik:=hin2 k hk
  have hok:=k6 _ (List.getElem_mem hk)
  have hik2:=k5 _ (List.getElem_mem hk)
  rw [inT,decide_eq_true_eq] at hik2
  have hlk:=hfr _ (List.getElem_mem hk)
  rw [List.drop_eq_getElem_cons hk,agrL] at e2
  have hbd:∀ x,0≤cnt x (fillC [] rs[k].tab)∧cnt x (fillC [] rs[k].tab)≤1402560:=by
   by_cases ht:rs[k].tab.length=0
   ·rw [List.length_eq_zero_iff.1 ht];exact fun x=>⟨Int.le_refl _,by show (0:Int)≤1402560;decide⟩
   ·obtain ⟨t1,_⟩:=oneE_tab hok ht
    exact fillC_bd (by decide) _ _ (fun x=>⟨Int.le_refl _,by show (0:Int)≤1402560;decide⟩) fun p hp=>by have:=(t1 p hp).2;omega
  have hg:=fun w'=>gap_holds rs[k] w'
  have ih':=ih (k+1)
  clear hra hin2 k6 k5 hok ih
  generalize hV:agrL f hs (rs.drop (k+1))=V at *
  generalize rs[k]=r at *
  obtain ⟨fr,to,tab,adr,cap,lo,hi⟩:=r
  dsimp only [rnV,rnA,TabAt,agr1] at *
  obtain ⟨p,hp⟩:∃ p:Nat,fr=f+p:=⟨(fr-f).toNat,by omega⟩
  obtain ⟨n,hn⟩:∃ n:Nat,to=fr+n:=⟨(to-fr).toNat,by omega⟩
  rw [show (fr-f).toNat=p by omega,show (to-fr).toNat=n by omega] at e2
  subst hn
  subst hp
  have hseg:∀ i (hi:i < n),((hs.drop p).take n).drop i=hs[p+i]::((hs.drop p).take n).drop (i+1):=fun i hi=>by
   rw [List.drop_eq_getElem_cons (by simp;omega)]
   simp
  have hlen:((hs.drop p).take n).length=n:=by simp;omega
  generalize hsg:(hs.drop p).take n=sg at *
  generalize hFL:fillC [] tab=FL at *
  all_goals (refine go ?_;and_intros<;>(try exact trivial)<;>intros)
  repeat' ((first|(apply G.mkm;rfl;intro bq))<;>(refine go ?_;and_intros<;>(try exact trivial)<;>intros))
  refine J.loop (c:=_) ((0,#[],0,[]):Nat×Array MapEntry×Nat×List (Int×Int)) (fun s=>tab.length-s.1) (fun s=>[(3,.pointer (some ⟨_,0,none⟩)),(6,.pointer (some ⟨_,0,none⟩)),(7,.map (some bq)),(50,.slice (some ⟨ba,oa,none⟩) rs.length c),(51,.int .i64 rs.length),(52,.int .i64 k),(58,.slice adr tab.length cap),(59,.int .i64 tab.length),(60,.int .i64 s.1)]) (fun s=>[.obj bq (.map s.2.1 s.2.2.1),.blk _ 50 [.int .i64 (f+p),.int .i64 (f+p+n),.slice adr tab.length cap,.int .i64 lo,.int .i64 hi] 5,.blk _ 24 [.int .i64 f,.slice b hs.length d] 2]) (fun s=>s.1≤tab.length∧MapIs (Value.int .i64) s.2.1 s.2.2.1 (s.2.2.2.map iv)∧fillC s.2.2.2 (tab.drop s.1)=FL) ?_ sbT sbL ?_
  ·exact ⟨Nat.zero_le _,MapIs.nil,hFL⟩
  clear hFL
  intro ⟨j,es,ck,Lc⟩ ⟨d1,hI,d2⟩ ih2
  dsimp only at d1 hI d2 ⊢
  by_cases hj:j < tab.length
  ·obtain ⟨bt,ot,rfl,hrt⟩:=SlAt.all htk (by omega)
   have hrj:=hrt j hj
   rw [List.drop_eq_getElem_cons hj,fillC] at d2
   clear hrt ih'
   generalize tab[j]=z at *
   obtain ⟨zs,zt⟩:=z
   dsimp only [hoV] at *
   all_goals (refine go ?_;and_intros<;>(try exact trivial)<;>intros)
   repeat' ((first|(apply G.mu (kf:=Value.int .i64) (a:=zs) hI (put_setC zs zt Lc);rfl;rfl;rfl;rfl;(repeat (first|exact RAt.head|apply RAt.tail));intro es2 c2 hI2))<;>(refine go ?_;and_intros<;>(try exact trivial)<;>intros))
   exact J.fin (ih2 (j+1,es2,c2,setC zs zt Lc) ⟨hj,hI2,d2⟩ (by dsimp only;omega))
  obtain rfl:j=tab.length:=by omega
  rw [List.drop_length,fillC] at d2
  subst d2
  clear ih2
  by_cases hn0:hs.length=0
  ·exfalso;omega
  obtain ⟨bb,ob,rfl,hrb⟩:=SlAt.all hB (by omega)
  all_goals (refine go ?_;and_intros<;>(try exact trivial)<;>intros)
  repeat' ((first|(apply G.slp (l:=p) (h:=p+n) (off:=ob+p*1) (len:=n);rfl;rfl;rfl;omega;omega;omega;omega;omega;rfl;omega;rfl))<;>(refine go ?_;and_intros<;>(try exact trivial)<;>intros))
  refine J.loop (c:=_) ((0,es,ck,Lc):Nat×Array MapEntry×Nat×List (Int×Int)) (fun s=>n-s.1) (fun s=>[(3,.pointer (some ⟨_,0,none⟩)),(6,.pointer (some ⟨_,0,none⟩)),(7,.map (some bq)),(50,.slice (some ⟨ba,oa,none⟩) rs.length c),(51,.int .i64 rs.length),(52,.int .i64 k),(82,.slice (some ⟨bb,ob+p*1,none⟩) n _),(83,.int .i64 n),(84,.int .i64 s.1)]) (fun s=>[.obj bq (.map s.2.1 s.2.2.1),.blk _ 50 [.int .i64 (f+p),.int .i64 (f+p+n),.slice adr tab.length cap,.int .i64 lo,.int .i64 hi] 5,.blk _ 24 [.int .i64 f,.slice (some ⟨bb,ob,none⟩) hs.length d] 2]) (fun s=>s.1≤n∧MapIs (Value.int .i64) s.2.1 s.2.2.1 (s.2.2.2.map iv)∧(goC (decide (tab.length=0)) lo hi s.2.2.2 (sg.drop s.1) && V)=T∧∀ x,-(s.1:Int)≤cnt x s.2.2.2∧cnt x s.2.2.2≤1402560) ?_ sbT sbL ?_
  ·exact ⟨Nat.zero_le _,hI,e2,fun x=>by have:=hbd x;dsimp only;omega⟩
  clear hbd e2 hI
  intro ⟨i,es2,ck2,L2⟩ ⟨c1,hI,c2,c3⟩ ih2
  dsimp only at c1 hI c2 c3 ⊢
  by_cases hi2:i < n
  ·have hr1:RowAt w bb (ob+p*1+i*1) [.int .i64 hs[p+i]]:=by
    have:=hrb (p+i) (by omega)
    rw [show ob+p*1+i*1=ob+(p+i)*1 by omega];exact this
   rw [hseg i hi2,goC] at c2
   clear hrb
   generalize hs[p+i]=z at *
   have hcz:=c3 z
   have hlk2:=get_iv z L2
   have hpt:=put_setC z (cnt z L2-1) L2
   have hw:=fun w'=>within_holds z lo hi w'
   have hnx:∀ x,-((i+1:Nat):Int)≤cnt x (setC z (cnt z L2-1) L2)∧cnt x (setC z (cnt z L2-1) L2)≤1402560:=fun x=>by
    rw [cnt_setC]
    have:=c3 x
    split<;>omega
   clear c3
   by_cases hgp:tab.length=0
   ·rw [decide_eq_true hgp] at hg c2 ih2
    by_cases hwi:lo≤z∧z≤hi
    ·rw [decide_eq_true hwi] at hw
     rw [badC,if_pos rfl,decide_eq_true hwi,Bool.not_true,Bool.not_false,Bool.true_and] at c2
     have ih3:=fun es3 c4 hI3=>ih2 (i+1,es3,c4,setC z (cnt z L2-1) L2) ⟨hi2,hI3,c2,hnx⟩ (by dsimp only;omega)
     generalize cnt z L2=N at *
     all_goals (refine go ?_;and_intros<;>(try exact trivial)<;>intros)
     repeat' ((first|(apply G.cV (g:=24);rfl;rfl;exact fun w' _=>hg w')|(apply G.cV (g:=36);rfl;rfl;exact fun w' _=>hw w')|(apply G.lk (kf:=Value.int .i64) (a:=z) hI;rfl;rfl;exact mm;exact hlk2;rfl)|(apply G.mu (kf:=Value.int .i64) (a:=z) hI hpt;rfl;rfl;rfl;rfl;(repeat (first|exact RAt.head|apply RAt.tail));intro es3 c4 hI3))<;>(refine go ?_;and_intros<;>(try exact trivial)<;>intros))
     exact J.fin (ih3 es3 c4 hI3)
    ·rw [decide_eq_false hwi] at hw
     rw [badC,if_pos rfl,decide_eq_false hwi,Bool.not_false,Bool.not_true,Bool.false_and,Bool.false_and] at c2
     subst c2
     all_goals (refine go ?_;and_intros<;>(try exact trivial)<;>intros)
     repeat' ((first|(apply G.cV (g:=24);rfl;rfl;exact fun w' _=>hg w')|(apply G.cV (g:=36);rfl;rfl;exact fun w' _=>hw w'))<;>(refine go ?_;and_intros<;>(try exact trivial)<;>intros))
     all_goals refine ret1b Tryd.func11 Tryd.results11 ?_
     all_goals rfl
   ·rw [decide_eq_false hgp] at hg c2 ih2
    by_cases hc0:cnt z L2=0
    ·rw [badC,if_neg (by decide),decide_eq_true hc0,Bool.not_true,Bool.false_and,Bool.false_and] at c2
     subst c2
     rw [hc0] at hlk2
     all_goals (refine go ?_;and_intros<;>(try exact trivial)<;>intros)
     repeat' ((first|(apply G.cV (g:=24);rfl;rfl;exact fun w' _=>hg w')|(apply G.lk (kf:=Value.int .i64) (a:=z) hI;rfl;rfl;exact mm;exact hlk2;rfl))<;>(refine go ?_;and_intros<;>(try exact trivial)<;>intros))
     all_goals refine ret1b Tryd.func11 Tryd.results11 ?_
     all_goals rfl
    ·rw [badC,if_neg (by decide),decide_eq_false hc0,Bool.not_false,Bool.true_and] at c2
     have ih3:=fun es3 c4 hI3=>ih2 (i+1,es3,c4,setC z (cnt z L2-1) L2) ⟨hi2,hI3,c2,hnx⟩ (by dsimp only;omega)
     generalize cnt z L2=N at *
     all_goals (refine go ?_;and_intros<;>(try exact trivial)<;>intros)
     repeat' ((first|(apply G.cV (g:=24);rfl;rfl;exact fun w' _=>hg w')|(apply G.lk (kf:=Value.int .i64) (a:=z) hI;rfl;rfl;exact mm;exact hlk2;rfl)|(apply G.mu (kf:=Value.int .i64) (a:=z) hI hpt;rfl;rfl;rfl;rfl;(repeat (first|exact RAt.head|apply RAt.tail));intro es3 c4 hI3))<;>(refine go ?_;and_intros<;>(try exact trivial)<;>intros))
     exact J.fin (ih3 es3 c4 hI3)
  ·obtain rfl:i=n:=by omega
   rw [List.drop_eq_nil_of_le (by omega),goC,Bool.true_and] at c2
   clear ih2
   all_goals (refine go ?_;and_intros<;>(try exact trivial)<;>intros)
   exact J.fin (ih' ⟨hk,c2⟩ (by omega))
 ·rw [List.drop_eq_nil_of_le (by omega),agrL] at e2
  subst e2
  clear ih
  all_goals (refine go ?_;and_intros<;>(try exact trivial)<;>intros)
  all_goals refine ret1b Tryd.func11 Tryd.results11 ?_
  all_goals rfl
end Go.Proofs.YtcdgibkbbcekhaaDoor
/-
 Contract of the law's table: the duration table of stages.
-/
namespace Go.Proofs
open Go.Sl
end Go.Proofs
namespace Go.Proofs.YtcdgibkbbcekhaaDoor
open Go.RowKit Go.Sl Go.Num
def nIn (x:Int):List Int→Int
 | []=>0
 | y::r=>(if y=x then 1 else 0)+nIn x r
theorem nIn_bd (x:Int):∀ l:List Int,0≤nIn x l∧nIn x l≤l.length
 | []=>⟨Int.le_refl _,Int.le_refl _⟩
 | y::r=>by
  have:=nIn_bd x r
  rw [nIn,List.length_cons]
  split<;>omega
def tabD:Nat→List Int→List (Int×Int)
 | _,[]=>[]
 | s,n::r=>if 0 < n then ((s:Int),n)::tabD (s+1) r else tabD (s+1) r
def tabT (seg:List Int):List (Int×Int):=tabD 0 ((List.range 1001).map fun s:Nat=>nIn (s:Int) seg)
theorem hoV_len (x:Int×Int):(hoV x).length=2:=rfl
end Go.Proofs.YtcdgibkbbcekhaaDoor
/-
 Plain laws: duration tables of the parts of a history.
-/
namespace Go.Proofs.YtcdgibkbbcekhaaDoor
open Go.RowKit Go.Sl Go.Num
def dsum (g:Int→Rat):Nat→List Int→Rat
 | _,[]=>0
 | s,n::r=>(n:Rat)*g s+dsum g (s+1) r
theorem wsum_tabD (g:Int→Rat):∀ (l:List Int) (s:Nat),(∀ x∈l,0≤x)→wsum g (tabD s l)=dsum g s l
 | [],_,_=>rfl
 | n::r,s,h=>by
  have ih:=wsum_tabD g r (s+1) fun x hx=>h x (List.mem_cons_of_mem _ hx)
  have:=h n (List.mem_cons_self ..)
  rw [tabD,dsum]
  split
  ·rw [wsum,ih]
  ·obtain rfl:n=0:=by omega
   rw [ih,Rat.intCast_zero];grind
theorem dsum_add (g:Int→Rat) (a b:Nat→Int):∀ (l:List Nat) (s:Nat),dsum g s (l.map fun x=>a x+b x)=dsum g s (l.map a)+dsum g s (l.map b)
 | [],_=>by simp [dsum,Rat.add_zero]
 | x::l,s=>by
  simp only [List.map_cons,dsum]
  rw [dsum_add g a b l (s+1),Rat.intCast_add];grind
theorem dsum_zero (g:Int→Rat):∀ (l:List Nat) (s:Nat),dsum g s (l.map fun _=>0)=0
 | [],_=>rfl
 | x::l,s=>by
  simp only [List.map_cons,dsum]
  rw [dsum_zero g l (s+1),Rat.intCast_zero];grind
theorem dsum_ind0 (g:Int→Rat) (y:Int):∀ (n s:Nat),y < s→dsum g s ((List.range' s n).map fun x:Nat=>if y=(x:Int) then 1 else 0)=0
 | 0,_,_=>rfl
 | n+1,s,h=>by
  rw [List.range'_succ,List.map_cons,dsum,dsum_ind0 g y n (s+1) (by omega),if_neg (by omega),Rat.intCast_zero];grind
theorem dsum_ind (g:Int→Rat) (y:Int):∀ (n s:Nat),(s:Int)≤y→y < s+n→dsum g s ((List.range' s n).map fun x:Nat=>if y=(x:Int) then 1 else 0)=g y
 | 0,_,h1,h2=>by omega
 | n+1,s,h1,h2=>by
  rw [List.range'_succ,List.map_cons,dsum]
  by_cases h:y=s
  ·rw [dsum_ind0 g y n (s+1) (by omega),if_pos h,h];simp [Rat.add_zero]
  ·rw [dsum_ind g y n (s+1) (by omega) (by omega),if_neg h];simp [Rat.zero_add]
theorem dsum_nIn (g:Int→Rat) (n:Nat):∀ (seg:List Int),(∀ y∈seg,0≤y∧y < n)→dsum g 0 ((List.range' 0 n).map fun x:Nat=>nIn (x:Int) seg)=segSum g seg
 | [],_=>dsum_zero g _ 0
 | y::r,h=>by
  have h1:=h y (List.mem_cons_self ..)
  rw [segSum,← dsum_nIn g n r fun z hz=>h z (List.mem_cons_of_mem _ hz),← dsum_ind g y n 0 (by omega) (by omega),← dsum_add]
  rfl
theorem nIn_nn (seg:List Int):∀ x∈(List.range 1001).map fun s:Nat=>nIn (s:Int) seg,0≤x:=fun x hx=>by
 obtain ⟨s,_,rfl⟩:=List.mem_map.1 hx
 exact (nIn_bd _ seg).1
theorem wsum_tabT (g:Int→Rat) {seg:List Int} (h:∀ y∈seg,0≤y∧y≤1000):wsum g (tabT seg)=segSum g seg:=by
 rw [tabT,wsum_tabD g _ 0 (nIn_nn seg),List.range_eq_range']
 exact dsum_nIn g 1001 seg fun y hy=>by have:=h y hy;omega
theorem segSum_one:∀ seg:List Int,segSum (fun _=>1) seg=((seg.length:Int):Rat)
 | []=>rfl
 | y::r=>by rw [segSum,segSum_one r,List.length_cons,show ((r.length+1:Nat):Int)=1+(r.length:Int) from by omega,Rat.intCast_add];rfl
theorem wsum_one:∀ t:List (Int×Int),wsum (fun _=>1) t=((sumT t:Int):Rat)
 | []=>rfl
 | (x,n)::t=>by rw [wsum,wsum_one t,sumT,Rat.intCast_add];grind
theorem sumT_tabT {seg:List Int} (h:∀ y∈seg,0≤y∧y≤1000):sumT (tabT seg)=seg.length:=by
 have:=wsum_tabT (fun _=>1) h
 rw [wsum_one,segSum_one] at this
 exact Rat.intCast_inj.1 this
theorem tabD_mem:∀ (l:List Int) (s:Nat) {p:Int×Int},p∈tabD s l→(s:Int)≤p.1∧p.1 < s+l.length∧0 < p.2∧p.2∈l
 | [],_,p,h=>by cases h
 | n::r,s,p,h=>by
  rw [tabD] at h
  split at h
  ·rcases List.mem_cons.1 h with rfl|h
   ·rename_i h1
    exact ⟨Int.le_refl _,by rw [List.length_cons];dsimp only;omega,h1,List.mem_cons_self ..⟩
   ·have:=tabD_mem r (s+1) h
    exact ⟨by omega,by rw [List.length_cons];omega,this.2.2.1,List.mem_cons_of_mem _ this.2.2.2⟩
  ·have:=tabD_mem r (s+1) h
   exact ⟨by omega,by rw [List.length_cons];omega,this.2.2.1,List.mem_cons_of_mem _ this.2.2.2⟩
theorem sorted_tabD:∀ (l:List Int) (s:Nat) (p:Option (Int×Int)),(∀ q,p=some q→q.1 < (s:Int))→sortedT p (tabD s l)=true
 | [],_,p,_=>by rw [tabD];cases p<;>rfl
 | n::r,s,p,h=>by
  rw [tabD]
  split
  ·have ih:=sorted_tabD r (s+1) (some ((s:Int),n)) fun q hq=>by cases hq;dsimp only;omega
   cases p with
   | none=>show (true && sortedT (some ((s:Int),n)) (tabD (s+1) r))=true;rw [ih];rfl
   | some q=>show (decide (q.1 < (s:Int)) && sortedT (some ((s:Int),n)) (tabD (s+1) r))=true;rw [ih,decide_eq_true (h q rfl)];rfl
  ·exact sorted_tabD r (s+1) p fun q hq=>by have:=h q hq;omega
theorem cnt_lt:∀ (l:List Int) (s:Nat) {x:Int},x < s→cnt x (tabD s l)=0
 | [],_,_,_=>rfl
 | n::r,s,x,h=>by
  rw [tabD]
  split
  ·rw [cnt,if_neg (by omega),cnt_lt r (s+1) (by omega)]
  ·exact cnt_lt r (s+1) (by omega)
theorem cnt_ge:∀ (l:List Int) (s:Nat) {x:Int},s+(l.length:Int)≤x→cnt x (tabD s l)=0
 | [],_,_,_=>rfl
 | n::r,s,x,h=>by
  rw [List.length_cons] at h
  rw [tabD]
  split
  ·rw [cnt,if_neg (by omega),cnt_ge r (s+1) (by omega)]
  ·exact cnt_ge r (s+1) (by omega)
theorem cnt_at:∀ (l:List Int) (s i:Nat) (hi:i < l.length),(∀ x∈l,0≤x)→cnt ((s+i:Nat):Int) (tabD s l)=l[i]
 | n::r,s,0,_,h=>by
  have:=h n (List.mem_cons_self ..)
  rw [tabD,Nat.add_zero]
  split
  ·rw [cnt,if_pos rfl];rfl
  ·rw [cnt_lt r (s+1) (by omega)];show 0=n;omega
 | n::r,s,i+1,hi,h=>by
  have ih:=cnt_at r (s+1) i (by simpa using hi) fun x hx=>h x (List.mem_cons_of_mem _ hx)
  rw [show s+1+i=s+(i+1) by omega] at ih
  rw [tabD]
  split
  ·rw [cnt,if_neg (by omega),ih];rfl
  ·rw [ih];rfl
theorem cnt_tabT {seg:List Int} (h:∀ y∈seg,0≤y∧y≤1000) (x:Int):cnt x (tabT seg)=nIn x seg:=by
 have hz:∀ (l:List Int),(∀ y∈l,0≤y∧y≤1000)→(x < 0∨1000 < x)→nIn x l=0:=fun l=>by
  induction l with
  | nil=>intros;rfl
  | cons y r ih =>
   intro h h2
   have:=h y (List.mem_cons_self ..)
   rw [nIn,if_neg (by omega),ih (fun z hz=>h z (List.mem_cons_of_mem _ hz)) h2];rfl
 rw [tabT]
 by_cases h1:x < 0
 ·rw [cnt_lt _ 0 (by omega),hz seg h (.inl h1)]
 by_cases h2:1000 < x
 ·rw [cnt_ge _ 0 (by rw [List.length_map,List.length_range];omega),hz seg h (.inr h2)]
 have:=cnt_at ((List.range 1001).map fun s:Nat=>nIn (s:Int) seg) 0 x.toNat (by rw [List.length_map,List.length_range];omega) (nIn_nn seg)
 rw [Nat.zero_add,List.getElem_map,List.getElem_range,show ((x.toNat:Nat):Int)=x by omega] at this
 exact this
theorem cnt_fill:∀ (l:List Int) (s:Nat) (L:List (Int×Int)),(∀ x,(s:Int)≤x→cnt x L=0)→∀ x,cnt x (fillC L (tabD s l))=if x < s then cnt x L else cnt x (tabD s l)
 | [],s,L,h,x=>by
  rw [tabD,fillC]
  split
  ·rfl
  ·exact h x (by omega)
 | n::r,s,L,h,x=>by
  rw [tabD]
  split
  ·rw [fillC,cnt_fill r (s+1) (setC s n L) (fun y hy=>by rw [cnt_setC,if_neg (by omega)];exact h y (by omega)) x,cnt_setC,cnt]
   by_cases h1:x < s
   ·rw [if_pos (by omega),if_neg (by omega),if_pos h1]
   ·rw [if_neg h1]
    by_cases h2:x=s
    ·rw [if_pos (by omega),if_pos h2,if_pos h2]
    ·rw [if_neg (by omega),if_neg h2]
  ·rw [cnt_fill r (s+1) L (fun y hy=>h y (by omega)) x]
   by_cases h1:x < s
   ·rw [if_pos (by omega),if_pos h1]
   ·rw [if_neg h1]
    split
    ·rw [cnt_lt r (s+1) (by assumption)];exact h x (by omega)
    ·rfl
theorem goC_ok {lo hi:Int}:∀ (seg:List Int) (C:List (Int×Int)),(∀ x,cnt x C=nIn x seg)→goC false lo hi C seg=true
 | [],_,_=>rfl
 | s::r,C,h=>by
  have h1:=h s
  rw [nIn,if_pos rfl] at h1
  have h2:=nIn_bd s r
  rw [goC,badC,if_neg (by decide),decide_eq_false (by omega),Bool.not_false,Bool.true_and]
  refine goC_ok r _ fun x=>?_
  have h3:=h x
  rw [nIn] at h3
  rw [cnt_setC]
  by_cases hx:x=s
  ·subst hx;rw [if_pos rfl];omega
  ·rw [if_neg (by omega)] at h3;rw [if_neg hx];omega
theorem tabT_ne {seg:List Int} (h:∀ y∈seg,0≤y∧y≤1000) (h0:0 < seg.length):(tabT seg).length≠0:=fun hz=>by
 have:=sumT_tabT h
 rw [List.length_eq_zero_iff.1 hz,sumT] at this
 omega
theorem tabT_mem {seg:List Int}{p:Int×Int} (hp:p∈tabT seg):(0≤p.1∧p.1≤1000)∧1≤p.2∧p.2≤seg.length:=by
 have:=tabD_mem _ 0 hp
 rw [List.length_map,List.length_range] at this
 obtain ⟨s,_,h2⟩:=List.mem_map.1 this.2.2.2
 have:=nIn_bd s seg
 omega
theorem agr1_tab {r:Rn}{seg:List Int} (h:∀ y∈seg,0≤y∧y≤1000) (h0:0 < seg.length) (ht:r.tab=tabT seg):agr1 r seg=true:=by
 rw [agr1,ht,decide_eq_false (tabT_ne h h0)]
 refine goC_ok seg _ fun x=>?_
 rw [← cnt_tabT h x,tabT,cnt_fill _ 0 [] (fun _ _=>rfl) x]
 split
 ·rw [cnt_lt _ 0 (by assumption)];rfl
 ·rfl
theorem oneE_tabT {r:Rn}{seg:List Int} (h:∀ y∈seg,0≤y∧y≤1000) (h0:0 < seg.length) (hl:seg.length≤1402560) (ht:r.tab=tabT seg) (h1:r.to_=r.from_+seg.length) (h2:r.lo=0) (h3:r.hi=0):oneE r=0:=by
 rw [oneE,ht,if_neg (tabT_ne h h0),if_neg,if_pos]
 ·exact ⟨sorted_tabD _ 0 none (fun q hq=>by cases hq),by rw [sumT_tabT h];omega,h2,h3⟩
 ·intro hb
  obtain ⟨p,hp,hb⟩:=List.any_eq_true.1 hb
  have:=tabT_mem hp
  rw [badH,decide_eq_true (by omega),decide_eq_true (by omega)] at hb
  cases hb
def PtL:Int→List Int→List Rn→List Spn→Prop
 | _,hs,[],[]=>hs=[]
 | f,hs,r::L,s::l=>∃ n:Nat,0 < n∧n≤hs.length∧(r.from_=f∧r.to_=f+n∧r.tab=tabT (hs.take n)∧r.lo=0∧r.hi=0)∧(s.from_=f∧s.to_=f+n∧RightS s∧fewS s)∧PtL (f+n) (hs.drop n) L l
 | _,_,_,_=>False
def tabSum:List Rn→List Spn→Rat
 | r::L,s::l=>wsum (rateOf s) r.tab+tabSum L l
 | _,_=>0
theorem worth_late {l:List Spn}{x t st:Int} (h:InOrd x l) (ht:t < x):worthOf l t st=0:=by
 rw [worthOf,List.getElem?_eq_none (by rw [h.none ht];exact Nat.le_refl _)]
theorem volSum_part {s:Spn}{l:List Spn}{f:Int}{n:Nat} (hs:s.from_=f) (ht:s.to_=f+n) (h:InOrd f (s::l)):∀ (seg:List Int),seg.length=n→volSum (s::l) f seg=segSum (rateOf s) seg:=fun seg hn=>by
 rw [volSum_sep (s::l) (rateOf s) (fun _=>0) seg f fun t h1 h2 x _=>?_]
 ·rw [show tS (fun _=>(0:Rat)) f seg.length=0 from ?_,Rat.add_zero]
  generalize seg.length=m
  clear hn hs ht h
  induction m generalizing f with
  | zero=>rfl
  | succ m ih=>rw [tS,ih,Rat.add_zero]
 ·rw [worth_cons h,if_pos (by rw [inS,decide_eq_true (by omega),decide_eq_true (by omega)];rfl),worth_late h.2.2 (by omega)]
theorem volSum_skip {s:Spn}{l:List Spn}{x:Int} (h:InOrd x (s::l)):∀ (hs:List Int) (f:Int),s.to_≤f→volSum (s::l) f hs=volSum l f hs
 | [],_,_=>rfl
 | y::r,f,hf=>by
  rw [volSum,volSum,volSum_skip h r (f+1) (by omega),worth_cons h,if_neg (by rw [inS,decide_eq_false (show ¬ f < s.to_ by omega),Bool.and_false];decide),Rat.zero_add]
structure PtsOk (f:Int) (hs:List Int) (L:List Rn) (l:List Spn):Prop where
 ord:InOrd f l
 rng:∀ s∈l,(f≤s.from_∧s.to_≤f+hs.length)∧RightS s∧fewS s
 chn:Chn f L
 int:∀ r∈L,inT r=true
 one:∀ r∈L,oneE r=0
 len:L.length=l.length
 fin:∀ (h:0 < L.length),(L[L.length-1]).to_=f+hs.length
 nil:L.length=0→hs=[]
 sep:∀ r∈L,r.tab.length≠0∧f≤r.from_∧∃ s,∀ t,r.from_≤t→t < r.to_→∀ st,worthOf l t st=rateOf s st
 sum:volSum l f (firstS L)=tabSum L l∧volSum l f hs=tabSum L l
 tbl:∀ k (h1:k < L.length) (h2:k < l.length),L[k].from_=l[k].from_∧L[k].to_=l[k].to_
theorem PtL.ok:∀ {L:List Rn}{l:List Spn}{f:Int}{hs:List Int},PtL f hs L l→0≤f→f+hs.length≤1402560→(∀ y∈hs,0≤y∧y≤1000)→PtsOk f hs L l
 | [],[],f,hs,h,_,_,_=>by
  obtain rfl:hs=[]:=h
  exact { ord:=trivial,rng:=fun s h=>by (cases h),chn:=trivial,int:=fun s h=>by (cases h),one:=fun s h=>by (cases h),len:=rfl,fin:=fun h=>absurd h (Nat.lt_irrefl _),nil:=fun _=>rfl,sep:=fun s h=>by (cases h),sum:=⟨rfl,rfl⟩,tbl:=fun k h1=>absurd h1 (Nat.not_lt_zero _) }
 | r::L,s::l,f,hs,⟨n,k1,k2,⟨a1,a2,a3,a4,a5⟩,⟨b1,b2,b3,b4⟩,k5⟩,h0,h1,h2=>by
  have hd:((hs.drop n).length:Int)=hs.length-n:=by rw [List.length_drop];omega
  have ih:=PtL.ok k5 (by omega) (by omega) fun y hy=>h2 y (List.mem_of_mem_drop hy)
  have hseg:∀ y∈hs.take n,0≤y∧y≤1000:=fun y hy=>h2 y (List.mem_of_mem_take hy)
  have hlen:(hs.take n).length=n:=by rw [List.length_take];omega
  have ho:InOrd f (s::l):=⟨by omega,by omega,by rw [b2];exact ih.ord⟩
  have h1e:oneE r=0:=oneE_tabT hseg (by omega) (by omega) a3 (by rw [hlen];omega) a4 a5
  have hin:inT r=true:=decide_eq_true (by omega)
  have hne:r.tab.length≠0:=by rw [a3];exact tabT_ne hseg (by omega)
  have hst:stagesR r=tabS r.tab:=by rw [stagesR,if_neg hne]
  have hsl:(stagesR r).length=n:=by have:=stagesR_len hin h1e;omega
  have hpos:∀ x∈r.tab,1≤x.2:=fun x hx=>by rw [a3] at hx;exact (tabT_mem hx).2.1
  exact {
   ord:=ho
   rng:=fun x hx=>by
    rcases List.mem_cons.1 hx with rfl|hx
    ·exact ⟨⟨by omega,by omega⟩,b3,b4⟩
    ·have:=ih.rng x hx;exact ⟨⟨by omega,by omega⟩,this.2⟩
   chn:=⟨a1,by rw [a2];exact ih.chn⟩
   int:=fun x hx=>by
    rcases List.mem_cons.1 hx with rfl|hx
    ·exact hin
    ·exact ih.int x hx
   one:=fun x hx=>by
    rcases List.mem_cons.1 hx with rfl|hx
    ·exact h1e
    ·exact ih.one x hx
   len:=by rw [List.length_cons,List.length_cons,ih.len]
   fin:=fun h=>by
    rcases Nat.eq_zero_or_pos L.length with hz|hz
    ·have:=ih.nil hz
     have hd2:=hd
     rw [this,List.length_nil] at hd2
     obtain rfl:=List.length_eq_zero_iff.1 hz
     show r.to_=_
     omega
    ·have:=ih.fin hz
     have e:((r::L)[(r::L).length-1]'(by rw [List.length_cons];omega))=L[L.length-1]:=by
      simp only [List.length_cons,Nat.add_sub_cancel]
      rw [List.getElem_cons,dif_neg (by omega)]
     rw [e,this];omega
   nil:=fun h=>by rw [List.length_cons] at h;omega
   sep:=fun x hx=>by
    rcases List.mem_cons.1 hx with rfl|hx
    ·exact ⟨hne,by omega,s,fun t t1 t2 st=>by rw [worth_cons ho,if_pos (by rw [inS,decide_eq_true (by omega),decide_eq_true (by omega)];rfl),worth_late ho.2.2 (by omega),Rat.add_zero]⟩
    ·obtain ⟨c1,c2,s1,c3⟩:=ih.sep x hx
     exact ⟨c1,by omega,s1,fun t t1 t2 st=>by rw [worth_cons ho,if_neg (by rw [inS,decide_eq_false (show ¬ t < s.to_ by omega),Bool.and_false];decide),Rat.zero_add];exact c3 t t1 t2 st⟩
   sum:=by
    have e1:volSum (s::l) f (stagesR r)=wsum (rateOf s) r.tab:=by rw [volSum_part b1 b2 ho _ hsl,hst,segSum_tab _ _ hpos]
    have e2:volSum (s::l) f (hs.take n)=wsum (rateOf s) r.tab:=by rw [volSum_part b1 b2 ho _ hlen,a3,wsum_tabT _ hseg]
    constructor
    ·rw [firstS,volSum_app,e1,hsl,volSum_skip ho _ _ (by omega),ih.sum.1,tabSum]
    ·conv=>lhs;rw [← List.take_append_drop n hs]
     rw [volSum_app,e2,hlen,volSum_skip ho _ _ (by omega),ih.sum.2,tabSum]
   tbl:=fun k q1 q2=>by
    cases k with
    | zero=>exact ⟨by show r.from_=s.from_;omega,by show r.to_=s.to_;omega⟩
    | succ k=>exact ih.tbl k (by simpa using q1) (by simpa using q2) }
 | [],_::_,_,_,h,_,_,_=>h.elim
 | _::_,[],_,_,h,_,_,_=>h.elim
theorem PtL.agr {f0:Int}{hs0:List Int} (h3:∀ y∈hs0,0≤y∧y≤1000):∀ {L:List Rn}{l:List Spn}{d:Nat},PtL (f0+d) (hs0.drop d) L l→agrL f0 hs0 L=true
 | [],[],_,_=>rfl
 | r::L,s::l,d,⟨n,k1,k2,⟨a1,a2,a3,a4,a5⟩,_,k5⟩=>by
  rw [agrL,show (r.from_-f0).toNat=d by omega,show (r.to_-r.from_).toNat=n by omega]
  rw [agr1_tab (seg:=(hs0.drop d).take n) (fun y hy=>h3 y (List.mem_of_mem_drop (List.mem_of_mem_take hy))) (by rw [List.length_take];omega) a3,Bool.true_and]
  refine PtL.agr h3 (l:=l) (d:=d+n) ?_
  rw [List.drop_drop] at k5
  rw [show f0+((d+n:Nat):Int)=f0+d+n by omega]
  exact k5
 | [],_::_,_,h=>h.elim
 | _::_,[],_,h=>h.elim
section
variable {f:Int}{hs:List Int}{L:List Rn}{l:List Spn} (h:PtsOk f hs L l) (hf:0≤f) (hn:hs.length≤1000) (hb:f+hs.length≤1402560) (hL:L.length≤100)
include h hf hn hb hL
theorem PtsOk.runs:runsErr L=0:=by
 rw [runsErr,if_neg (by omega),rnErr_chn h.chn (fun q hq=>by cases hq) h.int h.one,if_neg (by decide),if_neg]
 rw [lenT]
 rcases Nat.eq_zero_or_pos L.length with hz|hz
 ·rw [List.getElem?_eq_none (by omega)];exact (by decide:¬ (40000:Int) < 0)
 ·rw [List.getElem?_eq_getElem hz,List.getElem?_eq_getElem (show L.length-1 < L.length by omega)]
  have:=(h.sep _ (List.getElem_mem hz)).2.1
  have:=h.fin hz
  dsimp only
  omega
theorem PtsOk.spans:spansErr l=0:=by
 rw [spansErr,if_neg (by have:=h.len;omega)]
 exact spErr_iff.2 ⟨fun s hs=>(h.rng s hs).2.1,h.ord.mono hf⟩
theorem PtsOk.fewS:∀ s∈l,Proofs.YtcdgibkbbcekhaaDoor.fewS s:=fun s hs=>(h.rng s hs).2.2
theorem PtsOk.right:∀ s∈l,RightS s:=fun s hs=>(h.rng s hs).2.1
theorem PtsOk.takeB:∀ r∈L,takeB l r:=fun r hr=>by
 rw [takeB_iff (h.int r hr) h.ord (fun s hs=>(h.rng s hs).2.1)]
 obtain ⟨h1,_,s,h3⟩:=h.sep r hr
 have h4:=h.int r hr
 rw [inT,decide_eq_true_eq] at h4
 rintro (⟨h2,_⟩|⟨_,k,h0,hk,_,j,_,hj,hne⟩)
 ·exact h1 h2
 ·rw [h3 _ (Int.le_refl _) (by omega),h3 _ (by omega) hj,h3 _ (Int.le_refl _) (by omega),h3 _ (by omega) hj] at hne
  exact hne (Rat.add_comm _ _)
theorem PtsOk.exact:exE L l=(rQ (tabSum L l),0):=by
 rw [exE,h.runs hf hn hb hL,if_neg (by decide),h.spans hf hn hb hL,if_neg (by decide),if_neg,if_pos (h.takeB hf hn hb hL),takeS_eq h.ord (h.right hf hn hb hL) L f h.chn h.int h.one (h.takeB hf hn hb hL),h.sum.1]
 intro hx
 obtain ⟨s,hs1,hs2⟩:=List.any_eq_true.1 hx
 have h1:=(h.rng s hs1).1
 have hz:0 < L.length:=by rw [h.len];exact List.length_pos_of_mem hs1
 rw [outX,List.getElem?_eq_getElem hz,List.getElem?_eq_getElem (show L.length-1 < L.length by omega)] at hs2
 have h2:=h.fin hz
 have h3:L[0].from_=f:=by
  have:=h.chn
  cases L with
  | nil=>cases hz
  | cons r t=>exact this.1
 dsimp only at hs2
 rw [Bool.or_eq_true,decide_eq_true_eq,decide_eq_true_eq] at hs2
 omega
theorem PtsOk.value (hr:∀ y∈hs,0≤y∧y≤1000):volE f hs l=(rQ (tabSum L l),0):=by
 have h2:rightH f hs=true:=by
  rw [rightH,decide_eq_true (by omega),Bool.true_and]
  have h3:hs.any badSt=false:=List.any_eq_false.2 fun y hy=>by rw [badSt,decide_eq_true (hr y hy)];decide
  rw [h3];rfl
 rw [volE,h.spans hf hn hb hL,if_neg (by decide),h2,if_neg (by decide),if_neg,h.sum.2]
 intro hx
 obtain ⟨s,hs1,hs2⟩:=List.any_eq_true.1 hx
 have h1:=(h.rng s hs1).1
 rw [outH,Bool.or_eq_true,decide_eq_true_eq,decide_eq_true_eq] at hs2
 omega
theorem PtsOk.table (k:Nat) (h1:k < L.length) (h2:k < l.length):tableE L[k] l[k]=(rQ (wsum (rateOf l[k]) L[k].tab),0):=by
 have k1:=h.int _ (List.getElem_mem h1)
 have k2:=h.one _ (List.getElem_mem h1)
 have k3:=(h.sep _ (List.getElem_mem h1)).1
 have k4:=(h.rng _ (List.getElem_mem h2)).2.1
 have k5:=h.tbl k h1 h2
 have k8:=h.runs hf hn hb hL
 have k6:runsErr [L[k]]=0:=by
  rw [runsErr,if_neg (by simp),rnErr_chn (L:=[L[k]]) (p:=none) (f:=L[k].from_) ⟨rfl,trivial⟩ (fun q hq=>by cases hq) (fun r hr=>by rw [List.mem_singleton.1 hr];exact k1) (fun r hr=>by rw [List.mem_singleton.1 hr];exact k2),if_neg (by decide),if_neg]
  have k7:=(h.sep _ (List.getElem_mem h1)).2.1
  have k9:=(h.rng _ (List.getElem_mem h2)).1
  show ¬ 40000 < L[k].to_-L[k].from_
  omega
 rw [tableE,k6,if_neg (by decide),if_neg (fun h=>h k4),if_neg (by omega),if_neg k3]
end
end Go.Proofs.YtcdgibkbbcekhaaDoor
