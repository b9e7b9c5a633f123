/-
  Runs as values: what calls make; slices.Clone of runs and of tables; run.copied.
-/
import Derived.Test.YtcdgibkbbcekhaaGreatDoorRA12
set_option linter.unusedVariables false
set_option linter.unusedSimpArgs false
set_option linter.unusedSectionVars false
namespace Go.Proofs.YtcdgibkbbcekhaaGreatDoor
open Go.RowKit Go.Sl Go.Num
section
variable {C:Ctx}{st:List (Nat×Value)}{M:List Row}{k:List Item}{q q':Md}{all rest:List Oper}{d:Nat}{ty:TypeId}{pos:String}{after:Array Edge}{gd:Option (Nat×Bool)}
abbrev tfam (N:Nat) (L:List Rn):Row:=famRow N Rn.adr 2 (fun r:Rn=>r.tab.map hoV) L
def srcR (n:Nat) (L0 L:List Rn):Prop:=∀ r∈L,r.tab.length=0∨(∀ p,r.adr=some p→n≤p.block)∨∃ r'∈L0,r'.adr=r.adr∧r'.tab=r.tab
theorem srcR.mono {n m:Nat}{L0 L1 L:List Rn} (h:srcR n L0 L) (h1:m≤n) (h2:∀ r∈L0,r∈L1):srcR m L1 L:=fun r hr=>(h r hr).imp id (Or.imp (fun h p hp=>Nat.le_trans h1 (h p hp)) fun ⟨r',h3,h4⟩=>⟨r',h2 r' h3,h4⟩)
theorem srcR.nil {n:Nat}{L0:List Rn}:srcR n L0 []:=fun r hr=>by cases hr
theorem srcR.app {n:Nat}{L0 a b:List Rn} (h1:srcR n L0 a) (h2:srcR n L0 b):srcR n L0 (a++b):=fun r hr=>(List.mem_append.1 hr).elim (h1 r) (h2 r)
theorem srcR.sub {n:Nat}{L0 a b:List Rn} (h1:srcR n L0 a) (h2:∀ r∈b,r∈a):srcR n L0 b:=fun r hr=>h1 r (h2 r hr)
theorem srcR.one {n:Nat}{L0:List Rn}{r:Rn} (h:r.tab.length=0∨(∀ p,r.adr=some p→n≤p.block)∨∃ r'∈L0,r'.adr=r.adr∧r'.tab=r.tab):srcR n L0 [r]:=fun r hr=>by rw [List.mem_singleton.1 hr];exact h
theorem srcR.self {n:Nat}{L0 L:List Rn} (h:∀ r∈L,r∈L0):srcR n L0 L:=fun r hr=>.inr (.inr ⟨r,h r hr,rfl,rfl⟩)
theorem srcR.comp {n:Nat}{L0 L1 L:List Rn} (h:srcR n L0 L) (h1:srcR n L1 L0):srcR n L1 L:=fun r hr=>by
 rcases h r hr with h2|h2|⟨r',h2,h3,h4⟩
 ·exact .inl h2
 ·exact .inr (.inl h2)
 ·have:=h1 r' h2
  rw [h3,h4] at this;exact this
theorem SlAt.lt {w:World}{a:Option Addr}{sz:Nat}{L:List (List Value)} (h:SlAt w a sz L) (h0:0 < L.length):∀ p,a=some p→p.block < w.heap.size:=fun p hp=>by
 obtain ⟨b,off,e,hr⟩:=h h0
 rw [e] at hp;cases hp
 exact (hr 0 _ (List.getElem?_eq_getElem h0)).1
theorem Sat.tfamOld {w0 w:World}{a:Option Addr}{L:List Rn} (hw:Sat w0 M w) (h:RunsAt w0 a L):Sat w0 (tfam w0.heap.size L::M) w:=by
 refine hw.addFact (Nat.le_refl _) (fun r hr=>SlAt.below (h.2 r hr) hw.below) fun b hb=>?_
 obtain ⟨r,hr,h1,p,h2,h3,h4⟩:=hb
 have:=SlAt.lt (h.2 r hr) h1 p h2
 omega
theorem J.tfamOld {a:Option Addr}{L:List Rn} (h:RunsAt C.w0 a L) (hk:J C st (tfam C.w0.heap.size L::M) k):J C st M k:=.mk fun ac w hf hd hw=>hk.go ac w hf hd (Sat.tfamOld hw h)
theorem Sat.tfamNew {w0 w:World}{n:Nat}{L0 L:List Rn} (hw:Sat w0 M w) (h:∀ r∈L,TabAt w r) (hs:srcR n L0 L) (h0:L0=[]∨tfam w0.heap.size L0∈M) (hf:∀ b,n≤b→w0.heap.size≤b→∀ r∈M,¬ r.lock b):Sat w0 (tfam w0.heap.size L::M) w:=by
 refine hw.addFact (Nat.le_refl _) h fun b hb=>?_
 obtain ⟨r,hr,h1,p,h2,h3,h4⟩:=hb
 dsimp only at h1 h2 h3 h4
 have hlt:=SlAt.lt (h r hr) h1 p h2
 rw [List.length_map] at h1
 rcases hs r hr with h5|h5|⟨r',h5,h6,h7⟩
 ·omega
 ·have:=h5 p h2
  subst h3
  exact ⟨h4,hlt,hf _ this h4⟩
 ·rcases h0 with h0|h0
  ·rw [h0] at h5;cases h5
  ·have h8:(tfam w0.heap.size L0).sup b:=⟨r',h5,by show 0 < (r'.tab.map hoV).length;rw [h7,List.length_map];exact h1,p,h6.trans h2,h3,h4⟩
   have ho:=hw.old _ h0
   exact ⟨(ho.2 b h8).1,(ho.2 b h8).2,fun r'' hr''=>hw.noLock h0 (fun _ h=>h) hr'' h8⟩
def RetU (L0:List Rn) (P:List Rn→Prop) (v:Option Addr→Nat→Nat→Value) (w:World) (e:Ending) (w':World):Prop :=
 ∃ L a' c',P L∧e=.returned (v a' L.length c')∧RunsAt w' a' L∧((∀ p,a'=some p→w.heap.size≤p.block)∧L.length≤c')∧srcR w.heap.size L0 L∧Below w.heap.size w w'
theorem G.cU {g:FuncId}{args:List Operand}{vs:List Value}{at_:Array TypeId} (v:Option Addr→Nat→Nat→Value) (P:List Rn→Prop) (L0:List Rn) (h0:L0=[]∨tfam C.w0.heap.size L0∈M) (ha:evL st args=some vs) (hs:sideB all st gd d C.N q.ext=some q') [hF:Fun C.P g]
  (hc:∀ w,Sat C.w0 M w→Calls C.P g vs.toArray w (RetU L0 P v w))
  (h:∀ L a' c',P L→(0 < L.length→∃ b off,a'=some ⟨b,off,none⟩)∧((∀ p,a'=some p→C.w0.heap.size≤p.block)∧L.length≤c')→srcR C.w0.heap.size L0 L→G q' C all ((d,v a' L.length c')::st) (slRow C.w0.heap.size a' 5 (L.map rnV)::tfam C.w0.heap.size L::M) rest k) :
  G q C all st M ({ dst:=some d,op:=.call { callee:=.value (.func g),args:=args.toArray,argTypes:=at_ },type:=ty,pos,after,guard:=gd }::rest) k:=by
 obtain ⟨g1,g2,g3⟩:=sideB_ok hs
 refine G.call0 (X:={ x:List Rn×Option Addr×Nat // P x.1∧((0 < x.1.length→∃ b off,x.2.1=some ⟨b,off,none⟩)∧((∀ p,x.2.1=some p→C.w0.heap.size≤p.block)∧x.1.length≤x.2.2))∧srcR C.w0.heap.size L0 x.1 }) (v:=fun x=>v x.1.2.1 x.1.1.length x.1.2.2) (Mn:=fun x=>[slRow C.w0.heap.size x.1.2.1 5 (x.1.1.map rnV),tfam C.w0.heap.size x.1.1]) g1 g2 g3 ha (fun w hw=>(hc w hw).mono fun e w' he=>?_) fun x=>h x.1.1 x.1.2.1 x.1.2.2 x.2.1 x.2.2.1 x.2.2.2
 obtain ⟨L,a',c',hP,rfl,h1,⟨h2,h2c⟩,h3,h4⟩:=he
 have hw':=hw.ext h4
 have hf:∀ b,w.heap.size≤b→C.w0.heap.size≤b→∀ r∈M,¬ r.lock b:=fun b hb h7=>hw.free (.inr (.inl hb)) h7
 have hw2:Sat C.w0 (tfam C.w0.heap.size L::M) w':=Sat.tfamNew hw' h1.2 h3 h0 hf
 refine ⟨⟨(L,a',c'),hP,⟨fun h0=>(let ⟨b,off,e,_⟩:=h1.1 (by rw [List.length_map];exact h0);⟨b,off,e⟩),⟨fun p hp=>Nat.le_trans hw.size (h2 p hp),h2c⟩⟩,h3.mono hw.size fun _ h=>h⟩,rfl,hw2.addFact (Nat.le_refl _) h1.1 fun b hb=>?_⟩
 obtain ⟨h5,p,h6,h7,h8⟩:=hb
 dsimp only at h5 h6
 have hlt:=SlAt.lt h1.1 h5 p h6
 have:=h2 p h6
 subst h7
 refine ⟨h8,hlt,fun r hr=>?_⟩
 rcases List.mem_cons.1 hr with rfl|hr
 ·exact fun h=>h
 ·exact hf _ this h8 r hr
end
theorem RunsAt.of {w0 w:World}{M:List Row}{N:Nat}{a:Option Addr}{L:List Rn} (hw:Sat w0 M w) (h1:slRow N a 5 (L.map rnV)∈M:=by (repeat (first|exact List.Mem.head _|apply List.Mem.tail))) (h2:tfam N L∈M:=by (repeat (first|exact List.Mem.head _|apply List.Mem.tail))):RunsAt w a L:=⟨hw.sl h1,fun r hr=>hw.fam h2 r hr⟩
theorem sat_ownCap {w0 w:World}{M:List Row}{base E sz n c:Nat}{a:Option Addr}{xs:List Value} (hw:Sat w0 M w) (h1:Row.own base (.slice a n c) E sz n xs∈M):n≤c:=by
 obtain ⟨_,hv⟩:=hw.hold _ h1
 rcases hv with ⟨e,_⟩|⟨g,cap,cur,e,_,_,h,_⟩
 ·cases e;exact Nat.le_refl _
 ·cases e;exact h
theorem Sat.retU {w0 w:World}{M:List Row}{L0 L:List Rn}{a:Option Addr}{n c:Nat}{P:List Rn→Prop} (v:Option Addr→Nat→Nat→Value) (hw:Sat w0 M w) (hP:P L) (hn:L.length=n) (hs:srcR w0.heap.size L0 L) (h1:Row.own 0 (.slice a n c) 90 5 n (flat rnV L)∈M:=by (repeat (first|exact List.Mem.head _|apply List.Mem.tail))) (h2:tfam w0.heap.size L∈M:=by (repeat (first|exact List.Mem.head _|apply List.Mem.tail))) :
  RetU L0 P v w0 (.returned (v a n c)) w:=by
 subst hn
 have ho:=hw.hold _ h1
 refine ⟨L,a,c,hP,rfl,⟨SlAt.ofOwn rnV_len ho rfl,fun r hr=>hw.fam h2 r hr⟩,⟨?_,sat_ownCap hw h1⟩,hs,hw.below⟩
 rintro p rfl
 exact ((hw.old _ h1).2 p.block rfl).1
theorem Sat.retS {w0 w:World}{M:List Row}{L0 L:List Rn}{a:Option Addr}{n c:Nat}{P:List Rn→Prop} (v:Option Addr→Nat→Nat→Value) (hw:Sat w0 M w) (hP:P L) (hn:L.length=n) (ha:(∀ p,a=some p→w0.heap.size≤p.block)∧L.length≤c) (hs:srcR w0.heap.size L0 L) (h1:slRow w0.heap.size a 5 (L.map rnV)∈M:=by (repeat (first|exact List.Mem.head _|apply List.Mem.tail))) (h2:tfam w0.heap.size L∈M:=by (repeat (first|exact List.Mem.head _|apply List.Mem.tail))) :
  RetU L0 P v w0 (.returned (v a n c)) w:=by
 subst hn
 exact ⟨L,a,c,hP,rfl,RunsAt.of hw h1 h2,ha,hs,hw.below⟩
theorem hoV_one (x:Int×Int):(hoV x).all (·.oneCell')=true:=rfl
theorem rnV_one (r:Rn):(rnV r).all (·.oneCell')=true:=rfl
theorem cloneH_holds (a:Option Addr) (t:List (Int×Int)) (c:Nat) (w:World) (hA:SlAt w a 2 (t.map hoV)) (hl:t.length≤1000000) :
  Calls Tryz.prog 148 #[.slice a t.length c] w fun e w'=>∃ a' c',e=.returned (.slice a' t.length c')∧SlAt w' a' 2 (t.map hoV)∧(∀ p,a'=some p→w.heap.size≤p.block)∧Below w.heap.size w w':=by
 cases a with
 | none =>
  have h0:t.length=0:=by
   rcases Nat.eq_zero_or_pos t.length with h|h
   ·exact h
   ·obtain ⟨_,_,e,_⟩:=hA (by rw [List.length_map];exact h)
    cases e
  rw [h0]
  refine enterA [(0,.slice none 0 c)] Tryz.func148 Tryz.ntmps148 ?_
  all_goals (refine go ?_;and_intros<;>(try exact trivial)<;>repeat (first|refine fun (Bk:Nat)=>?_|intro h))
  repeat' ((first|(apply G.isNil;rfl;rfl;rfl;all_goals intro h;all_goals try (exact absurd rfl h)))<;>(refine go ?_;and_intros<;>(try exact trivial)<;>repeat (first|refine fun (Bk:Nat)=>?_|intro h)))
  refine ret1 Tryz.func148 Tryz.results148 ?_
  exact fun w' hw'=>⟨none,0,rfl,fun h=>by rw [List.length_map] at h;omega,fun p hp=>(by cases hp),hw'.below⟩
 | some p =>
  refine enterA [(0,.slice (some p) t.length c)] Tryz.func148 Tryz.ntmps148 ?_
  all_goals (refine go ?_;and_intros<;>(try exact trivial)<;>repeat (first|refine fun (Bk:Nat)=>?_|intro h))
  repeat' ((first|(apply G.isNil;rfl;rfl;rfl;all_goals intro h;all_goals try (cases h;done))|(apply G.slice0;rfl;rfl;rfl;intro Bk)|(apply G.apV;rfl;rfl;rfl;(repeat (first|exact RAt.head|apply RAt.tail));exact SrcV.old hoV_len hoV_one hA;exact List.nil_append _;omega;omega;intro a2 c2))<;>(refine go ?_;and_intros<;>(try exact trivial)<;>repeat (first|refine fun (Bk:Nat)=>?_|intro h)))
  refine ret1 Tryz.func148 Tryz.results148 ?_
  intro w' hw'
  rw [Nat.zero_add] at hw'
  refine ⟨a2,c2,by rw [Nat.zero_add],SlAt.ofOwn hoV_len (hw'.hold _ (List.Mem.head _)) rfl,?_,hw'.below⟩
  rintro p rfl
  exact ((hw'.old _ (List.Mem.head _)).2 p.block rfl).1
theorem cloneR_holds (a:Option Addr) (l:List Rn) (c:Nat) (w0 w:World) (M:List Row) (hw:Sat w0 M w) (hA:SlAt w0 a 5 (l.map rnV)) (hl:l.length≤1000000) :
  Calls Tryz.prog 147 #[.slice a l.length c] w fun e w'=>∃ x:Option Addr×Nat,e=.returned (.slice x.1 l.length x.2)∧Sat w0 (.own 0 (.slice x.1 l.length x.2) 90 5 l.length (flat rnV l)::M) w':=by
 cases a with
 | none =>
  have h0:l.length=0:=by
   rcases Nat.eq_zero_or_pos l.length with h|h
   ·exact h
   ·obtain ⟨_,_,e,_⟩:=hA (by rw [List.length_map];exact h)
    cases e
  obtain rfl:=List.length_eq_zero_iff.1 h0
  refine enterR [(0,.slice none 0 c)] hw Tryz.func147 Tryz.ntmps147 ?_
  apply J.nilOwn (E:=90) (size:=5)
  all_goals (refine go ?_;and_intros<;>(try exact trivial)<;>repeat (first|refine fun (Bk:Nat)=>?_|intro h))
  repeat' ((first|(apply G.isNil;rfl;rfl;rfl;all_goals intro h;all_goals try (exact absurd rfl h)))<;>(refine go ?_;and_intros<;>(try exact trivial)<;>repeat (first|refine fun (Bk:Nat)=>?_|intro h)))
  refine ret1 Tryz.func147 Tryz.results147 ?_
  exact fun w' hw'=>⟨(none,0),rfl,hw'⟩
 | some p =>
  refine enterR [(0,.slice (some p) l.length c)] hw Tryz.func147 Tryz.ntmps147 ?_
  all_goals (refine go ?_;and_intros<;>(try exact trivial)<;>repeat (first|refine fun (Bk:Nat)=>?_|intro h))
  repeat' ((first|(apply G.isNil;rfl;rfl;rfl;all_goals intro h;all_goals try (cases h;done))|(apply G.slice0;rfl;rfl;rfl;intro Bk)|(apply G.apV;rfl;rfl;rfl;(repeat (first|exact RAt.head|apply RAt.tail));exact SrcV.old rnV_len rnV_one hA;exact List.nil_append _;omega;omega;intro a2 c2))<;>(refine go ?_;and_intros<;>(try exact trivial)<;>repeat (first|refine fun (Bk:Nat)=>?_|intro h)))
  refine ret1 Tryz.func147 Tryz.results147 ?_
  intro w' hw'
  rw [Nat.zero_add] at hw'
  exact ⟨(a2,c2),by rw [Nat.zero_add],hw'⟩
end Go.Proofs.YtcdgibkbbcekhaaGreatDoor
/-
 Contracts: run.copied,run.both.
-/
namespace Go.Proofs.YtcdgibkbbcekhaaGreatDoor
open Go.RowKit Go.Sl Go.Num
theorem flat_mget {A:Type}{f:A→List Value}{sz:Nat} (hf:∀ x,(f x).length=sz) {l:List A}{k:Nat} (h:k < l.length) {j:Nat} (hj:j < sz) {v:Value} (hv:(f l[k])[j]?=some v):(flat f l)[0+k*sz+j]?=some v:=by
 rw [Nat.zero_add,flat_at hf h hj];exact hv
theorem flat_mset {A:Type}{f:A→List Value}{sz:Nat} (hf:∀ x,(f x).length=sz) {l:List A}{k:Nat} (h:k < l.length) {j:Nat} (hj:j < sz) {v:Value}{y:A} (hv:(f l[k]).set j v=f y):setL (flat f l) (0+k*sz+j) [v]=flat f (l.set k y):=by
 have h1:l=l.take k++l[k]::l.drop (k+1):=by rw [← List.drop_eq_getElem_cons h,List.take_append_drop]
 have h3:(flat f (l.take k)).length=k*sz:=by rw [flat_len hf,List.length_take,Nat.min_eq_left (by omega)]
 have h4:(flat f l).length=l.length*sz:=flat_len hf l
 have h5:(k+1)*sz≤l.length*sz:=Nat.mul_le_mul_right _ h
 rw [Nat.succ_mul] at h5
 rw [Nat.zero_add,setL_eq _ _ _ (by rw [h4,List.length_singleton];omega)]
 have h2:(flat f l)=flat f (l.take k)++(f l[k]++flat f (l.drop (k+1))):=by
  rw [← flat_cons,← flat_append,← h1]
 have h6:flat f (l.set k y)=flat f (l.take k)++(f y++flat f (l.drop (k+1))):=by
  rw [← flat_cons,← flat_append,List.set_eq_take_append_cons_drop,if_pos h]
 rw [h6,h2,← hv,List.take_append,h3,List.drop_append,h3]
 have e1:(f l[k]).length=sz:=hf _
 rw [List.take_of_length_le (by omega),show (flat f (l.take k)).drop (k*sz+j+[v].length)=[] from List.drop_eq_nil_of_le (by rw [h3,List.length_singleton];omega),show k*sz+j-k*sz=j by omega,List.length_singleton,show k*sz+j+1-k*sz=j+1 by omega,List.nil_append,List.take_append_of_le_length (by omega),List.drop_append_of_le_length (by omega),List.append_assoc,List.append_assoc]
 congr 1
 rw [← List.append_assoc,← List.append_assoc]
 congr 1
 rw [List.set_eq_take_append_cons_drop,if_pos (by omega),List.append_assoc];rfl
def newT (N:Nat) (L:List Rn):Prop:=∀ r∈L,∀ p,r.adr=some p→N≤p.block
theorem newT.src {N:Nat}{L0 L:List Rn} (h:newT N L):srcR N L0 L:=fun r hr=>.inr (.inl (h r hr))
theorem newT.app {N:Nat}{a b:List Rn} (h1:newT N a) (h2:newT N b):newT N (a++b):=fun r hr=>(List.mem_append.1 hr).elim (h1 r) (h2 r)
theorem copied_holds (a:Option Addr) (l:List Rn) (c:Nat) (w0 w:World) (M:List Row) (hw:Sat w0 M w) (hA:RunsAt w0 a l) (hl:l.length≤1000000) (ht:∀ r∈l,r.tab.length≤1000000) :
  Calls Tryz.prog 98 #[.slice a l.length c] w fun e w'=>∃ x:{ x:List Rn×Option Addr×Nat // x.1.map rbare=l.map rbare∧newT w0.heap.size x.1 },e=.returned (.slice x.1.2.1 l.length x.1.2.2)∧Sat w0 (.own 0 (.slice x.1.2.1 l.length x.1.2.2) 90 5 l.length (flat rnV x.1.1)::tfam w0.heap.size x.1.1::M) w':=by
 refine enterR [(0,.slice a l.length c)] hw Tryz.func98 Tryz.ntmps98 ?_
 all_goals (refine go ?_;and_intros<;>(try exact trivial)<;>repeat (first|refine fun (Bk:Nat)=>?_|intro h))
 repeat' ((first|(refine G.cR (g:=147) (v:=fun x:Option Addr×Nat=>.slice x.1 l.length x.2) (Mn:=fun x=>[.own 0 (.slice x.1 l.length x.2) 90 5 l.length (flat rnV l)]) rfl rfl (fun w' hw'=>cloneR_holds a l c w0 w' _ hw' hA.1 hl) ?_;intro ⟨a1,c1⟩;dsimp only))<;>(refine go ?_;and_intros<;>(try exact trivial)<;>repeat (first|refine fun (Bk:Nat)=>?_|intro h)))
 apply J.fam0 Rn.adr 2 (fun r=>r.tab.map hoV)
 rcases Nat.eq_zero_or_pos l.length with h0|h0
 ·obtain rfl:=List.length_eq_zero_iff.1 h0
  refine J.loop (c:=_) (0:Nat) (fun s=>0) (fun s=>[(3,.slice a1 0 c1),(8,.int .i64 0),(9,.int .i64 0)]) (fun s=>tfam w0.heap.size []::.own 0 (.slice a1 0 c1) 90 5 0 (flat rnV [])::M) (fun s=>True) ?_ sbT sbL ?_
  ·exact trivial
  intro _ _ _
  all_goals (refine go ?_;and_intros<;>(try exact trivial)<;>repeat (first|refine fun (Bk:Nat)=>?_|intro h))
  refine ret1 Tryz.func98 Tryz.results98 ?_
  exact fun w' hw'=>⟨⟨([],a1,c1),rfl,fun r hr=>by cases hr⟩,rfl,hw'.sel⟩
 refine J.ownOpen RAt.au h0 ?_
 intro g cap hgc hcm hv
 rw [hv]
 clear hv
 have hlk:=fun k hk=>hA.2 _ (List.getElem_mem (l:=l) (n:=k) hk)
 refine J.loop (c:=_) ((0,[]):Nat×List Rn) (fun s=>l.length-s.1) (fun s=>[(3,.slice (some ⟨g,0,none⟩) l.length cap),(8,.int .i64 l.length),(9,.int .i64 s.1)]) (fun s=>tfam w0.heap.size s.2::.blk g 90 (flat rnV (s.2++l.drop s.1)) (cap*5)::M) (fun s=>s.1≤l.length∧s.2.length=s.1∧s.2.map rbare=(l.take s.1).map rbare∧newT w0.heap.size s.2) ?_ sbT sbL ?_
 ·exact ⟨Nat.zero_le _,rfl,rfl,fun r hr=>by cases hr⟩
 intro ⟨k,P⟩ ⟨h1,h2,h3,h4⟩ ih
 dsimp only at h1 h2 h3 h4 ⊢
 by_cases hk:k < l.length
 ·have htk:=hlk k hk
  have hcl:=fun w' (hb:Below w0.heap.size w0 w')=>cloneH_holds l[k].adr l[k].tab l[k].cap w' (SlAt.below htk hb) (ht _ (List.getElem_mem hk))
  have hlen:k < (P++l.drop k).length:=by rw [List.length_append,List.length_drop];omega
  have hge:(P++l.drop k)[k]=l[k]:=by rw [List.getElem_append_right (by omega),List.getElem_drop];congr 1;omega
  have q1:=flat_mget rnV_len hlen (j:=2) (by decide) (v:=.slice l[k].adr l[k].tab.length l[k].cap) (by rw [hge];rfl)
  have r1:=fun a2 c2=>flat_mset rnV_len hlen (j:=2) (by decide) (v:=.slice a2 l[k].tab.length c2) (y:={ l[k] with adr:=a2,cap:=c2 }) (by rw [hge];rfl)
  have e1:∀ y,(P++l.drop k).set k y=(P++[y])++l.drop (k+1):=fun y=>by
   rw [List.set_append_right _ _ (by omega),h2,Nat.sub_self,List.drop_eq_getElem_cons hk,List.set_cons_zero,List.append_assoc];rfl
  have l1:0+k*5+2 < (flat rnV (P++l.drop k)).length:=by
   rw [flat_len rnV_len]
   have:(k+1)*5≤(P++l.drop k).length*5:=Nat.mul_le_mul_right _ hlen
   omega
  have htm:(l.take (k+1)).map rbare=(l.take k).map rbare++[rbare l[k]]:=by
   rw [List.take_add_one,List.getElem?_eq_getElem hk,List.map_append];rfl
  have ih:=fun (y:Rn) (hy:rbare y=rbare l[k]) (hn:∀ p,y.adr=some p→w0.heap.size≤p.block)=>ih (k+1,P++[y]) ⟨hk,by dsimp only;simp [h2],by dsimp only;rw [List.map_append,h3,htm,← hy];rfl,h4.app fun r hr=>by rw [List.mem_singleton.1 hr];exact hn⟩ (by dsimp only;omega)
  clear hlk htm hge
  generalize l[k]=r at *
  obtain ⟨f,t,tab,adr,cap2,lo,hi⟩:=r
  dsimp only at *
  all_goals (refine go ?_;and_intros<;>(try exact trivial)<;>repeat (first|refine fun (Bk:Nat)=>?_|intro h))
  repeat' ((first|(apply G.ix (i:=k);rfl;rfl;exact rfl;omega;rfl)|(apply G.ld;rfl;(apply LdV.one;exact CellV.blk (by exact mm) q1);rfl)|(apply G.cN (g:=148) (fun a' c'=>.slice a' tab.length c') (tab.map hoV);rfl;rfl;exact fun w' hw'=>hcl w' hw'.below;intro a2 c2 hp2 hq2)|(apply G.s1;rfl;rfl;rfl;(repeat (first|exact RAt.head|apply RAt.tail));exact ⟨rfl,rfl⟩;exact l1;exact r1 a2 c2))<;>(refine go ?_;and_intros<;>(try exact trivial)<;>repeat (first|refine fun (Bk:Nat)=>?_|intro h)))
  rw [e1]
  refine J.famAdd (r:=(⟨f,t,tab,a2,c2,lo,hi⟩:Rn)) (o:=P) mm mm ?_
  exact J.fin (ih ⟨f,t,tab,a2,c2,lo,hi⟩ rfl hq2)
 ·obtain rfl:k=l.length:=by omega
  clear ih hlk
  rw [List.drop_length,List.append_nil]
  rw [List.take_length] at h3
  refine J.blkCut (l':=P) P.length rnV_len RAt.au (by omega) hcm (Nat.le_refl _) (List.take_length ..) ?_
  rw [h2]
  all_goals (refine go ?_;and_intros<;>(try exact trivial)<;>repeat (first|refine fun (Bk:Nat)=>?_|intro h))
  refine ret1 Tryz.func98 Tryz.results98 ?_
  exact fun w' hw'=>⟨⟨(P,some ⟨g,0,none⟩,cap),h3,h4⟩,rfl,hw'.sel⟩
def RetB (a b:Rn) (w:World) (e:Ending) (w':World):Prop:=∃ x:Rn,e=.returned (.tuple #[rnA x,.bool (jblB a b)])∧(jblB a b=true→rbare x=jnR a b)∧TabAt w' x∧(∀ p,x.adr=some p→w.heap.size≤p.block)∧Below w.heap.size w w'
theorem both_holds (a b:Rn) (w:World) (hA:TabAt w a) (hB:TabAt w b) (h1:OkR a) (h2:OkR b):Calls Tryz.prog 80 #[rnA a,rnA b] w (RetB a b w):=by
 have r1:=h1.rng
 have r2:=h2.rng
 have hno:jblB a b=false→Calls Tryz.prog 80 #[rnA a,rnA b] w (fun e w'=>e=.returned (.tuple #[.agg #[.int .i64 0,.int .i64 0,.slice none 0 0,.int .i64 0,.int .i64 0],.bool false])∧Below w.heap.size w w')→Calls Tryz.prog 80 #[rnA a,rnA b] w (RetB a b w):=fun hj h=>h.mono fun e w' ⟨h3,h4⟩=>⟨⟨0,0,[],none,0,0,0⟩,by rw [hj];exact h3,fun h=>(by rw [hj] at h;cases h),fun h=>(by cases h),fun p hp=>(by cases hp),h4⟩
 by_cases hr:a.tab.length=1∧b.tab.length=1
 ·obtain ⟨ra,_⟩:=h1.raw hr.1
  obtain ⟨rb,_⟩:=h2.raw hr.2
  by_cases hs:stg a=stg b
  ·have hj:jblB a b=true:=by rw [jblB,if_pos hr];exact decide_eq_true hs
   refine (bothEq_holds a b (stg b) w (hs ▸ ra) rb hA hB (by omega) (by omega)).mono fun e w' ⟨a',c',h3,h4,h5,h6⟩=>?_
   refine ⟨⟨a.from_,b.to_,[(stg b,b.to_-a.from_)],a',c',0,0⟩,by rw [hj];exact h3,fun _=>?_,h4,h5,h6⟩
   rw [jnR,if_neg (by omega),rb.2.1,rb.2.2];rfl
  ·have hj:jblB a b=false:=by rw [jblB,if_pos hr];exact decide_eq_false hs
   exact hno hj (bothNe_holds a b _ _ w ra rb hA hB hs)
 have hj:jblB a b=decide (a.tab.length=0∧b.tab.length=0∧a.lo=b.lo∧a.hi=b.hi):=by rw [jblB,if_neg hr]
 have hra:=fun w'=>raw_holds a w'
 have hrb:=fun w'=>raw_holds b w'
 have hga:=fun w'=>gap_holds a w'
 have hgb:=fun w'=>gap_holds b w'
 by_cases hg:a.tab.length=0∧b.tab.length=0∧a.lo=b.lo∧a.hi=b.hi
 ·rw [decide_eq_true hg] at hj
  clear hno hr hA hB h1 h2
  obtain ⟨f,t,tab,adr,cap,lo,hi⟩:=a
  obtain ⟨f2,t2,tab2,adr2,cap2,lo2,hi2⟩:=b
  dsimp only [rnA] at *
  obtain ⟨g1,g2,g3,g4⟩:=hg
  rw [decide_eq_true g1] at hga
  rw [decide_eq_true g2] at hgb
  rw [decide_eq_false (by omega)] at hra hrb
  refine enterA [(0,.agg #[.int .i64 f,.int .i64 t,.slice adr tab.length cap,.int .i64 lo,.int .i64 hi]),(1,.agg #[.int .i64 f2,.int .i64 t2,.slice adr2 tab2.length cap2,.int .i64 lo2,.int .i64 hi2])] Tryz.func80 Tryz.ntmps80 ?_
  all_goals (refine go ?_;and_intros<;>(try exact trivial)<;>repeat (first|refine fun (Bk:Nat)=>?_|intro h))
  repeat' ((first|(apply G.cV (g:=99) (vs:=[.agg #[.int .i64 f,.int .i64 t,.slice adr tab.length cap,.int .i64 lo,.int .i64 hi]]);rfl;rfl;exact fun w' _=>hra w')|(apply G.cV (g:=99) (vs:=[.agg #[.int .i64 f2,.int .i64 t2,.slice adr2 tab2.length cap2,.int .i64 lo2,.int .i64 hi2]]);rfl;rfl;exact fun w' _=>hrb w')|(apply G.cV (g:=81) (vs:=[.agg #[.int .i64 f,.int .i64 t,.slice adr tab.length cap,.int .i64 lo,.int .i64 hi]]);rfl;rfl;exact fun w' _=>hga w')|(apply G.cV (g:=81) (vs:=[.agg #[.int .i64 f2,.int .i64 t2,.slice adr2 tab2.length cap2,.int .i64 lo2,.int .i64 hi2]]);rfl;rfl;exact fun w' _=>hgb w'))<;>(refine go ?_;and_intros<;>(try exact trivial)<;>repeat (first|refine fun (Bk:Nat)=>?_|intro h)))
  refine ret2 Tryz.func80 Tryz.results80 ?_
  exact fun w' hw'=>⟨⟨f,t2,[],none,0,lo,hi⟩,by rw [hj];rfl,fun _=>by rw [jnR,if_pos g2,← g3,← g4];rfl,fun h=>(by cases h),fun p hp=>(by cases hp),hw'.below⟩
 ·rw [decide_eq_false hg] at hj
  refine hno hj ?_
  clear hno hj hA hB h1 h2
  obtain ⟨f,t,tab,adr,cap,lo,hi⟩:=a
  obtain ⟨f2,t2,tab2,adr2,cap2,lo2,hi2⟩:=b
  dsimp only [rnA] at *
  by_cases g1:tab.length=0
  ·rw [decide_eq_true g1] at hga
   rw [decide_eq_false (by omega)] at hra
   by_cases g2:tab2.length=0
   ·rw [decide_eq_true g2] at hgb
    rw [decide_eq_false (by omega)] at hrb
    by_cases g3:lo=lo2
    ·have g4:hi≠hi2:=fun e=>hg ⟨g1,g2,g3,e⟩
     clear hg hr
     refine enterA [(0,.agg #[.int .i64 f,.int .i64 t,.slice adr tab.length cap,.int .i64 lo,.int .i64 hi]),(1,.agg #[.int .i64 f2,.int .i64 t2,.slice adr2 tab2.length cap2,.int .i64 lo2,.int .i64 hi2])] Tryz.func80 Tryz.ntmps80 ?_
     all_goals (refine go ?_;and_intros<;>(try exact trivial)<;>repeat (first|refine fun (Bk:Nat)=>?_|intro h))
     repeat' ((first|(apply G.cV (g:=99) (vs:=[.agg #[.int .i64 f,.int .i64 t,.slice adr tab.length cap,.int .i64 lo,.int .i64 hi]]);rfl;rfl;exact fun w' _=>hra w')|(apply G.cV (g:=99) (vs:=[.agg #[.int .i64 f2,.int .i64 t2,.slice adr2 tab2.length cap2,.int .i64 lo2,.int .i64 hi2]]);rfl;rfl;exact fun w' _=>hrb w')|(apply G.cV (g:=81) (vs:=[.agg #[.int .i64 f,.int .i64 t,.slice adr tab.length cap,.int .i64 lo,.int .i64 hi]]);rfl;rfl;exact fun w' _=>hga w')|(apply G.cV (g:=81) (vs:=[.agg #[.int .i64 f2,.int .i64 t2,.slice adr2 tab2.length cap2,.int .i64 lo2,.int .i64 hi2]]);rfl;rfl;exact fun w' _=>hgb w'))<;>(refine go ?_;and_intros<;>(try exact trivial)<;>repeat (first|refine fun (Bk:Nat)=>?_|intro h)))
     all_goals refine ret2b Tryz.func80 Tryz.results80 ?_
     all_goals rfl
    ·clear hg hr
     refine enterA [(0,.agg #[.int .i64 f,.int .i64 t,.slice adr tab.length cap,.int .i64 lo,.int .i64 hi]),(1,.agg #[.int .i64 f2,.int .i64 t2,.slice adr2 tab2.length cap2,.int .i64 lo2,.int .i64 hi2])] Tryz.func80 Tryz.ntmps80 ?_
     all_goals (refine go ?_;and_intros<;>(try exact trivial)<;>repeat (first|refine fun (Bk:Nat)=>?_|intro h))
     repeat' ((first|(apply G.cV (g:=99) (vs:=[.agg #[.int .i64 f,.int .i64 t,.slice adr tab.length cap,.int .i64 lo,.int .i64 hi]]);rfl;rfl;exact fun w' _=>hra w')|(apply G.cV (g:=99) (vs:=[.agg #[.int .i64 f2,.int .i64 t2,.slice adr2 tab2.length cap2,.int .i64 lo2,.int .i64 hi2]]);rfl;rfl;exact fun w' _=>hrb w')|(apply G.cV (g:=81) (vs:=[.agg #[.int .i64 f,.int .i64 t,.slice adr tab.length cap,.int .i64 lo,.int .i64 hi]]);rfl;rfl;exact fun w' _=>hga w')|(apply G.cV (g:=81) (vs:=[.agg #[.int .i64 f2,.int .i64 t2,.slice adr2 tab2.length cap2,.int .i64 lo2,.int .i64 hi2]]);rfl;rfl;exact fun w' _=>hgb w'))<;>(refine go ?_;and_intros<;>(try exact trivial)<;>repeat (first|refine fun (Bk:Nat)=>?_|intro h)))
     all_goals refine ret2b Tryz.func80 Tryz.results80 ?_
     all_goals rfl
   ·rw [decide_eq_false g2] at hgb
    clear hg hr
    refine enterA [(0,.agg #[.int .i64 f,.int .i64 t,.slice adr tab.length cap,.int .i64 lo,.int .i64 hi]),(1,.agg #[.int .i64 f2,.int .i64 t2,.slice adr2 tab2.length cap2,.int .i64 lo2,.int .i64 hi2])] Tryz.func80 Tryz.ntmps80 ?_
    all_goals (refine go ?_;and_intros<;>(try exact trivial)<;>repeat (first|refine fun (Bk:Nat)=>?_|intro h))
    repeat' ((first|(apply G.cV (g:=99) (vs:=[.agg #[.int .i64 f,.int .i64 t,.slice adr tab.length cap,.int .i64 lo,.int .i64 hi]]);rfl;rfl;exact fun w' _=>hra w')|(apply G.cV (g:=99) (vs:=[.agg #[.int .i64 f2,.int .i64 t2,.slice adr2 tab2.length cap2,.int .i64 lo2,.int .i64 hi2]]);rfl;rfl;exact fun w' _=>hrb w')|(apply G.cV (g:=81) (vs:=[.agg #[.int .i64 f,.int .i64 t,.slice adr tab.length cap,.int .i64 lo,.int .i64 hi]]);rfl;rfl;exact fun w' _=>hga w')|(apply G.cV (g:=81) (vs:=[.agg #[.int .i64 f2,.int .i64 t2,.slice adr2 tab2.length cap2,.int .i64 lo2,.int .i64 hi2]]);rfl;rfl;exact fun w' _=>hgb w'))<;>(refine go ?_;and_intros<;>(try exact trivial)<;>repeat (first|refine fun (Bk:Nat)=>?_|intro h)))
    all_goals refine ret2b Tryz.func80 Tryz.results80 ?_
    all_goals rfl
  ·rw [decide_eq_false g1] at hga
   by_cases g2:tab.length=1
   ·rw [decide_eq_true g2] at hra
    rw [decide_eq_false (by omega)] at hrb
    clear hg hr
    refine enterA [(0,.agg #[.int .i64 f,.int .i64 t,.slice adr tab.length cap,.int .i64 lo,.int .i64 hi]),(1,.agg #[.int .i64 f2,.int .i64 t2,.slice adr2 tab2.length cap2,.int .i64 lo2,.int .i64 hi2])] Tryz.func80 Tryz.ntmps80 ?_
    all_goals (refine go ?_;and_intros<;>(try exact trivial)<;>repeat (first|refine fun (Bk:Nat)=>?_|intro h))
    repeat' ((first|(apply G.cV (g:=99) (vs:=[.agg #[.int .i64 f,.int .i64 t,.slice adr tab.length cap,.int .i64 lo,.int .i64 hi]]);rfl;rfl;exact fun w' _=>hra w')|(apply G.cV (g:=99) (vs:=[.agg #[.int .i64 f2,.int .i64 t2,.slice adr2 tab2.length cap2,.int .i64 lo2,.int .i64 hi2]]);rfl;rfl;exact fun w' _=>hrb w')|(apply G.cV (g:=81) (vs:=[.agg #[.int .i64 f,.int .i64 t,.slice adr tab.length cap,.int .i64 lo,.int .i64 hi]]);rfl;rfl;exact fun w' _=>hga w')|(apply G.cV (g:=81) (vs:=[.agg #[.int .i64 f2,.int .i64 t2,.slice adr2 tab2.length cap2,.int .i64 lo2,.int .i64 hi2]]);rfl;rfl;exact fun w' _=>hgb w'))<;>(refine go ?_;and_intros<;>(try exact trivial)<;>repeat (first|refine fun (Bk:Nat)=>?_|intro h)))
    all_goals refine ret2b Tryz.func80 Tryz.results80 ?_
    all_goals rfl
   ·rw [decide_eq_false g2] at hra
    clear hg hr
    refine enterA [(0,.agg #[.int .i64 f,.int .i64 t,.slice adr tab.length cap,.int .i64 lo,.int .i64 hi]),(1,.agg #[.int .i64 f2,.int .i64 t2,.slice adr2 tab2.length cap2,.int .i64 lo2,.int .i64 hi2])] Tryz.func80 Tryz.ntmps80 ?_
    all_goals (refine go ?_;and_intros<;>(try exact trivial)<;>repeat (first|refine fun (Bk:Nat)=>?_|intro h))
    repeat' ((first|(apply G.cV (g:=99) (vs:=[.agg #[.int .i64 f,.int .i64 t,.slice adr tab.length cap,.int .i64 lo,.int .i64 hi]]);rfl;rfl;exact fun w' _=>hra w')|(apply G.cV (g:=99) (vs:=[.agg #[.int .i64 f2,.int .i64 t2,.slice adr2 tab2.length cap2,.int .i64 lo2,.int .i64 hi2]]);rfl;rfl;exact fun w' _=>hrb w')|(apply G.cV (g:=81) (vs:=[.agg #[.int .i64 f,.int .i64 t,.slice adr tab.length cap,.int .i64 lo,.int .i64 hi]]);rfl;rfl;exact fun w' _=>hga w')|(apply G.cV (g:=81) (vs:=[.agg #[.int .i64 f2,.int .i64 t2,.slice adr2 tab2.length cap2,.int .i64 lo2,.int .i64 hi2]]);rfl;rfl;exact fun w' _=>hgb w'))<;>(refine go ?_;and_intros<;>(try exact trivial)<;>repeat (first|refine fun (Bk:Nat)=>?_|intro h)))
    all_goals refine ret2b Tryz.func80 Tryz.results80 ?_
    all_goals rfl
end Go.Proofs.YtcdgibkbbcekhaaGreatDoor
