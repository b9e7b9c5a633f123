/-
  Plain: where the tables lie does not matter; the example's values.
-/
import Derived.Test.YtcdgibkbbcekhaaGreatDoorRA21
import Derived.Test.YtcdgibkbbcekhaaGreatDoorRA29
import Derived.Test.YtcdgibkbbcekhaaGreatDoorRA34
set_option linter.unusedVariables false
set_option linter.unusedSimpArgs false
set_option linter.unusedSectionVars false
namespace Go.Proofs.YtcdgibkbbcekhaaGreatDoor
open Go.RowKit Go.Sl Go.Num
theorem length_bare {l m:List Rn} (h:l.map rbare=m.map rbare):l.length=m.length:=by rw [← List.length_map (f:=rbare),h,List.length_map]
theorem tabs_bare {l m:List Rn} (h:l.map rbare=m.map rbare) {n:Nat} (hm:∀ r∈m,r.tab.length≤n):∀ r∈l,r.tab.length≤n:=fun r hr=>by
 have h1:=List.mem_map_of_mem (f:=rbare) hr
 rw [h] at h1
 obtain ⟨x,hx,e⟩:=List.mem_map.1 h1
 have:=hm x hx
 have h2:(rbare x).tab=(rbare r).tab:=congrArg (fun y:Rn=>y.tab) e
 have h3:x.tab=r.tab:=h2
 rw [← h3];exact this
theorem sumE_bare (l:List Rn):sumE (l.map rbare)=((sumE l).1.map rbare,(sumE l).2):=by
 rw [sumE,sumE,runsErr_bare]
 split
 ·rfl
 ·have:=smF_bare l.length [] l
  rw [List.map_nil] at this
  rw [List.length_map,this]
  cases smF l.length [] l with
  | none=>rfl
  | some o=>show (joinL (o.map rbare),(0:Int))=_;rw [joinL_bare]
theorem joinE_bare (a b:List Rn):joinE (a.map rbare) (b.map rbare)=((joinE a b).1.map rbare,(joinE a b).2):=by
 rw [joinE,joinE,runsErr_bare,runsErr_bare,List.length_map,List.length_map,lastD_bare,lastD_bare,headD_bare,headD_bare,← List.map_append,joinL_bare,List.length_map]
 split
 ·rfl
 split
 ·rfl
 split
 ·rename_i h
  rw [if_pos (show a.length≠0∧b.length≠0∧(lastD a).to_≠(headD' b).from_ from h)];rfl
 rename_i h1
 rw [if_neg (show ¬ (a.length≠0∧b.length≠0∧(lastD a).to_≠(headD' b).from_) from h1)]
 split
 ·rename_i h
  rw [if_pos (show a.length≠0∧b.length≠0∧40000 < (lastD b).to_-(headD' a).from_ from h)];rfl
 rename_i h2
 rw [if_neg (show ¬ (a.length≠0∧b.length≠0∧40000 < (lastD b).to_-(headD' a).from_) from h2)]
 split<;>rfl
theorem cutE_bare' (l:List Rn) (t:Int):cutE' (l.map rbare) t=(((cutE' l t).1.1.map rbare,(cutE' l t).1.2.map rbare),(cutE' l t).2):=by
 rw [cutE',cutE',runsErr_bare,List.length_map,headD_bare,lastD_bare]
 split
 ·rfl
 split
 ·rename_i h
  rw [if_pos (show l.length=0∨t < (headD' l).from_∨(lastD l).to_ < t from h)];rfl
 rename_i h
 rw [if_neg (show ¬ (l.length=0∨t < (headD' l).from_∨(lastD l).to_ < t) from h)]
 have:=cutF_bare t l ([],[])
 rw [show (([]:List Rn).map rbare,([]:List Rn).map rbare)=(([],[]):List Rn×List Rn) from rfl] at this
 rw [this]
 cases cutF t ([],[]) l with
 | none=>rfl
 | some o=>rfl
theorem covN_bare (y:Rn) (s:Int):∀ a:List Rn,covN (rbare y) s (a.map rbare)=covN y s a
 | []=>rfl
 | x::a=>by rw [List.map_cons,covN,covN,covN_bare y s a];rfl
theorem covB_bare (a:List Rn) (y:Rn):covB (a.map rbare) (rbare y)=covB a y:=by
 rw [covB,covB,List.all_map]
 simp only [covN_bare]
 rfl
theorem finE_bare (a b:List Rn):finE (a.map rbare) (b.map rbare)=finE a b:=by
 rw [finE,finE,runsErr_bare,runsErr_bare,List.length_map,List.length_map,lastD_bare,lastD_bare,headD_bare,headD_bare,List.all_map]
 simp only [Function.comp_def,covB_bare]
 rfl
theorem cntL_bare:∀ l:List Rn,cntL (l.map rbare)=cntL l
 | []=>rfl
 | r::l=>by rw [List.map_cons,cntL,cntL,cntL_bare l];rfl
theorem cntE_bare (l:List Rn):cntE (l.map rbare)=cntE l:=by
 rw [cntE,cntE,runsErr_bare,List.length_map,headD_bare,lastD_bare,cntL_bare];rfl
theorem agrL_bare (f:Int) (hs:List Int):∀ l:List Rn,agrL f hs (l.map rbare)=agrL f hs l
 | []=>rfl
 | r::l=>by rw [List.map_cons,agrL,agrL,agrL_bare f hs l];rfl
theorem agreeB_bare (l:List Rn) (f:Int) (hs:List Int):agreeB (l.map rbare) f hs=agreeB l f hs:=by
 rw [agreeB,agreeB,runsErr_bare,List.length_map,List.getElem?_map,List.getElem?_map]
 split
 ·rfl
 cases h1:l[0]? with
 | none=>rfl
 | some a =>
  cases h2:l[l.length-1]? with
  | none=>rfl
  | some b =>
   show (if f≠a.from_∨(hs.length:Int)≠b.to_-f then false else agrL f hs (l.map rbare))=_
   rw [agrL_bare]
def exA:List Rn:=[mkR 10 12 5,⟨12,15,[(5,1),(7,2)],none,0,0,0⟩,mkR 15 16 9,⟨16,18,[],none,0,0,1⟩]
def exZ:List Rn:=[mkR 10 11 5,⟨11,15,[(5,2),(7,2)],none,0,0,0⟩,mkR 15 16 9,⟨16,18,[],none,0,0,1⟩]
def exR:List Rn:=[mkR 10 12 5,mkR 12 13 7]
theorem ex_chk:runsErr exA=0:=by decide +kernel
theorem ex_agr:agreeB exA 10 [5,5,7,5,7,9,1,0]=true:=by decide +kernel
theorem ex_agn:agreeB exA 10 [5,5,7,7,7,9,1,0]=false:=by decide +kernel
theorem ex_cnt:cntE exA=(nB 12,0):=by decide +kernel
theorem ex_12:decT (vB (nB 12))=[49,50]:=by decide +kernel
theorem ex_fst:firstS exA=[5,5,5,7,7,9,0,0]∧firstF exA=10:=by decide +kernel
theorem ex_cut1:cutE' exA 11=(([mkR 10 11 5],[mkR 11 12 5,⟨12,15,[(5,1),(7,2)],none,0,0,0⟩,mkR 15 16 9,⟨16,18,[],none,0,0,1⟩]),0):=by decide +kernel
theorem ex_cut2:cutE' exA 13=(([],[]),29):=by decide +kernel
theorem ex_cut3:cutE' exA 17=(([mkR 10 12 5,⟨12,15,[(5,1),(7,2)],none,0,0,0⟩,mkR 15 16 9,⟨16,17,[],none,0,0,1⟩],[⟨17,18,[],none,0,0,1⟩]),0):=by decide +kernel
theorem ex_sum:sumE exA=(exZ,0):=by decide +kernel
theorem ex_of:ofE 10 [5,5,7]=(exR,0):=by decide +kernel
theorem ex_sum2:sumE exR=(exR,0):=by decide +kernel
theorem ex_fin1:finE exA exZ=(true,0):=by decide +kernel
theorem ex_fin2:finE exZ exA=(false,0):=by decide +kernel
theorem ex_join:joinE [mkR 10 11 5] [mkR 11 12 5,⟨12,15,[(5,1),(7,2)],none,0,0,0⟩,mkR 15 16 9,⟨16,18,[],none,0,0,1⟩]=(exA,0):=by decide +kernel
end Go.Proofs.YtcdgibkbbcekhaaGreatDoor
/-
 A rule for calls that make two lists of runs;contract: the law's example.
-/
namespace Go.Proofs.YtcdgibkbbcekhaaGreatDoor
open Go.RowKit Go.Sl Go.Num
section
variable {C:Ctx}{st:List (Nat×Value)}{M:List Row}{k:List Item}{q q':Md}{all rest:List Oper}{d:Nat}{ty:TypeId}{pos:String}{after:Array Edge}{gd:Option (Nat×Bool)}
theorem Sat.addR {w0 w':World}{n:Nat}{L0 L:List Rn}{a:Option Addr} (hw:Sat w0 M w') (h1:RunsAt w' a L) (h2:∀ p,a=some p→n≤p.block) (h3:srcR n L0 L) (h0:L0=[]∨tfam w0.heap.size L0∈M) (hf:∀ b,n≤b→w0.heap.size≤b→∀ r∈M,¬ r.lock b):Sat w0 (slRow w0.heap.size a 5 (L.map rnV)::tfam w0.heap.size L::M) w':=by
 have hw2:Sat w0 (tfam w0.heap.size L::M) w':=Sat.tfamNew hw h1.2 h3 h0 hf
 refine hw2.addFact (Nat.le_refl _) h1.1 fun b hb=>?_
 obtain ⟨h5,p,h6,h7,h8⟩:=hb
 have hlt:=SlAt.lt h1.1 h5 p h6
 have:=h2 p h6
 subst h7
 refine ⟨h8,hlt,fun r hr=>?_⟩
 rcases List.mem_cons.1 hr with rfl|hr
 ·exact fun h=>h
 ·exact hf _ this h8 r hr
theorem G.cU2 {g:FuncId}{args:List Operand}{vs:List Value}{at_:Array TypeId} (v:Option Addr→Nat→Nat→Option Addr→Nat→Nat→Value) (P:List Rn→List Rn→Prop) (L0:List Rn) (h0:L0=[]∨tfam C.w0.heap.size L0∈M) (ha:evL st args=some vs) (hs:sideB all st gd d C.N q.ext=some q') [hF:Fun C.P g]
  (hc:∀ w,Sat C.w0 M w→Calls C.P g vs.toArray w (RetU2 L0 P v w))
  (h:∀ A a' c' B b' d',P A B→((0 < A.length→∃ b off,a'=some ⟨b,off,none⟩)∧A.length≤c')→((0 < B.length→∃ b off,b'=some ⟨b,off,none⟩)∧B.length≤d')→G q' C all ((d,v a' A.length c' b' B.length d')::st) (slRow C.w0.heap.size b' 5 (B.map rnV)::tfam C.w0.heap.size B::slRow C.w0.heap.size a' 5 (A.map rnV)::tfam C.w0.heap.size A::M) rest k) :
  G q C all st M ({ dst:=some d,op:=.call { callee:=.value (.func g),args:=args.toArray,argTypes:=at_ },type:=ty,pos,after,guard:=gd }::rest) k:=by
 obtain ⟨g1,g2,g3⟩:=sideB_ok hs
 refine G.call0 (X:={ x:(List Rn×Option Addr×Nat)×(List Rn×Option Addr×Nat) // P x.1.1 x.2.1∧((0 < x.1.1.length→∃ b off,x.1.2.1=some ⟨b,off,none⟩)∧x.1.1.length≤x.1.2.2)∧((0 < x.2.1.length→∃ b off,x.2.2.1=some ⟨b,off,none⟩)∧x.2.1.length≤x.2.2.2) }) (v:=fun x=>v x.1.1.2.1 x.1.1.1.length x.1.1.2.2 x.1.2.2.1 x.1.2.1.length x.1.2.2.2) (Mn:=fun x=>[slRow C.w0.heap.size x.1.2.2.1 5 (x.1.2.1.map rnV),tfam C.w0.heap.size x.1.2.1,slRow C.w0.heap.size x.1.1.2.1 5 (x.1.1.1.map rnV),tfam C.w0.heap.size x.1.1.1]) g1 g2 g3 ha (fun w hw=>(hc w hw).mono fun e w' he=>?_) fun x=>h x.1.1.1 x.1.1.2.1 x.1.1.2.2 x.1.2.1 x.1.2.2.1 x.1.2.2.2 x.2.1 x.2.2.1 x.2.2.2
 obtain ⟨A,a',ca,B,b',cb,hP,rfl,⟨h1,⟨h2,h2c⟩,h3⟩,⟨h4,⟨h5,h5c⟩,h6⟩,h7⟩:=he
 have hw':=hw.ext h7
 have hf:∀ b,w.heap.size≤b→C.w0.heap.size≤b→∀ r∈M,¬ r.lock b:=fun b hb h7=>hw.free (.inr (.inl hb)) h7
 have hw2:=Sat.addR hw' h1 h2 h3 h0 hf
 have hw3:=Sat.addR (L0:=L0) hw2 h4 h5 h6 (h0.imp id fun h=>.tail _ (.tail _ h)) fun b hb h8 r hr=>by
  rcases List.mem_cons.1 hr with rfl|hr
  ·exact fun h=>h
  rcases List.mem_cons.1 hr with rfl|hr
  ·exact fun h=>h
  ·exact hf b hb h8 r hr
 exact ⟨⟨((A,a',ca),(B,b',cb)),hP,⟨fun h0=>(let ⟨b,off,e,_⟩:=h1.1 (by rw [List.length_map];exact h0);⟨b,off,e⟩),h2c⟩,⟨fun h0=>(let ⟨b,off,e,_⟩:=h4.1 (by rw [List.length_map];exact h0);⟨b,off,e⟩),h5c⟩⟩,rfl,hw3⟩
end
theorem blkSlC {w0 w:World}{M:List Row}{A:Type}{f:A→List Value}{sz b tot:Nat}{e:TypeId}{l:List A}{cs:List Value} (hw:Sat w0 M w) (hf:∀ x,(f x).length=sz) (hm:Row.blk b e cs tot∈M) (hcs:cs=flat f l):SlAt w (some ⟨b,0,none⟩) sz (l.map f)∧w0.heap.size≤b:=by
 subst hcs
 exact blkSlA hw hf hm
set_option maxHeartbeats 4000000 in
theorem ex16_holds (w:World):Calls Tryz.prog 76 #[] w (RetU [] (fun L=>L.map rbare=exA) (fun a' n c'=>.slice a' n c') w):=by
 refine enterA [] Tryz.func76 Tryz.ntmps76 ?_
 all_goals (refine go ?_;and_intros<;>(try exact trivial)<;>repeat (first|refine fun (Bk:Nat)=>?_|intro h))
 repeat' ((first|(apply G.sliceL;rfl;rfl;rfl;rfl;rfl;rfl;rfl;rfl;intro Bs))<;>(refine go ?_;and_intros<;>(try exact trivial)<;>repeat (first|refine fun (Bk:Nat)=>?_|intro h)))
 rename_i b1 b2 b3
 refine ret1 Tryz.func76 Tryz.results76 ?_
 intro w' hw'
 have k1:=blkSlA (b:=b1) (f:=hoV) (sz:=2) (l:=[(5,2)]) hw' hoV_len (.tail _ (.tail _ (.tail _ (.head _))))
 have k2:=blkSlA (b:=b2) (f:=hoV) (sz:=2) (l:=[(5,1),(7,2)]) hw' hoV_len (.tail _ (.tail _ (.head _)))
 have k3:=blkSlA (b:=b3) (f:=hoV) (sz:=2) (l:=[(9,1)]) hw' hoV_len (.tail _ (.head _))
 have k4:=blkSlC (f:=rnV) (l:=[⟨10,12,[(5,2)],some ⟨b1,0,none⟩,1,0,0⟩,⟨12,15,[(5,1),(7,2)],some ⟨b2,0,none⟩,2,0,0⟩,⟨15,16,[(9,1)],some ⟨b3,0,none⟩,1,0,0⟩,⟨16,18,[],none,0,0,1⟩]) hw' rnV_len (.head _) (by kernel_rfl)
 refine ⟨[⟨10,12,[(5,2)],some ⟨b1,0,none⟩,1,0,0⟩,⟨12,15,[(5,1),(7,2)],some ⟨b2,0,none⟩,2,0,0⟩,⟨15,16,[(9,1)],some ⟨b3,0,none⟩,1,0,0⟩,⟨16,18,[],none,0,0,1⟩],some ⟨Bs,0,none⟩,4,rfl,rfl,⟨k4.1,fun r hr=>?_⟩,⟨fun p hp=>by cases hp;exact k4.2,Nat.le_refl _⟩,fun r hr=>?_,hw'.below⟩
 ·simp only [List.mem_cons,List.not_mem_nil,or_false] at hr
  rcases hr with rfl|rfl|rfl|rfl
  ·exact k1.1
  ·exact k2.1
  ·exact k3.1
  ·exact SlAt.nil
 ·simp only [List.mem_cons,List.not_mem_nil,or_false] at hr
  rcases hr with rfl|rfl|rfl|rfl
  ·exact .inr (.inl fun p hp=>by cases hp;exact k1.2)
  ·exact .inr (.inl fun p hp=>by cases hp;exact k2.2)
  ·exact .inr (.inl fun p hp=>by cases hp;exact k3.2)
  ·exact .inl rfl
end Go.Proofs.YtcdgibkbbcekhaaGreatDoor
