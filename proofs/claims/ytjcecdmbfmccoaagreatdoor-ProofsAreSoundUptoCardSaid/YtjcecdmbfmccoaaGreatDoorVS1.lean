/-
  The arguments of a law: what their reading tells of their cells.
-/
import Derived.Test.YtjcecdmbfmccoaaGreatDoorVC13
import Derived.ProofKit
import Derived.OpenShut
import Derived.ShutString
import Derived.ChangeOld
import Derived.Below
import Derived.Carry
import Derived.Test.YtjcecdmbfmccoaaGreatDoorProg
import Derived.Test.YtjcecdmbfmccoaaGreatDoorRows
import Derived.JoinedCond
import Derived.LaidMore
import Derived.Lay
set_option linter.unusedVariables false
set_option linter.unusedSimpArgs false
set_option linter.unusedSectionVars false
namespace Go.Sl
open Go.RowKit Go.ChangeShapes Go.WideShapes
variable {P:Program}{T E:TypeId}
section
variable {A1 A2 A3 A4 A5 A6:Type}{f1:A1->List Value}{f2:A2->List Value}{f3:A3->List Value}{f4:A4->List Value}{f5:A5->List Value}{f6:A6->List Value}{G1:World->A1->Prop}{G2:World->A2->Prop}{G3:World->A3->Prop}{G4:World->A4->Prop}{G5:World->A5->Prop}{G6:World->A6->Prop}{d1 d2 d3 d4 d5 d6:Field}{n:Nat}
end
theorem Reads.argAgg {A:Type}{f:A->List Value}{G:World->A->Prop} (h:Reads P T f G) {H:Type}{enc:TypeId×Value->H}{W:World}{v:Value}{d:DataW H}{ps:List MemPlace} (hk:∃ cs,v=.agg cs) (hv:DataW.Trod enc P W 0 (fun _=>true) true T v d ps):∃ a,v=.agg (f a).toArray/\G W a:=by
 obtain ⟨cs,rfl⟩:=hk
 obtain ⟨a,h1,h2⟩:=h.arg hv
 refine ⟨a,?_,h2⟩
 have:cs.toList=f a:=h1
 rw [<- this]
end Go.Sl
/-
 The types and functions of this seat,as the small logic of memory takes them.
-/
namespace Go.Proofs
open Go.Sl
instance:TPlain Tryz.prog 22:=⟨Tryz.isAgg22⟩
instance:TField Tryz.prog 47 0 0:=field_mk (n:=1) Tryz.runUnderlying47 rfl Tryz.sizeOf22 (by decide) rfl
instance:TField Tryz.prog 47 1 1:=field_mk (n:=1) Tryz.runUnderlying47 rfl Tryz.sizeOf23 (by decide) rfl
instance:TField Tryz.prog 47 2 2:=field_mk (n:=1) Tryz.runUnderlying47 rfl Tryz.sizeOf31 (by decide) rfl
instance:Fun Tryz.prog 19:=⟨Tryz.call19⟩
instance:Fun Tryz.prog 30:=⟨Tryz.call30⟩
end Go.Proofs
/-
 Copies of which the source may be too long,a part of a block as a source,and masks.
-/
namespace Go.Sl
open Go.RowKit
variable {C:Ctx}{st:List (Nat×Value)}{M:List Row}{k:List Item}{q q':Md}{all rest:List Oper}{d:Nat}{opn:Op}{ty:TypeId}{pos:String}{after:Array Edge}{gd:Option (Nat×Bool)}
theorem G.slE {T E bytes size:Nat}{z:Value} (hs:sideB all st gd d C.N q.ext=some q') [hT:TElem C.P T E z size bytes]
  (h:∀ B,G q' C all ((d,.slice (some ⟨B,0,none⟩) 0 0)::st) (.own 0 (.slice (some ⟨B,0,none⟩) 0 0) E size 0 []::M) rest k) :
  G q C all st M ({ dst:=some d,op:=.buildSlice T 0 #[],type:=ty,pos,after,guard:=gd }::rest) k:=by
 obtain ⟨g1,g2,g3⟩:=sideB_ok hs
 refine G.ext g1 rfl g3 (Eff.val g2 fun a w hf hw=>⟨_,w.alloc (.cells #[] E),_,?_,?_,List.sublist_cons_self _ _,h w.heap.size⟩)
 ·obtain ⟨inf,hi,hzz,hsize,hby⟩:=info_parts hT.h2
  have hu:C.P.underlying T=some (.slice E):=hT.h1
  simp [execOp,Instr.buildSlice,run_underlying hu,sizeOf,typeInfo,hi,newRow,Instr.fill]
  have e:Array.range 0=#[]:=Array.ext' (by simp)
  rw [e,Array.map_empty]
 ·have h1:=hw.alloc E []
  refine h1.swap (i:=0) (r:=.blk w.heap.size E [] 0) (r':=.own 0 (.slice (some ⟨w.heap.size,0,none⟩) 0 0) E size 0 []) rfl ?_ rfl fun b hb=>?_
  ·obtain ⟨rest,h7,h8⟩:=h1.hold _ (List.mem_cons_self ..)
   exact ⟨by simp,.inr ⟨w.heap.size,0,_,rfl,Nat.zero_le _,h7,Nat.zero_le _,Nat.zero_le _,by simpa using h8,by simp⟩⟩
  ·cases hb;rfl
end Go.Sl
/-
 Plain law: the examples of the documentation.
-/
namespace Go.Proofs.YtjcecdmbfmccoaaGreatDoor
open Go.RowKit Go.Sl Go.Num
def bare (s:Spn):Spn:={ s with adr:=none,cap:=0 }
theorem sFewQ_holds (a:Q3) (k:Nat) (w:World):Calls Tryz.prog 30 #[qA a,.int .i64 k] w fun e w'=>e=.returned (.bool (decide (fewQ k a)))/\Below w.heap.size w w':=by
 obtain ⟨s,n,d⟩:=a
 dsimp only [qA]
 refine enterA [(0,.agg #[.bool s,.string (bs n),.string (bs d)]),(1,.int .i64 k)] Tryz.func30 Tryz.ntmps30 ?_
 by_cases h:fewQ k ⟨s,n,d⟩
 ·rw [decide_eq_true h]
  obtain ⟨h1,h2⟩:=h
  dsimp only at h1 h2
  all_goals (refine go ?_;and_intros<;>first|exact trivial|repeat first|intro(Bk:Nat)|intro h)
  all_goals refine ret1b Tryz.func30 Tryz.results30 ?_
  all_goals rfl
 ·rw [decide_eq_false h]
  have h:k < n.length∨(n.length<=k/\k < d.length):=by
   rcases Nat.lt_or_ge k n.length with h1|h1
   ·exact .inl h1
   ·exact .inr ⟨h1,Nat.lt_of_not_le fun h2=>h ⟨h1,h2⟩⟩
  all_goals (refine go ?_;and_intros<;>first|exact trivial|repeat first|intro(Bk:Nat)|intro h)
  all_goals
   all_goals refine ret1b Tryz.func30 Tryz.results30 ?_
   all_goals rfl
instance (p:Prf):Decidable (shortP p):=by unfold shortP;exact inferInstance
instance (ps:List Prf):Decidable (shortL ps):=by unfold shortL;exact inferInstance
set_option maxHeartbeats 8000000 in
theorem short_holds (a:Option Addr) (ps:List Prf) (c:Nat) (w:World) (hP:PrfsAt w a ps) (hz:∀ p∈ps,p.st.length+p.cl.length<=1000000000000) :
  Calls Tryz.prog 19 #[.slice a ps.length c] w fun e w'=>e=.returned (.bool (decide (shortL ps)))/\Below w.heap.size w w':=by
 refine enterA [(0,.slice a ps.length c)] Tryz.func19 Tryz.ntmps19 ?_
 by_cases hm:ps.length<=30
 case neg =>
  rw [decide_eq_false (fun h=>hm h.1)]
  have hm:=Nat.lt_of_not_le hm
  all_goals (refine go ?_;and_intros<;>first|exact trivial|repeat first|intro(Bk:Nat)|intro h)
  all_goals refine ret1b Tryz.func19 Tryz.results19 ?_
  all_goals rfl
 all_goals (refine go ?_;and_intros<;>first|exact trivial|repeat first|intro(Bk:Nat)|intro h)
 refine J.loop (c:=_) (0:Nat) (fun s=>ps.length-s) (fun s=>[(0,.slice a ps.length c),(3,.int .i64 s)]) (fun s=>[]) (fun s=>s<=ps.length/\∀ i (h:i < ps.length),i < s->shortP ps[i]) ?_ sbT sbL ?_
 ·exact ⟨Nat.zero_le _,fun i h h2=>absurd h2 (Nat.not_lt_zero _)⟩
 intro k ⟨h1,h2⟩ ih
 by_cases hk:k < ps.length
 ·obtain ⟨ba,oa,rfl,hra⟩:=SlAt.all hP.1 (by omega)
  have hr:=hra k hk
  have hmm:=List.getElem_mem hk
  have hs1:=(hP.2 _ hmm).1
  have hs2:=(hP.2 _ hmm).2
  have hz:=hz _ hmm
  have hno:¬ shortP ps[k]->decide (shortL ps)=false:=fun h=>decide_eq_false fun h'=>h (h'.2 _ (List.getElem_mem hk))
  have ih:=fun (h:shortP ps[k])=>ih (k+1) ⟨hk,fun i hi h3=>by
   rcases Nat.lt_or_ge i k with h4|h4
   ·exact h2 i hi h4
   ·obtain rfl:i=k:=by omega
    exact h⟩ (by omega)
  clear hra h2 hP
  generalize ps[k]=p at *
  have hcat:flat qV p.st++flat qV p.cl=flat qV (p.st++p.cl):=by simp [flat]
  have hlen:0+p.st.length+p.cl.length=(p.st++p.cl).length:=by rw [List.length_append,Nat.zero_add]
  by_cases hL:(p.st++p.cl).length<=30
  ·generalize hLe:p.st++p.cl=L at *
   repeat' first|(refine gp ?_;and_intros<;>first|exact trivial|repeat first|intro(Bk:Nat)|intro h)|(apply J.regS [] (.q 1 <| .q 2 <| .q 3 <| .q 4 <| .q 5 <| .q 7 <| .q 8 <| .q 9 <| .q 10 <| .q 11 <| .e 0 <| .e 6 <| .r 12 <| .q 13 <| .nil);exact Tryz.mixed;decide +kernel;exact List.nil_sublist _)|(apply G.slE;rfl;intro Be)|(apply G.apSF;rfl;rfl;rfl;(repeat (first|exact RAt.head|apply RAt.tail));exact SrcV.old (f:=qV) (l:=p.st) (fun _=>rfl) (fun _=>rfl) hs1;rfl;omega;omega;intro v';exact List.nil_sublist _;intro v';exact mm;intro a2 c2)|(apply G.ap;rfl;rfl;rfl;(repeat (first|exact RAt.head|apply RAt.tail));exact SrcV.old (f:=qV) (l:=p.cl) (fun _=>rfl) (fun _=>rfl) hs2;exact hcat;omega;omega;rw [hlen];intro v2;refine G.ownFormA (base:=0) (v:=v2) (by exact mm) ?_;intro a4 c4 e4;subst e4)
   by_cases h0:0 < L.length
   ·refine J.ownOpen RAt.head h0 fun g cap _ _ e=>?_
    obtain ⟨rfl,-,rfl⟩:a4=some ⟨g,0,none⟩/\True/\c4=cap:=by cases e;exact ⟨rfl,trivial,rfl⟩
    refine J.loop (c:=_) (0:Nat) (fun s=>L.length-s) (fun s=>[(0,.slice (some ⟨ba,oa,none⟩) ps.length c),(3,.int .i64 k),(4,.slice (some ⟨g,0,none⟩) L.length c4),(5,.int .i64 s)]) (fun s=>[.blk g 25 (flat qV L) (c4*3)]) (fun s=>s<=L.length/\∀ i (h:i < L.length),i < s->fewQ 40 L[i]) ?_ sbT sbL ?_
    ·exact ⟨Nat.zero_le _,fun i h h2=>absurd h2 (Nat.not_lt_zero _)⟩
    intro j ⟨j1,j2⟩ ihj
    by_cases hj:j < L.length
    ·have hf:=fun w'=>sFewQ_holds L[j] 40 w'
     have hget:L[j]?=some L[j]:=List.getElem?_eq_getElem hj
     have hq2:¬ fewQ 40 L[j]->¬ shortP p:=fun h h'=>h (h'.2 _ (by rw [hLe];exact List.getElem_mem hj))
     have ihj:=fun (h:fewQ 40 L[j])=>ihj (j+1) ⟨hj,fun i hi h3=>by
      rcases Nat.lt_or_ge i j with h4|h4
      ·exact j2 i hi h4
      ·obtain rfl:i=j:=by omega
       exact h⟩ (by omega)
     clear j2 ih
     generalize L[j]=Q at *
     by_cases hq:fewQ 40 Q
     ·rw [decide_eq_true hq] at hf
      have ihN:=ihj hq
      clear ihj
      obtain ⟨u,n,d⟩:=Q
      dsimp only [qA] at *
      repeat' first|(refine gp ?_;and_intros<;>first|exact trivial|repeat first|intro(Bk:Nat)|intro h)|(apply G.ld;rfl;exact LdV.flat (f:=qV) (fun _=>rfl) (by exact mm) hget rfl;rfl)|(apply G.cV (g:=30);rfl;rfl;exact fun w' _=>hf w')
      exact J.finS ihN
     ·rw [decide_eq_false hq] at hf
      rw [hno (hq2 hq)]
      obtain ⟨u,n,d⟩:=Q
      dsimp only [qA] at *
      repeat' first|(refine gp ?_;and_intros<;>first|exact trivial|repeat first|intro(Bk:Nat)|intro h)|(apply G.ld;rfl;exact LdV.flat (f:=qV) (fun _=>rfl) (by exact mm) hget rfl;rfl)|(apply G.cV (g:=30);rfl;rfl;exact fun w' _=>hf w')
      all_goals refine ret1b Tryz.func19 Tryz.results19 ?_
      all_goals rfl
    ·obtain rfl:j=L.length:=by omega
     have ih:=ih ⟨by rw [hLe];exact hL,fun q hq=>by
      rw [hLe] at hq
      obtain ⟨i,hi,rfl⟩:=List.mem_iff_getElem.1 hq
      exact j2 i hi hi⟩
     clear ihj j2
     all_goals (refine go ?_;and_intros<;>first|exact trivial|repeat first|intro(Bk:Nat)|intro h)
     exact J.finS ih
   ·have ih:=ih ⟨by rw [hLe];exact hL,fun q hq=>by
     rw [hLe] at hq
     exact absurd (List.length_pos_of_mem hq) h0⟩
    refine J.loop (c:=_) (0:Nat) (fun s=>L.length-s) (fun s=>[(0,.slice (some ⟨ba,oa,none⟩) ps.length c),(3,.int .i64 k),(4,.slice a4 L.length c4),(5,.int .i64 s)]) (fun s=>[]) (fun s=>s=0) ?_ sbT sbL ?_
    ·rfl
    rintro _ rfl _
    all_goals (refine go ?_;and_intros<;>first|exact trivial|repeat first|intro(Bk:Nat)|intro h)
    exact J.finS ih
  ·rw [hno fun h=>hL h.1]
   have hL:=Nat.lt_of_not_le hL
   repeat' first|(refine gp ?_;and_intros<;>first|exact trivial|repeat first|intro(Bk:Nat)|intro h)|(apply J.regS [] (.q 1 <| .q 2 <| .q 3 <| .q 4 <| .q 5 <| .q 7 <| .q 8 <| .q 9 <| .q 10 <| .q 11 <| .e 0 <| .e 6 <| .r 12 <| .q 13 <| .nil);exact Tryz.mixed;decide +kernel;exact List.nil_sublist _)|(apply G.slE;rfl;intro Be)|(apply G.apSF;rfl;rfl;rfl;(repeat (first|exact RAt.head|apply RAt.tail));exact SrcV.old (f:=qV) (l:=p.st) (fun _=>rfl) (fun _=>rfl) hs1;rfl;omega;omega;intro v';exact List.nil_sublist _;intro v';exact mm;intro a2 c2)|(apply G.ap;rfl;rfl;rfl;(repeat (first|exact RAt.head|apply RAt.tail));exact SrcV.old (f:=qV) (l:=p.cl) (fun _=>rfl) (fun _=>rfl) hs2;exact hcat;omega;omega;rw [hlen];intro v2;refine G.ownFormA (base:=0) (v:=v2) (by exact mm) ?_;intro a4 c4 e4;subst e4)
   all_goals refine ret1b Tryz.func19 Tryz.results19 ?_
   all_goals rfl
 ·obtain rfl:k=ps.length:=by omega
  have hall:shortL ps:=⟨hm,fun p hp=>by
   obtain ⟨i,hi,rfl⟩:=List.mem_iff_getElem.1 hp
   exact h2 i hi hi⟩
  rw [decide_eq_true hall]
  clear ih h2
  all_goals (refine go ?_;and_intros<;>first|exact trivial|repeat first|intro(Bk:Nat)|intro h)
  all_goals refine ret1b Tryz.func19 Tryz.results19 ?_
  all_goals rfl
end Go.Proofs.YtjcecdmbfmccoaaGreatDoor
/-
 Laws whose reading is of bounded bulk: how such a law is lifted,and how its arguments read with their bulk.
-/
namespace Go.Proofs.YtjcecdmbfmccoaaGreatDoor
open Go Go.RowKit Go.Sl Go.Num Go.ChangeShapes Go.WideShapes
section
variable {H:Type}{enc:TypeId×Value->H}
theorem returnsBulk {a:Assume}{C:Checked}{os:Os}{f:FuncId}{fn:Func}{s:OpenSpec}{k:(H:Type)->List (DataW H)->Bool} (hk:s.cond=some k) {F:Stop.Interp}{conds:List PathCond}{apart fresh handsOn again:Bool}{X:World->Array Value->Prop}
  (hX:∀ (w w':World) (args:Array Value),w.heap=w'.heap->X w args->X w' args)
  (hown:ownKnob C.prog.godebug=none) (started:os.Started) (noInit:C.prog.inits.idxOf? f=none) (hfn:C.prog.funcs[f]?=some fn)
  (wit:∃ (w:World) (tape:Tape) (i:Input),w.os=os/\(w.forCall tape i).Shaped C.prog/\i.vars=[]/\Input.okWide C.prog (w.forCall tape i) .any w.heap.size f i /\
   ((s.pre enc C.prog fn conds apart (w.forCall tape i).memory i.args/\X (w.forCall tape i).memory i.args)/\sizedMet enc C.prog fn s apart (w.forCall tape i).memory i.args)/\a.holds C.prog (lone (Frame.enter C.prog f i.args .normal) [] (w.forCall tape i)))
  (con:∀ (W:World) (base:Nat) (args:Array Value) (ds gs:List (DataW H)) (before:List MemPlace),
   (∀ (j:Nat) t v,fn.params[j]?=some t->args[j]?=some v->Value.okWide C.prog W .any base t v) ->
   DataW.Whole enc C.prog fn.params.toList s.vars apart W args.toList ds gs before->k H (ds++gs)=true->X W args ->
   Calls C.prog f args W fun e W'=>∃ v,e=.returned v/\(s.at F).post enc C.prog fn apart fresh handsOn again W args v W') :
  ReturnsInHanded a C os f .any (fun w args=>(s.pre enc C.prog fn conds apart w args/\X w args)/\sizedMet enc C.prog fn s apart w args) ((s.at F).post enc C.prog fn apart fresh handsOn again):=by
 refine returnsInHanded_of_calls hown started noInit wit fun w tape i _ _ _ hok hpre _=>?_
 obtain ⟨_,_,_,g,hg,_,_,_,_,hval⟩:=hok
 obtain rfl:g=fn:=Option.some.inj (hg.symm.trans hfn)
 obtain ⟨⟨hp,hx⟩,_⟩:=hpre
 obtain ⟨ds,gs,before,hw,_,hkk⟩:=(OpenSpec.pre_some hk conds apart _ _).1 hp
 refine (con (w.forCall tape i) w.heap.size i.args ds gs before hval (DataW.Whole.of_heap (w':=w.forCall tape i) (by rfl) hw) hkk (hX _ _ _ (by rfl) hx)).mono fun e W' hh=>?_
 obtain ⟨v,rfl,hq⟩:=hh
 exact ChangeSpec.post_blind hq
theorem bulkWitness {C:Checked}{os:Os}{f:FuncId}{fn:Func}{s:OpenSpec}{k:(H:Type)->List (DataW H)->Bool} (hk:s.cond=some k) {conds:List PathCond}{apart:Bool}{X:World->Array Value->Prop} (modest:Bool) (w0:World) (args:Array Value) (fuel:Nat) (hos:w0.os=os)
  (hsh:(w0.forCall (fun _ _=>0) ⟨#[],args,[]⟩).Shaped C.prog)
  (hok:Input.okWideB C.prog (w0.forCall (fun _ _=>0) ⟨#[],args,[]⟩) f ⟨#[],args,[]⟩=true)
  (hpre:(match DataW.whole enc C.prog (w0.forCall (fun _ _=>0) ⟨#[],args,[]⟩).memory fn.params.toList s.vars apart args.toList fuel with
   | some x=>conds.all (PathCond.test C.prog ⟨fn.params.toList,x.1,s.bare.plain.varTypes C.prog,x.2.1⟩) && k H (x.1++x.2.1)
   | none=>false)=true)
  (hsz:s.bare.sizedB enc C.prog fn apart (w0.forCall (fun _ _=>0) ⟨#[],args,[]⟩).memory args fuel=true)
  (hx:X (w0.forCall (fun _ _=>0) ⟨#[],args,[]⟩).memory args) :
  ∃ (w:World) (tape:Tape) (i:Input),w.os=os/\(w.forCall tape i).Shaped C.prog/\i.vars=[]/\Input.okWide C.prog (w.forCall tape i) .any w.heap.size f i /\
   ((s.pre enc C.prog fn conds apart (w.forCall tape i).memory i.args/\X (w.forCall tape i).memory i.args)/\sizedMet enc C.prog fn s apart (w.forCall tape i).memory i.args)/\({ modest:=modest }:Assume).holds C.prog (lone (Frame.enter C.prog f i.args .normal) [] (w.forCall tape i)):=by
 refine ⟨w0,fun _ _=>0,⟨#[],args,[]⟩,hos,hsh,(Input.okWide_of_okWideB (base:=0) hok).1,(Input.okWide_of_okWideB hok).2,⟨⟨?_,hx⟩,sizedMet_of_sizedB hsz⟩,?_⟩
 ·refine (OpenSpec.pre_some hk conds apart _ _).2 ?_
  split at hpre
  ·rename_i x hxx
   rw [Bool.and_eq_true] at hpre
   exact ⟨x.1,x.2.1,x.2.2,DataW.Whole_of_whole hxx,hpre.1,hpre.2⟩
  ·cases hpre
 ·simp only [Assume.holds]
  exact ⟨by simp,by simp,fun _=>Modest.zero,by simp,by simp⟩
end
theorem bulk_pos {H:Type} (d:DataW H):1<=Rows.uptoBulk d:=by
 cases d with
 | lit l=>cases l<;>simp [Rows.uptoBulk]
 | _=>simp [Rows.uptoBulk]
theorem bulk_mem {H:Type}{d:DataW H}:∀ {l:List (DataW H)},d∈l->Rows.uptoBulk d<=Rows.uptoBulkAll l
 | [],h=>absurd h List.not_mem_nil
 | x::l,h=>by
  rw [Rows.uptoBulkAll]
  rcases List.mem_cons.1 h with rfl|h
  ·omega
  ·have:=bulk_mem h;omega
theorem bulk_len {H:Type}:∀ l:List (DataW H),l.length<=Rows.uptoBulkAll l
 | []=>Nat.zero_le _
 | x::l=>by
  have:=bulk_len l
  have:=bulk_pos x
  rw [Rows.uptoBulkAll,List.length_cons];omega
structure ReadsB (P:Program) (T:TypeId) {A:Type} (f:A->List Value) (G:World->A->Nat->Prop):Prop where
 go:∀ {H:Type} (enc:TypeId×Value->H) (w:World) (fuel:Nat) (cs:List Value) (x:DataW H×List MemPlace),DataW.trod enc P w 0 (fun _=>true) true fuel T cs=some x->∃ a,cs=f a/\G w a (Rows.uptoBulk x.1)
section
variable {P:Program}{T E:TypeId}
theorem ReadsB.of {A:Type}{f:A->List Value}{G:World->A->Prop} (h:Reads P T f G):ReadsB P T f (fun w a _=>G w a):=.mk fun enc w fuel cs x hx=>h.go enc w fuel cs x hx
theorem ReadsB.turn {A B:Type}{f:A->List Value}{G:World->A->Nat->Prop}{f':B->List Value}{G':World->B->Nat->Prop} (h:ReadsB P T f G) (hG:∀ w a n,G w a n->∃ b,f a=f' b/\G' w b n):ReadsB P T f' G':=.mk fun enc w fuel cs x hx =>
 let ⟨a,h1,h2⟩:=h.go enc w fuel cs x hx
 let ⟨b,h3,h4⟩:=hG w a _ h2
 ⟨b,h1.trans h3,h4⟩
theorem ReadsB.struct {fs:Array Field}{n:Nat} (ht:P.underlying T=some (.struct fs)) (hn:P.cellsOf T=n) (hT:Go.Sl.tight P fs n=true) {H:Type}{enc:TypeId×Value->H}{w:World}{fuel:Nat}{cs:List Value}{x:DataW H×List MemPlace}
  (hx:DataW.trod enc P w 0 (fun _=>true) true fuel T cs=some x) :
  cs=(pieces (fs.toList.map fun f=>P.cellsOf f.type) cs).flatten/\(pieces (fs.toList.map fun f=>P.cellsOf f.type) cs).length=fs.size/\∃ xs:List (DataW H×List MemPlace),x.1=.agg (xs.map (·.1))/\xs.length=fs.size /\
  ∀ (i:Nat) (f:Field) (p:List Value) (y:DataW H×List MemPlace),fs[i]?=some f->(pieces (fs.toList.map fun f=>P.cellsOf f.type) cs)[i]?=some p->xs[i]?=some y->∃ m,DataW.trod enc P w 0 (fun _=>true) true m f.type p=some y:=by
 obtain ⟨r1,r2,_⟩:=Reads.struct ht hn hT hx
 simp only [Go.Sl.tight,Bool.and_eq_true,decide_eq_true_eq] at hT
 obtain ⟨xs,m,-,hxe,hl,hlen,hf⟩:=DataW.trod_struct ht hx
 refine ⟨r1,r2,xs,by rw [hxe],hlen,fun i f p y hi hp hy=>?_⟩
 have ho:(fs.toList.map (·.offset))[i]?=some f.offset:=by rw [List.getElem?_map,Array.getElem?_toList,hi];rfl
 have hs:(fs.toList.map fun f=>P.cellsOf f.type)[i]?=some (P.cellsOf f.type):=by rw [List.getElem?_map,Array.getElem?_toList,hi];rfl
 rw [hT.1] at ho
 have:=pieces_get _ cs 0 i _ f.offset (by rw [Nat.zero_add];exact ho) hs
 rw [hp] at this
 cases this
 exact ⟨m,(hf i f hi).trans hy⟩
variable {A1 A2 A3 A4 A5:Type}{f1:A1->List Value}{f2:A2->List Value}{f3:A3->List Value}{f4:A4->List Value}{f5:A5->List Value}{G1:World->A1->Nat->Prop}{G2:World->A2->Nat->Prop}{G3:World->A3->Nat->Prop}{G4:World->A4->Nat->Prop}{G5:World->A5->Nat->Prop}{d1 d2 d3 d4 d5:Field}{n:Nat}
theorem ReadsB.struct2 (ht:P.underlying T=some (.struct #[d1,d2])) (hn:P.cellsOf T=n) (hT:Go.Sl.tight P #[d1,d2] n=true) (h1:ReadsB P d1.type f1 G1) (h2:ReadsB P d2.type f2 G2) :
  ReadsB P T (fun a:A1×A2=>f1 a.1++f2 a.2) (fun w a N=>∃ n1 n2,n1+n2<=N/\G1 w a.1 n1/\G2 w a.2 n2):=.mk fun enc w fuel cs x hx=>by
 obtain ⟨hj,hl,xs,he,hxl,hf⟩:=ReadsB.struct ht hn hT hx
 obtain ⟨p1,p2,hp⟩:=list2 hl
 obtain ⟨y1,y2,hy⟩:=list2 hxl
 subst hy
 rw [hp] at hj hf
 obtain ⟨_,r1⟩:=hf 0 d1 p1 y1 rfl rfl rfl
 obtain ⟨_,r2⟩:=hf 1 d2 p2 y2 rfl rfl rfl
 obtain ⟨a1,rfl,g1⟩:=h1.go enc w _ _ _ r1
 obtain ⟨a2,rfl,g2⟩:=h2.go enc w _ _ _ r2
 refine ⟨(a1,a2),by rw [hj];simp,_,_,?_,g1,g2⟩
 rw [he]
 simp only [List.map_cons,List.map_nil,Rows.uptoBulk,Rows.uptoBulkAll]
 omega
theorem ReadsB.struct3 (ht:P.underlying T=some (.struct #[d1,d2,d3])) (hn:P.cellsOf T=n) (hT:Go.Sl.tight P #[d1,d2,d3] n=true) (h1:ReadsB P d1.type f1 G1) (h2:ReadsB P d2.type f2 G2) (h3:ReadsB P d3.type f3 G3) :
  ReadsB P T (fun a:A1×A2×A3=>f1 a.1++(f2 a.2.1++f3 a.2.2)) (fun w a N=>∃ n1 n2 n3,n1+n2+n3<=N/\G1 w a.1 n1/\G2 w a.2.1 n2/\G3 w a.2.2 n3):=.mk fun enc w fuel cs x hx=>by
 obtain ⟨hj,hl,xs,he,hxl,hf⟩:=ReadsB.struct ht hn hT hx
 obtain ⟨p1,p2,p3,hp⟩:=list3 hl
 obtain ⟨y1,y2,y3,hy⟩:=list3 hxl
 subst hy
 rw [hp] at hj hf
 obtain ⟨_,r1⟩:=hf 0 d1 p1 y1 rfl rfl rfl
 obtain ⟨_,r2⟩:=hf 1 d2 p2 y2 rfl rfl rfl
 obtain ⟨_,r3⟩:=hf 2 d3 p3 y3 rfl rfl rfl
 obtain ⟨a1,rfl,g1⟩:=h1.go enc w _ _ _ r1
 obtain ⟨a2,rfl,g2⟩:=h2.go enc w _ _ _ r2
 obtain ⟨a3,rfl,g3⟩:=h3.go enc w _ _ _ r3
 refine ⟨(a1,a2,a3),by rw [hj];simp,_,_,_,?_,g1,g2,g3⟩
 rw [he]
 simp only [List.map_cons,List.map_nil,Rows.uptoBulk,Rows.uptoBulkAll]
 omega
theorem ReadsB.slice {A:Type}{f:A->List Value}{G:World->A->Nat->Prop}{sz:Nat} (ht:P.underlying T=some (.slice E)) (hE:P.cellsOf E=sz) (h0:0 < sz) (h:ReadsB P E f G) :
  ReadsB P T (fun s:Sld A=>[s.v]) (fun w s N=>SlAt w s.ad sz (s.l.map f)/\s.l.length<=s.cap/\s.l.length<=N/\∀ a∈s.l,∃ n,n<=N/\G w a n):=.mk fun enc w fuel cs x hx=>by
 rcases DataW.trod_slice ht hx with ⟨rfl,_⟩|⟨a,len,cap,elems,rest,n,_,rfl,hxe,hb,hl,hm,hlen,hel,_⟩
 ·exact ⟨⟨none,[],0⟩,rfl,SlAt.nil,Nat.le_refl _,Nat.zero_le _,fun a ha=>by cases ha⟩
 have hN:Rows.uptoBulkAll (elems.map (·.1))<=Rows.uptoBulk x.1:=by
  rw [hxe]
  simp only [Rows.uptoBulk]
  omega
 rw [hE] at hel
 have hget:∀ i∈List.range len,∃ a':A,w.cells? 0 (a.add (i*sz)) sz=some (f a')/\∃ n,n<=Rows.uptoBulk x.1/\G w a' n:=fun i hi=>by
  have hi:=List.mem_range.1 hi
  have h1:=hel i hi
  rw [List.getElem?_eq_getElem (by omega)] at h1
  obtain ⟨cs',h2,h3⟩:=Option.bind_eq_some_iff.1 h1
  obtain ⟨a',rfl,g⟩:=h.go enc w _ _ _ h3
  exact ⟨a',h2,_,Nat.le_trans (bulk_mem (List.mem_map_of_mem (List.getElem_mem _))) hN,g⟩
 obtain ⟨aas,h1,h2⟩:=choose_list (fun i a'=>w.cells? 0 (a.add (i*sz)) sz=some (f a')/\∃ n,n<=Rows.uptoBulk x.1/\G w a' n) (List.range len) hget
 rw [List.length_range] at h1
 have hq:∀ i (hi:i < aas.length),w.cells? 0 (a.add (i*sz)) sz=some (f aas[i])/\∃ n,n<=Rows.uptoBulk x.1/\G w aas[i] n:=fun i hi=>h2 i i _ (by rw [List.getElem?_range (by omega)]) (List.getElem?_eq_getElem hi)
 have hlN:aas.length<=Rows.uptoBulk x.1:=by
  have:=bulk_len (elems.map (·.1))
  rw [List.length_map] at this
  omega
 refine ⟨⟨some a,aas,cap⟩,by show [Value.slice (some a) len cap]=[Value.slice (some a) aas.length cap];rw [h1],fun h3=>?_,by dsimp only;omega,hlN,fun a' ha=>?_⟩
 ·dsimp only at h3 ⊢
  simp only [List.length_map] at h3
  obtain ⟨b,off,spot⟩:=a
  have e0:=(hq 0 h3).1
  rw [Nat.zero_mul] at e0
  have hs:=(cells_row (spot:=spot) (by simpa [Addr.add] using e0) h0).1
  subst hs
  refine ⟨b,off,rfl,fun i cs hi=>?_⟩
  have hil:i < aas.length:=by simpa using (List.getElem?_eq_some_iff.1 hi).1
  have e:=(hq i hil).1
  rw [addr_add,addO_eq] at e
  rw [List.getElem?_map,List.getElem?_eq_getElem hil] at hi
  have hi:=Option.some.inj hi
  subst hi
  exact (cells_row e h0).2
 ·obtain ⟨i,hi,rfl⟩:=List.mem_iff_getElem.1 ha
  exact (hq i hi).2
theorem ReadsB.argAgg {A:Type}{f:A->List Value}{G:World->A->Nat->Prop} (h:ReadsB P T f G) {H:Type}{enc:TypeId×Value->H}{W:World}{v:Value}{d:DataW H}{ps:List MemPlace} (hk:∃ cs,v=.agg cs) (hv:DataW.Trod enc P W 0 (fun _=>true) true T v d ps):∃ a,v=.agg (f a).toArray/\G W a (Rows.uptoBulk d):=by
 obtain ⟨cs,rfl⟩:=hk
 obtain ⟨fuel,hf⟩:=hv
 obtain ⟨a,h1,h2⟩:=h.go enc W _ _ _ hf
 refine ⟨a,?_,h2⟩
 have:cs.toList=f a:=h1
 rw [<- this]
end
theorem qRat:Reads Tryz.prog 25 qV (fun _ _=>True):=rRat
theorem bRats:ReadsB Tryz.prog 61 (fun s:Sld Q3=>[s.v]) (fun w s N=>SlAt w s.ad 3 (s.l.map qV)/\s.l.length<=N):=(ReadsB.slice (sz:=3) Tryz.underlying61 (by kernel_rfl) (by decide) (ReadsB.of qRat)).turn fun _ s _ h=>⟨s,rfl,h.1,h.2.2.1⟩
theorem bPrf:ReadsB Tryz.prog 63 prV (fun w p N=>PrfAt w p/\p.st.length+p.cl.length<=N):=(ReadsB.struct2 (n:=2) Tryz.underlying63 (by kernel_rfl) (by kernel_rfl) bRats bRats).turn fun _ a _ ⟨n1,n2,h1,h2,h3⟩=>⟨⟨a.1.l,a.2.l,a.1.ad,a.1.cap,a.2.ad,a.2.cap⟩,rfl,⟨h2.1,h3.1⟩,Nat.le_trans (Nat.add_le_add h2.2 h3.2) h1⟩
theorem bPrfs:ReadsB Tryz.prog 31 (fun s:Sld Prf=>[s.v]) (fun w s N=>PrfsAt w s.ad s.l/\s.l.length<=s.cap/\∀ p∈s.l,p.st.length+p.cl.length<=N):=(ReadsB.slice (sz:=2) Tryz.underlying31 (by kernel_rfl) (by decide) bPrf).turn fun _ s _ h=>⟨s,rfl,⟨h.1,fun p hp=>(let ⟨_,_,h2,_⟩:=h.2.2.2 p hp;h2)⟩,h.2.1,fun p hp=>(let ⟨_,h1,_,h3⟩:=h.2.2.2 p hp;Nat.le_trans h3 h1)⟩
structure ShIn (w:World) (s:Shp) (m:ShM):Prop where
 l:SlAt w m.la 1 (s.ls.map isV)
 lc:s.ls.length<=m.lc
 h:SlAt w m.ha 1 (s.hs.map isV)
 hc:s.hs.length<=m.hc
 p:PrfsAt w m.pa s.lp
 q:PrfsAt w m.qa s.hp
theorem ShIn.below {w w':World}{s:Shp}{m:ShM} (h:ShIn w s m) (hb:Below w.heap.size w w'):ShIn w' s m:=⟨h.l.below hb,h.lc,h.h.below hb,h.hc,h.p.below hb,h.q.below hb⟩
theorem bCase:ReadsB Tryz.prog 47 (fun a:Sld Rn×Sld Spn×Sld Prf=>[.slice a.1.ad a.1.l.length a.1.cap,.slice a.2.1.ad a.2.1.l.length a.2.1.cap,.slice a.2.2.ad a.2.2.l.length a.2.2.cap]) (fun w a N=>RunsAt w a.1.ad a.1.l/\a.1.l.length<=a.1.cap/\SpansAt w a.2.1.ad a.2.1.l/\PrfsAt w a.2.2.ad a.2.2.l/\a.2.2.l.length<=a.2.2.cap/\∀ p∈a.2.2.l,p.st.length+p.cl.length<=N) :=
 (ReadsB.struct3 (n:=3) Tryz.underlying47 (by kernel_rfl) (by kernel_rfl) (ReadsB.of ((Reads.slice (sz:=5) Tryz.underlying22 (by kernel_rfl) (by decide) rRun).mono (G':=fun w s=>RunsAt w s.ad s.l/\s.l.length<=s.cap) fun _ _ h=>⟨⟨h.1,h.2.2.2⟩,h.2.1⟩)) (ReadsB.of rSpans) bPrfs).turn fun _ a _ ⟨n1,n2,n3,h0,h1,h2,h3⟩=>⟨a,rfl,h1.1,h1.2,h2,h3.1,h3.2.1,fun p hp=>Nat.le_trans (h3.2.2 p hp) (by omega)⟩
end Go.Proofs.YtjcecdmbfmccoaaGreatDoor
/-
 The law ProofsAreExact.
-/
namespace Go.Proofs.YtjcecdmbfmccoaaGreatDoor
open Go.RowKit Go.Sl Go.Num
section
variable {rs:List Rn}{l:List Spn}{s:Shp}{m:ShM}{w:World}
theorem few_false {n:Nat} (h:¬ (fewR 12 n rs/\fewL 8 l)):(decide (fewR 12 n rs) && decide (fewL 8 l))=false:=by
 rw [<- Bool.decide_and];exact decide_eq_false h
end
attribute [local irreducible] endQ
end Go.Proofs.YtjcecdmbfmccoaaGreatDoor
/-
 The law ProofsAreSound.
-/
namespace Go.Proofs.YtjcecdmbfmccoaaGreatDoor
open Go.RowKit Go.Sl Go.Num
section
variable {rs:List Rn}{l:List Spn}{ps:List Prf}{f:Int}{S:List Int}
theorem vsum_few {n:Nat} (h0:chkE rs l=0) (h1:fewR 12 n rs) (hn:n<=1000) (h2:fewL 8 l) (ha:AgS rs S):fewQ 60000000 (rQ (volSum l (f0R rs) S))/\S.length<=1000:=by
 have hl:=few_ticks h1 h0 ha
 obtain ⟨_,_,hR,_,hok⟩:=chk_facts h0
 refine ⟨?_,by omega⟩
 exact fewQ_le (few22_vol (few_mod h1 h2).few hR S _ fun y hy=>ha.bd' hok y hy) (by omega)
theorem sound_cmp (h0:chkE rs l=0) (ha:AgS rs S):((valE false rs l ps).2=0->sgnR (qR (valE false rs l ps).1-qR (rQ (volSum l (f0R rs) S)))<=0)/\((valE true rs l ps).2=0->sgnR (qR (rQ (volSum l (f0R rs) S))-qR (valE true rs l ps).1)<=0):=by
 refine ⟨fun h=>?_,fun h=>?_⟩
 ·have h1:=sound h ha
  rw [(val_ok h).2.2.2.2,qR_rQ,qR_rQ,sgn_np2]
  simp only [sgR,if_pos,Bool.false_eq_true,if_false] at h1
  grind
 ·have h1:=sound h ha
  rw [(val_ok h).2.2.2.2,qR_rQ,qR_rQ,sgn_np2]
  simp only [sgR,if_pos,Bool.false_eq_true,if_false] at h1
  grind
end
theorem bHist:ReadsB Tryz.prog 30 (fun a:Int×Sld Int=>[.int .i64 a.1,.slice a.2.ad a.2.l.length a.2.cap]) (fun w a N=>SlAt w a.2.ad 1 (a.2.l.map isV)/\a.2.l.length<=a.2.cap/\a.2.l.length<=N) :=
 (ReadsB.struct2 (n:=2) Tryz.underlying30 (by kernel_rfl) (by kernel_rfl) (ReadsB.of rInt) (ReadsB.slice (sz:=1) Tryz.underlying28 (by kernel_rfl) (by decide) (ReadsB.of rInt))).turn fun _ a _ ⟨n1,n2,h0,h1,h2⟩=>⟨a,rfl,h2.1,h2.2.1,Nat.le_trans h2.2.2.1 (by omega)⟩
set_option maxHeartbeats 8000000 in
theorem law22o_holds (w:World) (a:Option Addr) (rs:List Rn) (c:Nat) (b:Option Addr) (l:List Spn) (d:Nat) (pa:Option Addr) (ps:List Prf) (pc:Nat) (f:Int) (ha:Option Addr) (hs:List Int) (hc:Nat) (hA:RunsAt w a rs) (hB:SpansAt w b l) (hP:PrfsAt w pa ps) (hH:SlAt w ha 1 (hs.map isV)) (hcap:hs.length<=hc) (hlen:hs.length<=1000000000) (hz:∀ p∈ps,p.st.length+p.cl.length<=1000000000000) :
  Calls Tryz.prog 4 #[.agg #[.slice a rs.length c,.slice b l.length d,.slice pa ps.length pc],.agg #[.int .i64 f,.slice ha hs.length hc]] w fun e w'=>e=.returned (.bool true)/\Below w.heap.size w w':=by
 have hfw:=fun w' (hb:Below w.heap.size w w')=>few22_holds a rs c b l d 100 w' (hA.below hb) (hB.below hb)
 have hsh:=fun w' (hb:Below w.heap.size w w')=>short_holds pa ps pc w' (hP.below hb) hz
 by_cases hfe:fewR 12 100 rs/\fewL 8 l
 case neg =>
  rw [few_false hfe] at hfw
  generalize decide (shortL ps)=B at *
  clear hfe hA hB hP hH hz
  cases B
  all_goals
   refine enterA [(0,.agg #[.slice a rs.length c,.slice b l.length d,.slice pa ps.length pc]),(1,.agg #[.int .i64 f,.slice ha hs.length hc])] Tryz.func4 Tryz.ntmps4 ?_
   repeat' first|(refine gp ?_;and_intros<;>first|exact trivial|repeat first|intro(Bk:Nat)|intro h)|(apply G.cV (g:=9);rfl;rfl;exact fun w' hw'=>hfw w' hw'.below)|(apply G.cV (g:=19);rfl;rfl;exact fun w' hw'=>hsh w' hw'.below)|(apply G.cV (g:=10);rfl;rfl;exact fun w' _=>sanity22_holds w')|fail
   all_goals refine ret1b Tryz.func4 Tryz.results4 ?_
   all_goals rfl
 obtain ⟨hf1,hf2⟩:=hfe
 rw [decide_eq_true hf1,decide_eq_true hf2] at hfw
 have hM:=few_mod hf1 hf2
 by_cases hse:shortL ps
 case neg =>
  rw [decide_eq_false hse] at hsh
  clear hse hA hB hP hH hz hM hf1 hf2
  refine enterA [(0,.agg #[.slice a rs.length c,.slice b l.length d,.slice pa ps.length pc]),(1,.agg #[.int .i64 f,.slice ha hs.length hc])] Tryz.func4 Tryz.ntmps4 ?_
  repeat' first|(refine gp ?_;and_intros<;>first|exact trivial|repeat first|intro(Bk:Nat)|intro h)|(apply G.cV (g:=9);rfl;rfl;exact fun w' hw'=>hfw w' hw'.below)|(apply G.cV (g:=19);rfl;rfl;exact fun w' hw'=>hsh w' hw'.below)|(apply G.cV (g:=10);rfl;rfl;exact fun w' _=>sanity22_holds w')|fail
  all_goals refine ret1b Tryz.func4 Tryz.results4 ?_
  all_goals rfl
 rw [decide_eq_true hse] at hsh
 have hag:=fun w' (hb:Below w.heap.size w w')=>agree_holds a ha rs f hs c hc w' (hA.below hb) (hH.below hb) hM.tab hcap hlen
 by_cases hae:agreeB rs f hs=true
 case neg =>
  rw [Bool.eq_false_iff.2 hae] at hag
  clear hse hA hB hP hH hz hM hf1 hf2 hae
  refine enterA [(0,.agg #[.slice a rs.length c,.slice b l.length d,.slice pa ps.length pc]),(1,.agg #[.int .i64 f,.slice ha hs.length hc])] Tryz.func4 Tryz.ntmps4 ?_
  repeat' first|(refine gp ?_;and_intros<;>first|exact trivial|repeat first|intro(Bk:Nat)|intro h)|(apply G.cV (g:=9);rfl;rfl;exact fun w' hw'=>hfw w' hw'.below)|(apply G.cV (g:=19);rfl;rfl;exact fun w' hw'=>hsh w' hw'.below)|(apply G.cV (g:=10);rfl;rfl;exact fun w' _=>sanity22_holds w')|(apply G.cV (g:=20);rfl;rfl;exact fun w' hw'=>hag w' hw'.below)|fail
  all_goals refine ret1b Tryz.func4 Tryz.results4 ?_
  all_goals rfl
 rw [hae] at hag
 have hsm:=fun t=>smp_short (t:=t) (by decide) hM hse.shrt
 have hv1:=fun w' (hb:Below w.heap.size w w')=>vval false a c b d pa pc w' (hA.below hb) (hB.below hb) hM (hP.below hb) (hsm false)
 have hv2:=fun w' (hb:Below w.heap.size w w')=>vval true a c b d pa pc w' (hA.below hb) (hB.below hb) hM (hP.below hb) (hsm true)
 have q1:=smp_few (hsm false)
 have q2:=smp_few (hsm true)
 by_cases hoo:(valE false rs l ps).2≠0/\(valE true rs l ps).2≠0
 ·obtain ⟨o1,o2⟩:=hoo
  generalize valE false rs l ps=V1 at *
  generalize valE true rs l ps=V2 at *
  obtain ⟨⟨n1,u1,d1⟩,e1⟩:=V1
  obtain ⟨⟨n2,u2,d2⟩,e2⟩:=V2
  dsimp only [qA] at *
  clear hse hA hB hP hH hz hM hf1 hf2 hae hsm q1 q2
  refine enterA [(0,.agg #[.slice a rs.length c,.slice b l.length d,.slice pa ps.length pc]),(1,.agg #[.int .i64 f,.slice ha hs.length hc])] Tryz.func4 Tryz.ntmps4 ?_
  repeat' first|(refine gp ?_;and_intros<;>first|exact trivial|repeat first|intro(Bk:Nat)|intro h)|(apply G.cV (g:=9);rfl;rfl;exact fun w' hw'=>hfw w' hw'.below)|(apply G.cV (g:=19);rfl;rfl;exact fun w' hw'=>hsh w' hw'.below)|(apply G.cV (g:=10);rfl;rfl;exact fun w' _=>sanity22_holds w')|(apply G.cV (g:=20);rfl;rfl;exact fun w' hw'=>hag w' hw'.below)|(apply G.cV (g:=11) (d:=40);rfl;rfl;exact fun w' hw'=>hv1 w' hw'.below)|(apply G.cV (g:=11) (d:=50);rfl;rfl;exact fun w' hw'=>hv2 w' hw'.below)|fail
  all_goals refine ret1b Tryz.func4 Tryz.results4 ?_
  all_goals rfl
 have h0:chkE rs l=0:=by
  by_cases h1:(valE false rs l ps).2=0
  ·exact (val_ok h1).1
  ·by_cases h2:(valE true rs l ps).2=0
   ·exact (val_ok h2).1
   ·exact absurd ⟨h1,h2⟩ hoo
 have hAg:=(agr_ok (chk_ok h0).1 hae).1
 obtain ⟨q3,hl3⟩:=vsum_few h0 hf1 (by decide) hf2 hAg
 obtain ⟨hc1,hc2⟩:=sound_cmp (ps:=ps) h0 hAg
 have hvo:=fun w' (hb:Below w.heap.size w w')=>val_holds f ha b hs l hc d w' (hH.below hb) (hB.below hb) hM.few hl3 hcap
 rw [vol_ok h0 hae] at hvo
 generalize rQ (volSum l (f0R rs) hs)=V3 at *
 generalize valE false rs l ps=V1 at *
 generalize valE true rs l ps=V2 at *
 obtain ⟨V1,e1⟩:=V1
 obtain ⟨V2,e2⟩:=V2
 dsimp only at *
 have hk1:=fun w'=>ratCmp_holds V1 V3 w' (Nat.le_trans q1.1 (by decide)) (Nat.le_trans q1.2 (by decide)) (Nat.le_trans q3.1 (by decide)) (Nat.le_trans q3.2 (by decide))
 have hk2:=fun w'=>ratCmp_holds V3 V2 w' (Nat.le_trans q3.1 (by decide)) (Nat.le_trans q3.2 (by decide)) (Nat.le_trans q2.1 (by decide)) (Nat.le_trans q2.2 (by decide))
 generalize sgnR (qR V1-qR V3)=k1 at *
 generalize sgnR (qR V3-qR V2)=k2 at *
 clear hse hA hB hP hH hz hM hf1 hf2 hae hsm q1 q2 q3 hl3 hAg h0
 obtain ⟨n1,u1,d1⟩:=V1
 obtain ⟨n2,u2,d2⟩:=V2
 obtain ⟨n3,u3,d3⟩:=V3
 dsimp only [qA] at *
 have hoo:(e1=0/\e2=0)∨(e1=0/\e2≠0)∨(e1≠0/\e2=0):=by
  by_cases o1:e1=0
  ·by_cases o2:e2=0
   ·exact .inl ⟨o1,o2⟩
   ·exact .inr (.inl ⟨o1,o2⟩)
  ·by_cases o2:e2=0
   ·exact .inr (.inr ⟨o1,o2⟩)
   ·exact absurd ⟨o1,o2⟩ hoo
 obtain ⟨o1,o2⟩|⟨o1,o2⟩|⟨o1,o2⟩:=hoo
 ·subst o1;subst o2
  have hc1:=hc1 rfl
  have hc2:=hc2 rfl
  refine enterA [(0,.agg #[.slice a rs.length c,.slice b l.length d,.slice pa ps.length pc]),(1,.agg #[.int .i64 f,.slice ha hs.length hc])] Tryz.func4 Tryz.ntmps4 ?_
  repeat' first|(refine gp ?_;and_intros<;>first|exact trivial|repeat first|intro(Bk:Nat)|intro h)|(apply G.cV (g:=9);rfl;rfl;exact fun w' hw'=>hfw w' hw'.below)|(apply G.cV (g:=19);rfl;rfl;exact fun w' hw'=>hsh w' hw'.below)|(apply G.cV (g:=10);rfl;rfl;exact fun w' _=>sanity22_holds w')|(apply G.cV (g:=20);rfl;rfl;exact fun w' hw'=>hag w' hw'.below)|(apply G.cV (g:=11) (d:=40);rfl;rfl;exact fun w' hw'=>hv1 w' hw'.below)|(apply G.cV (g:=11) (d:=50);rfl;rfl;exact fun w' hw'=>hv2 w' hw'.below)|(apply G.cV (g:=21);rfl;rfl;exact fun w' hw'=>hvo w' hw'.below)|(apply G.cV (g:=22) (d:=78);rfl;rfl;exact fun w' _=>hk1 w')|(apply G.cV (g:=22) (d:=88);rfl;rfl;exact fun w' _=>hk2 w')|fail
  all_goals refine ret1b Tryz.func4 Tryz.results4 ?_
  all_goals rfl
 ·subst o1
  have hc1:=hc1 rfl
  clear hc2
  refine enterA [(0,.agg #[.slice a rs.length c,.slice b l.length d,.slice pa ps.length pc]),(1,.agg #[.int .i64 f,.slice ha hs.length hc])] Tryz.func4 Tryz.ntmps4 ?_
  repeat' first|(refine gp ?_;and_intros<;>first|exact trivial|repeat first|intro(Bk:Nat)|intro h)|(apply G.cV (g:=9);rfl;rfl;exact fun w' hw'=>hfw w' hw'.below)|(apply G.cV (g:=19);rfl;rfl;exact fun w' hw'=>hsh w' hw'.below)|(apply G.cV (g:=10);rfl;rfl;exact fun w' _=>sanity22_holds w')|(apply G.cV (g:=20);rfl;rfl;exact fun w' hw'=>hag w' hw'.below)|(apply G.cV (g:=11) (d:=40);rfl;rfl;exact fun w' hw'=>hv1 w' hw'.below)|(apply G.cV (g:=11) (d:=50);rfl;rfl;exact fun w' hw'=>hv2 w' hw'.below)|(apply G.cV (g:=21);rfl;rfl;exact fun w' hw'=>hvo w' hw'.below)|(apply G.cV (g:=22) (d:=78);rfl;rfl;exact fun w' _=>hk1 w')|(apply G.cV (g:=22) (d:=88);rfl;rfl;exact fun w' _=>hk2 w')|fail
  all_goals refine ret1b Tryz.func4 Tryz.results4 ?_
  all_goals rfl
 ·subst o2
  have hc2:=hc2 rfl
  clear hc1
  refine enterA [(0,.agg #[.slice a rs.length c,.slice b l.length d,.slice pa ps.length pc]),(1,.agg #[.int .i64 f,.slice ha hs.length hc])] Tryz.func4 Tryz.ntmps4 ?_
  repeat' first|(refine gp ?_;and_intros<;>first|exact trivial|repeat first|intro(Bk:Nat)|intro h)|(apply G.cV (g:=9);rfl;rfl;exact fun w' hw'=>hfw w' hw'.below)|(apply G.cV (g:=19);rfl;rfl;exact fun w' hw'=>hsh w' hw'.below)|(apply G.cV (g:=10);rfl;rfl;exact fun w' _=>sanity22_holds w')|(apply G.cV (g:=20);rfl;rfl;exact fun w' hw'=>hag w' hw'.below)|(apply G.cV (g:=11) (d:=40);rfl;rfl;exact fun w' hw'=>hv1 w' hw'.below)|(apply G.cV (g:=11) (d:=50);rfl;rfl;exact fun w' hw'=>hv2 w' hw'.below)|(apply G.cV (g:=21);rfl;rfl;exact fun w' hw'=>hvo w' hw'.below)|(apply G.cV (g:=22) (d:=78);rfl;rfl;exact fun w' _=>hk1 w')|(apply G.cV (g:=22) (d:=88);rfl;rfl;exact fun w' _=>hk2 w')|fail
  all_goals refine ret1b Tryz.func4 Tryz.results4 ?_
  all_goals rfl
end Go.Proofs.YtjcecdmbfmccoaaGreatDoor
