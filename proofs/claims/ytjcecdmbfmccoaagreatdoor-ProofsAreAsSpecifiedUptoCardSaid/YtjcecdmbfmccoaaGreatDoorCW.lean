/-
  Laws whose reading is of bounded bulk: how such a law is lifted, and how its arguments read with their bulk.
-/
import Derived.Test.YtjcecdmbfmccoaaGreatDoorWA12
import Derived.Test.YtjcecdmbfmccoaaGreatDoorRows
import Derived.JoinedCond
import Derived.LaidMore
import Derived.Lay
import Derived.ProofKit
set_option linter.unusedVariables false
set_option linter.unusedSimpArgs false
set_option linter.unusedSectionVars false
namespace Go.Proofs.YtjcecdmbfmccoaaGreatDoor
open Go Go.RowKit Go.Sl Go.Num Go.ChangeShapes Go.WideShapes
section
variable {H:Type}{enc:TypeId×Value->H}
theorem yD {a:Assume}{C:Checked}{os:Os}{f:FuncId}{fn:Func}{s:OpenSpec}{k:(H:Type)->List (DataW H)->Bool} (hk:s.cond=some k) {F:Stop.Interp}{conds:List PathCond}{apart fresh handsOn again:Bool}{X:World->Array Value->Prop}
  (hX:∀ (w w':World) (args:Array Value),w.heap=w'.heap->X w args->X w' args)
  (hown:ownKnob C.prog.godebug=none) (started:os.Started) (noInit:C.prog.inits.idxOf? f=none) (hfn:C.prog.funcs[f]?=some fn)
  (wit:∃ (w:World) (tape:Tape) (i:Input),w.os=os/\(w.forCall tape i).Shaped C.prog/\i.vars=[]/\Input.okWide C.prog (w.forCall tape i) .any w.heap.size f i /\
   ((s.pre enc C.prog fn conds apart (w.forCall tape i).memory i.args/\X (w.forCall tape i).memory i.args)/\sizedMet enc C.prog fn s apart (w.forCall tape i).memory i.args)/\a.holds C.prog (lone (Frame.enter C.prog f i.args .normal) [] (w.forCall tape i)))
  (con:∀ (W:World) (base:Nat) (args:Array Value) (ds gs:List (DataW H)) (before:List MemPlace),
   (∀ (j:Nat) t v,fn.params[j]?=some t->args[j]?=some v->Value.okWide C.prog W .any base t v) ->
   DataW.Whole enc C.prog fn.params.toList s.vars apart W args.toList ds gs before->k H (ds++gs)=true->X W args ->
   Calls C.prog f args W fun e W'=>∃ v,e=.returned v/\(s.at F).post enc C.prog fn apart fresh handsOn again W args v W') :
  ReturnsInHanded a C os f .any (fun w args=>(s.pre enc C.prog fn conds apart w args/\X w args)/\sizedMet enc C.prog fn s apart w args) ((s.at F).post enc C.prog fn apart fresh handsOn again):=by
 refine returnsInHanded_of_calls hown started noInit wit fun w tape i _ _ _ hok hpre _=>?_
 obtain ⟨_,_,_,g,hg,_,_,_,_,hval⟩:=hok;obtain rfl:g=fn:=Option.some.inj (hg.symm.trans hfn);obtain ⟨⟨hp,hx⟩,_⟩:=hpre;obtain ⟨ds,gs,before,hw,_,hkk⟩:=(OpenSpec.pre_some hk conds apart _ _).1 hp;refine (con (w.forCall tape i) w.heap.size i.args ds gs before hval (DataW.Whole.of_heap (w':=w.forCall tape i) (by rfl) hw) hkk (hX _ _ _ (by rfl) hx)).mono fun e W' hh=>?_
 obtain ⟨v,rfl,hq⟩:=hh;exact ChangeSpec.post_blind hq
theorem yE {C:Checked}{os:Os}{f:FuncId}{fn:Func}{s:OpenSpec}{k:(H:Type)->List (DataW H)->Bool} (hk:s.cond=some k) {conds:List PathCond}{apart:Bool}{X:World->Array Value->Prop} (modest:Bool) (w0:World) (args:Array Value) (fuel:Nat) (hos:w0.os=os)
  (hsh:(w0.forCall (fun _ _=>0) ⟨#[],args,[]⟩).Shaped C.prog)
  (hok:Input.okWideB C.prog (w0.forCall (fun _ _=>0) ⟨#[],args,[]⟩) f ⟨#[],args,[]⟩=true)
  (hpre:(match DataW.whole enc C.prog (w0.forCall (fun _ _=>0) ⟨#[],args,[]⟩).memory fn.params.toList s.vars apart args.toList fuel with
   | some x=>conds.all (PathCond.test C.prog ⟨fn.params.toList,x.1,s.bare.plain.varTypes C.prog,x.2.1⟩) && k H (x.1++x.2.1)
   | none=>false)=true)
  (hsz:s.bare.sizedB enc C.prog fn apart (w0.forCall (fun _ _=>0) ⟨#[],args,[]⟩).memory args fuel=true)
  (hx:X (w0.forCall (fun _ _=>0) ⟨#[],args,[]⟩).memory args) :
  ∃ (w:World) (tape:Tape) (i:Input),w.os=os/\(w.forCall tape i).Shaped C.prog/\i.vars=[]/\Input.okWide C.prog (w.forCall tape i) .any w.heap.size f i /\
   ((s.pre enc C.prog fn conds apart (w.forCall tape i).memory i.args/\X (w.forCall tape i).memory i.args)/\sizedMet enc C.prog fn s apart (w.forCall tape i).memory i.args)/\({ modest:=modest }:Assume).holds C.prog (lone (Frame.enter C.prog f i.args .normal) [] (w.forCall tape i)):=by
 refine ⟨w0,fun _ _=>0,⟨#[],args,[]⟩,hos,hsh,(Input.okWide_of_okWideB (base:=0) hok).1,(Input.okWide_of_okWideB hok).2,⟨⟨?_,hx⟩,sizedMet_of_sizedB hsz⟩,?_⟩
 ·refine (OpenSpec.pre_some hk conds apart _ _).2 ?_
  split at hpre
  ·rename_i x hxx
   rw [Bool.and_eq_true] at hpre;exact ⟨x.1,x.2.1,x.2.2,DataW.Whole_of_whole hxx,hpre.1,hpre.2⟩
  ·cases hpre
 ·simp only [Assume.holds]
  exact ⟨by simp,by simp,fun _=>Modest.zero,by simp,by simp⟩
end
theorem KP {H:Type} (d:DataW H):1<=Rows.uptoBulk d:=by
 cases d with
 | lit l=>cases l<;>simp [Rows.uptoBulk]
 | _=>simp [Rows.uptoBulk]
theorem kD {H:Type}{d:DataW H}:∀ {l:List (DataW H)},d∈l->Rows.uptoBulk d<=Rows.uptoBulkAll l
 | [],h=>absurd h List.not_mem_nil
 | x::l,h=>by
  rw [Rows.uptoBulkAll];rcases List.mem_cons.1 h with rfl|h
  ·omega
  ·have:=kD h;omega
theorem Fb {H:Type}:∀ l:List (DataW H),l.length<=Rows.uptoBulkAll l
 | []=>Nat.zero_le _
 | x::l=>by
  have:=Fb l;have:=KP x;rw [Rows.uptoBulkAll,List.length_cons];omega
structure bB (P:Program) (T:TypeId) {A:Type} (f:A->List Value) (G:World->A->Nat->Prop):Prop where
 go:∀ {H:Type} (enc:TypeId×Value->H) (w:World) (fuel:Nat) (cs:List Value) (x:DataW H×List MemPlace),DataW.trod enc P w 0 (fun _=>true) true fuel T cs=some x->∃ a,cs=f a/\G w a (Rows.uptoBulk x.1)
section
variable {P:Program}{T E:TypeId}
theorem bB.of {A:Type}{f:A->List Value}{G:World->A->Prop} (h:aK P T f G):bB P T f (fun w a _=>G w a):=.mk fun enc w fuel cs x hx=>h.go enc w fuel cs x hx
theorem bB.turn {A B:Type}{f:A->List Value}{G:World->A->Nat->Prop}{f':B->List Value}{G':World->B->Nat->Prop} (h:bB P T f G) (hG:∀ w a n,G w a n->∃ b,f a=f' b/\G' w b n):bB P T f' G':=.mk fun enc w fuel cs x hx =>
 let ⟨a,h1,h2⟩:=h.go enc w fuel cs x hx
 let ⟨b,h3,h4⟩:=hG w a _ h2
 ⟨b,h1.trans h3,h4⟩
theorem bB.struct {fs:Array Field}{n:Nat} (ht:P.underlying T=some (.struct fs)) (hn:P.cellsOf T=n) (hT:Go.Sl.xF P fs n=true) {H:Type}{enc:TypeId×Value->H}{w:World}{fuel:Nat}{cs:List Value}{x:DataW H×List MemPlace}
  (hx:DataW.trod enc P w 0 (fun _=>true) true fuel T cs=some x) :
  cs=(eO (fs.toList.map fun f=>P.cellsOf f.type) cs).flatten/\(eO (fs.toList.map fun f=>P.cellsOf f.type) cs).length=fs.size/\∃ xs:List (DataW H×List MemPlace),x.1=.agg (xs.map (·.1))/\xs.length=fs.size /\
  ∀ (i:Nat) (f:Field) (p:List Value) (y:DataW H×List MemPlace),fs[i]?=some f->(eO (fs.toList.map fun f=>P.cellsOf f.type) cs)[i]?=some p->xs[i]?=some y->∃ m,DataW.trod enc P w 0 (fun _=>true) true m f.type p=some y:=by
 obtain ⟨r1,r2,_⟩:=aK.struct ht hn hT hx;simp only [Go.Sl.xF,Bool.and_eq_true,decide_eq_true_eq] at hT;obtain ⟨xs,m,-,hxe,hl,hlen,hf⟩:=DataW.trod_struct ht hx;refine ⟨r1,r2,xs,by rw [hxe],hlen,fun i f p y hi hp hy=>?_⟩
 have ho:(fs.toList.map (·.offset))[i]?=some f.offset:=by rw [List.getElem?_map,Array.getElem?_toList,hi];rfl
 have hs:(fs.toList.map fun f=>P.cellsOf f.type)[i]?=some (P.cellsOf f.type):=by rw [List.getElem?_map,Array.getElem?_toList,hi];rfl
 rw [hT.1] at ho;have:=sY _ cs 0 i _ f.offset (by rw [Nat.zero_add];exact ho) hs
 rw [hp] at this;cases this;exact ⟨m,(hf i f hi).trans hy⟩
variable {A1 A2 A3 A4 A5:Type}{f1:A1->List Value}{f2:A2->List Value}{f3:A3->List Value}{f4:A4->List Value}{f5:A5->List Value}{G1:World->A1->Nat->Prop}{G2:World->A2->Nat->Prop}{G3:World->A3->Nat->Prop}{G4:World->A4->Nat->Prop}{G5:World->A5->Nat->Prop}{d1 d2 d3 d4 d5:Field}{n:Nat}
theorem bB.struct2 (ht:P.underlying T=some (.struct #[d1,d2])) (hn:P.cellsOf T=n) (hT:Go.Sl.xF P #[d1,d2] n=true) (h1:bB P d1.type f1 G1) (h2:bB P d2.type f2 G2) :
  bB P T (fun a:A1×A2=>f1 a.1++f2 a.2) (fun w a N=>∃ n1 n2,n1+n2<=N/\G1 w a.1 n1/\G2 w a.2 n2):=.mk fun enc w fuel cs x hx=>by
 obtain ⟨hj,hl,xs,he,hxl,hf⟩:=bB.struct ht hn hT hx;obtain ⟨p1,p2,hp⟩:=IW hl;obtain ⟨y1,y2,hy⟩:=IW hxl;subst hy;rw [hp] at hj hf;obtain ⟨_,r1⟩:=hf 0 d1 p1 y1 rfl rfl rfl;obtain ⟨_,r2⟩:=hf 1 d2 p2 y2 rfl rfl rfl;obtain ⟨a1,rfl,g1⟩:=h1.go enc w _ _ _ r1;obtain ⟨a2,rfl,g2⟩:=h2.go enc w _ _ _ r2;refine ⟨(a1,a2),by rw [hj];simp,_,_,?_,g1,g2⟩
 rw [he];simp only [List.map_cons,List.map_nil,Rows.uptoBulk,Rows.uptoBulkAll];omega
theorem bB.slice {A:Type}{f:A->List Value}{G:World->A->Nat->Prop}{sz:Nat} (ht:P.underlying T=some (.slice E)) (hE:P.cellsOf E=sz) (h0:0 < sz) (h:bB P E f G) :
  bB P T (fun s:Sld A=>[s.v]) (fun w s N=>aE w s.ad sz (s.l.map f)/\s.l.length<=s.cap/\s.l.length<=N/\∀ a∈s.l,∃ n,n<=N/\G w a n):=.mk fun enc w fuel cs x hx=>by
 rcases DataW.trod_slice ht hx with ⟨rfl,_⟩|⟨a,len,cap,elems,rest,n,_,rfl,hxe,hb,hl,hm,hlen,hel,_⟩
 ·exact ⟨⟨none,[],0⟩,rfl,aE.nil,Nat.le_refl _,Nat.zero_le _,fun a ha=>by cases ha⟩
 have hN:Rows.uptoBulkAll (elems.map (·.1))<=Rows.uptoBulk x.1:=by
  rw [hxe];simp only [Rows.uptoBulk];omega
 rw [hE] at hel;have hget:∀ i∈List.range len,∃ a':A,w.cells? 0 (a.add (i*sz)) sz=some (f a')/\∃ n,n<=Rows.uptoBulk x.1/\G w a' n:=fun i hi=>by
  have hi:=List.mem_range.1 hi;have h1:=hel i hi;rw [gE om] at h1;obtain ⟨cs',h2,h3⟩:=Option.bind_eq_some_iff.1 h1;obtain ⟨a',rfl,g⟩:=h.go enc w _ _ _ h3;exact ⟨a',h2,_,Nat.le_trans (kD (List.mem_map_of_mem (gM _))) hN,g⟩
 obtain ⟨aas,h1,h2⟩:=mH (fun i a'=>w.cells? 0 (a.add (i*sz)) sz=some (f a')/\∃ n,n<=Rows.uptoBulk x.1/\G w a' n) (List.range len) hget
 rw [List.length_range] at h1;have hq:∀ i (hi:i < aas.length),w.cells? 0 (a.add (i*sz)) sz=some (f aas[i])/\∃ n,n<=Rows.uptoBulk x.1/\G w aas[i] n:=fun i hi=>h2 i i _ (by rw [List.getElem?_range om]) (gE hi)
 have hlN:aas.length<=Rows.uptoBulk x.1:=by
  have:=Fb (elems.map (·.1));rw [List.length_map] at this;omega
 refine ⟨⟨some a,aas,cap⟩,by show [Value.slice (some a) len cap]=[Value.slice (some a) aas.length cap];rw [h1],fun h3=>?_,by dsimp only;omega,hlN,fun a' ha=>?_⟩
 ·dsimp only at h3 ⊢
  simp only [List.length_map] at h3;obtain ⟨b,off,spot⟩:=a;have e0:=(hq 0 h3).1;rw [Nat.zero_mul] at e0;have hs:=(rE (spot:=spot) (by simpa [Addr.add] using e0) h0).1
  subst hs;refine ⟨b,off,rfl,fun i cs hi=>?_⟩
  have hil:i < aas.length:=by simpa using (List.getElem?_eq_some_iff.1 hi).1
  have e:=(hq i hil).1;rw [dS,dV] at e;rw [List.getElem?_map,gE hil] at hi;have hi:=Option.some.inj hi;subst hi;exact (rE e h0).2
 ·obtain ⟨i,hi,rfl⟩:=List.mem_iff_getElem.1 ha
  exact (hq i hi).2
theorem bB.argAgg {A:Type}{f:A->List Value}{G:World->A->Nat->Prop} (h:bB P T f G) {H:Type}{enc:TypeId×Value->H}{W:World}{v:Value}{d:DataW H}{ps:List MemPlace} (hk:∃ cs,v=.agg cs) (hv:DataW.Trod enc P W 0 (fun _=>true) true T v d ps):∃ a,v=.agg (f a).toArray/\G W a (Rows.uptoBulk d):=by
 obtain ⟨cs,rfl⟩:=hk;obtain ⟨fuel,hf⟩:=hv;obtain ⟨a,h1,h2⟩:=h.go enc W _ _ _ hf;refine ⟨a,?_,h2⟩
 have:cs.toList=f a:=h1;rw [<- this]
end
theorem Ot:aK Tryz.prog 25 qV (fun _ _=>True):=Jy
theorem MY:bB Tryz.prog 61 (fun s:Sld Q3=>[s.v]) (fun w s N=>aE w s.ad 3 (s.l.map qV)/\s.l.length<=N):=(bB.slice (sz:=3) Tryz.underlying61 (by kernel_rfl) dc (bB.of Ot)).turn fun _ s _ h=>⟨s,rfl,h.1,h.2.2.1⟩
theorem Pk:bB Tryz.prog 63 prV (fun w p N=>qS w p/\p.st.length+p.cl.length<=N):=(bB.struct2 (n:=2) Tryz.underlying63 (by kernel_rfl) (by kernel_rfl) MY MY).turn fun _ a _ ⟨n1,n2,h1,h2,h3⟩=>⟨⟨a.1.l,a.2.l,a.1.ad,a.1.cap,a.2.ad,a.2.cap⟩,rfl,⟨h2.1,h3.1⟩,Nat.le_trans (Nat.add_le_add h2.2 h3.2) h1⟩
theorem KQ:bB Tryz.prog 31 (fun s:Sld Prf=>[s.v]) (fun w s N=>bK w s.ad s.l/\s.l.length<=s.cap/\∀ p∈s.l,p.st.length+p.cl.length<=N):=(bB.slice (sz:=2) Tryz.underlying31 (by kernel_rfl) dc Pk).turn fun _ s _ h=>⟨s,rfl,⟨h.1,fun p hp=>(let ⟨_,_,h2,_⟩:=h.2.2.2 p hp;h2)⟩,h.2.1,fun p hp=>(let ⟨_,h1,_,h3⟩:=h.2.2.2 p hp;Nat.le_trans h3 h1)⟩
structure DS (w:World) (s:Shp) (m:ShM):Prop where
 l:aE w m.la 1 (s.ls.map isV)
 lc:s.ls.length<=m.lc
 h:aE w m.ha 1 (s.hs.map isV)
 hc:s.hs.length<=m.hc
 p:bK w m.pa s.lp
 q:bK w m.qa s.hp
end Go.Proofs.YtjcecdmbfmccoaaGreatDoor
