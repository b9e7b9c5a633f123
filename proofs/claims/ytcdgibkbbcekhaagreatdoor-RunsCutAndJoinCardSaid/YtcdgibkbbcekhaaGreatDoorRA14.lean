/-
  Contract: run.joined.
-/
import Derived.Test.YtcdgibkbbcekhaaGreatDoorRA13
set_option linter.unusedVariables false
set_option linter.unusedSimpArgs false
set_option linter.unusedSectionVars false
namespace Go.Proofs.YtcdgibkbbcekhaaGreatDoor
open Go.RowKit Go.Sl Go.Num
section
variable {C:Ctx}{st:List (Nat×Value)}{M:List Row}{k:List Item}{q q':Md}{all rest:List Oper}{d:Nat}{ty:TypeId}{pos:String}{after:Array Edge}{gd:Option (Nat×Bool)}
theorem G.cBoth {g:FuncId}{f:Operand}{args:List Operand}{vs:List Value}{at_:Array TypeId} (a b:Rn) (hf:evS st f=some (.func (.func g) #[] #[])) (ha:evL st args=some vs) (hs:sideB all st gd d C.N q.ext=some q') [hF:Fun C.P g]
  (hc:∀ w,Sat C.w0 M w→Calls C.P g vs.toArray w (RetB a b w))
  (h:∀ x:Rn,(jblB a b=true→rbare x=jnR a b)→(∀ p,x.adr=some p→C.w0.heap.size≤p.block)→G q' C all ((d,.tuple #[rnA x,.bool (jblB a b)])::st) (slRow C.w0.heap.size x.adr 2 (x.tab.map hoV)::M) rest k) :
  G q C all st M ({ dst:=some d,op:=.call { callee:=.value f,args:=args.toArray,argTypes:=at_ },type:=ty,pos,after,guard:=gd }::rest) k:=by
 obtain ⟨g1,g2,g3⟩:=sideB_ok hs
 refine G.call (X:={ x:Rn // (jblB a b=true→rbare x=jnR a b)∧∀ p,x.adr=some p→C.w0.heap.size≤p.block }) (v:=fun x=>.tuple #[rnA x.1,.bool (jblB a b)]) (Mn:=fun x=>[slRow C.w0.heap.size x.1.adr 2 (x.1.tab.map hoV)]) g1 g2 g3 hf ha (fun w hw=>?_) fun x=>h x.1 x.2.1 x.2.2
 rw [Array.append_empty]
 refine (hc w hw).mono fun e w' ⟨x,h1,h2,h3,h4,h5⟩=>⟨⟨x,h2,fun p hp=>Nat.le_trans hw.size (h4 p hp)⟩,h1,(hw.ext h5).addFact (Nat.le_refl _) h3 fun b hb=>?_⟩
 obtain ⟨h6,p,h7,h8,h9⟩:=hb
 dsimp only at h6 h7
 have hlt:=SlAt.lt h3 h6 p h7
 have:=h4 p h7
 subst h8
 exact ⟨h9,hlt,hw.free (.inr (.inl this)) h9⟩
theorem Sat.tfamTo {w0 w:World}{o l o':List Rn} (hw:Sat w0 M w) (h1:tfam w0.heap.size o∈M) (h2:tfam w0.heap.size l∈M) (hs:∀ r∈o',r∈o∨r∈l):Sat w0 (tfam w0.heap.size o'::M) w:=by
 refine hw.addFact (Nat.le_refl _) (fun r hr=>(hs r hr).elim (hw.fam h1 r) (hw.fam h2 r)) fun b hb=>?_
 obtain ⟨r,hr,h3⟩:=hb
 rcases hs r hr with h|h
 ·have h4:(tfam w0.heap.size o).sup b:=⟨r,h,h3⟩
  have ho:=hw.old _ h1
  exact ⟨(ho.2 b h4).1,(ho.2 b h4).2,fun r' hr'=>hw.noLock h1 (fun _ h=>h) hr' h4⟩
 ·have h4:(tfam w0.heap.size l).sup b:=⟨r,h,h3⟩
  have ho:=hw.old _ h2
  exact ⟨(ho.2 b h4).1,(ho.2 b h4).2,fun r' hr'=>hw.noLock h2 (fun _ h=>h) hr' h4⟩
theorem J.tfamTo {o l:List Rn} (o':List Rn) (h1:tfam C.w0.heap.size o∈M) (h2:tfam C.w0.heap.size l∈M) (hs:∀ r∈o',r∈o∨r∈l) (hk:J C st (tfam C.w0.heap.size o'::M) k):J C st M k:=.mk fun ac w hf hd hw=>hk.go ac w hf hd (Sat.tfamTo hw h1 h2 hs)
end
theorem joinF_take {l:List Rn}{n:Nat} (h:n < l.length):joinL ((l.take (n+1)).map rbare)=putL (joinL ((l.take n).map rbare)) (rbare l[n]):=by
 rw [List.take_add_one,List.getElem?_eq_getElem h,List.map_append,joinL,joinF_app];rfl
theorem ok_bare {r:Rn}:OkR (rbare r) ↔ OkR r:=Iff.rfl
theorem cn_bare:∀ {l:List Rn}{f t:Int},Cn f (l.map rbare) t ↔ Cn f l t
 | [],_,_=>Iff.rfl
 | r::l,f,t=>and_congr Iff.rfl (cn_bare (l:=l))
structure JnAt (l:List Rn) (n:Nat) (o:List Rn):Prop where
 le:n≤l.length
 eq:o.map rbare=joinL ((l.take n).map rbare)
theorem JnAt.step {l:List Rn}{n:Nat}{o o':List Rn} (h:JnAt l n o) (hn:n < l.length) (ho:o'.map rbare=putL (o.map rbare) (rbare l[n])):JnAt l (n+1) o':=⟨hn,by rw [ho,joinF_take hn,h.eq]⟩
theorem JnAt.ok {l:List Rn}{n:Nat}{o:List Rn}{f t:Int} (h:JnAt l n o) (hC:Cn f l t) (hO:∀ r∈l,OkR r) (hn:n < l.length):(∀ r∈o,OkR r)∧Cn f o l[n].from_:=by
 rw [← List.take_append_drop n l] at hC
 obtain ⟨m,h1,h2⟩:=Cn.app.1 hC
 rw [List.drop_eq_getElem_cons hn] at h2
 obtain ⟨q1,q2,_⟩:=joinL_ok (cn_bare.2 h1) (fun r hr=>by obtain ⟨r',h3,rfl⟩:=List.mem_map.1 hr;exact ok_bare.2 (hO r' (List.mem_of_mem_take h3)))
 rw [← h.eq] at q1 q2
 exact ⟨fun r hr=>ok_bare.1 (q2 _ (List.mem_map_of_mem hr)),by rw [h2.1];exact cn_bare.1 q1⟩
theorem JnAt.len {l:List Rn}{n:Nat}{o:List Rn} (h:JnAt l n o):o.length≤n:=by
 have:=congrArg List.length h.eq
 rw [List.length_map] at this
 have:=joinL_len ((l.take n).map rbare)
 rw [List.length_map,List.length_take] at this
 omega
theorem putL_nilB {x:Rn}:[x].map rbare=putL (([]:List Rn).map rbare) (rbare x):=rfl
theorem putL_addB {o:List Rn}{y x:Rn} (h:jblB y x=false):(o++[y]++[x]).map rbare=putL ((o++[y]).map rbare) (rbare x):=by
 rw [putL_bare,putL_snoc,h];rfl
theorem putL_jnB {o:List Rn}{y x z:Rn} (h:jblB y x=true) (hz:rbare z=jnR y x):(o++[z]).map rbare=putL ((o++[y]).map rbare) (rbare x):=by
 rw [putL_bare,putL_snoc,h,List.map_append,if_pos rfl,List.map_append,List.map_cons,hz];rfl
set_option maxHeartbeats 4000000 in
theorem joined_holds (a:Option Addr) (l:List Rn) (c:Nat) (f t:Int) (w:World) (hA:RunsAt w a l) (hC:Cn f l t) (hO:∀ r∈l,OkR r) (hl:l.length≤1000000) :
  Calls Tryz.prog 100 #[.slice a l.length c,.func (.func 80) #[] #[]] w (RetU l (fun L=>L.map rbare=joinL (l.map rbare)) (fun a' n c'=>.slice a' n c') w):=by
 refine enterA [(0,.slice a l.length c),(1,.func (.func 80) #[] #[])] Tryz.func100 Tryz.ntmps100 ?_
 all_goals (refine go ?_;and_intros<;>(try exact trivial)<;>repeat (first|refine fun (Bk:Nat)=>?_|intro h))
 apply J.nilOwn (E:=90) (size:=5)
 refine J.tfamOld hA ?_
 apply J.fam0 Rn.adr 2 (fun r=>r.tab.map hoV)
 refine J.loop (c:=_) ((0,none,0,[]):Nat×Option Addr×Nat×List Rn) (fun s=>l.length-s.1) (fun s=>[(1,.func (.func 80) #[] #[]),(5,.slice s.2.1 s.2.2.2.length s.2.2.1),(11,.slice a l.length c),(12,.int .i64 l.length),(13,.int .i64 s.1)]) (fun s=>[tfam w.heap.size s.2.2.2,tfam w.heap.size l,.own 0 (.slice s.2.1 s.2.2.2.length s.2.2.1) 90 5 s.2.2.2.length (flat rnV s.2.2.2)]) (fun s=>JnAt l s.1 s.2.2.2∧srcR w.heap.size l s.2.2.2) ?_ sbT sbL ?_
 ·exact ⟨⟨Nat.zero_le _,rfl⟩,srcR.nil⟩
 intro ⟨n,au,cu,o⟩ ⟨h1,h2⟩ ih
 dsimp only at h1 h2 ⊢
 have hlen:=h1.len
 by_cases hn:n < l.length
 ·obtain ⟨ba,oa,rfl,hra⟩:=SlAt.all hA.1 (by omega)
  have hrn:=hra n hn
  have hmem:=List.getElem_mem hn
  obtain ⟨ho1,ho2⟩:=h1.ok hC hO hn
  have hxo:=hO _ hmem
  have ih1:=fun (o':List Rn) a' c' (q:o'.map rbare=putL (o.map rbare) (rbare l[n])) (q2:srcR w.heap.size l o')=>ih (n+1,a',c',o') ⟨h1.step hn q,q2⟩ (by dsimp only;omega)
  dsimp only at ih1
  have htb:=hA.2 _ hmem
  clear ih hra h1 hA hC hO
  generalize l[n]=x at *
  rcases nil_or_snoc o with rfl|⟨o,y,rfl⟩
  ·have ih2:=fun a' c'=>ih1 [x] a' c' putL_nilB (srcR.self fun r hr=>by rw [List.mem_singleton.1 hr];exact hmem)
   clear ih1
   have hap:flat rnV ([]:List Rn)++rnV x=flat rnV [x]:=(flat_append rnV [] [x]).symm.trans rfl
   obtain ⟨xf,xt,tab,adr,cap,lo,hi⟩:=x
   dsimp only [rnV,List.length_nil] at *
   all_goals (refine go ?_;and_intros<;>(try exact trivial)<;>repeat (first|refine fun (Bk:Nat)=>?_|intro h))
   repeat' ((first|(apply G.sliceL;rfl;rfl;rfl;rfl;rfl;rfl;rfl;rfl;intro Bs)|(apply G.apV;rfl;rfl;rfl;(repeat (first|exact RAt.head|apply RAt.tail));exact SrcV.blk (by exact mm) rfl rfl;exact hap;omega;omega;intro a2 c2))<;>(refine go ?_;and_intros<;>(try exact trivial)<;>repeat (first|refine fun (Bk:Nat)=>?_|intro h)))
   refine J.tfamTo (o:=[]) (l:=l) [⟨xf,xt,tab,adr,cap,lo,hi⟩] mm mm (fun r hr=>.inr (by rw [List.mem_singleton.1 hr];exact hmem)) ?_
   exact J.fin (ih2 a2 c2)
  ·have hym:y∈o++[y]:=by simp
   have hyo:=ho1 y hym
   have hy:(o++[y])[o.length]?=some y:=by simp
   have hne:(o++[y]).length=o.length+1:=by simp
   rw [hne] at hlen
   rw [hne]
   refine J.ownOpen RAt.au (by omega) ?_
   intro g cap hgc hcm hv
   rw [hv]
   clear hv
   have hbo:=fun w' (hb:Below w.heap.size w w') (hyt:TabAt w' y)=>both_holds y x w' hyt (SlAt.below htb hb) hyo hxo
   have hz:((o.length+1:Nat):Int)-1=(o.length:Int):=by omega
   obtain ⟨xf,xt,tab,adr,cx,lo,hi⟩:=x
   have hsr:=fun z (hz:∀ p,z.adr=some p→w.heap.size≤p.block)=>(h2.sub fun r hr=>List.mem_append_left [y] hr).app (srcR.one (L0:=l) (r:=z) (.inr (.inl hz)))
   have hsx:=h2.app (srcR.self (n:=w.heap.size) (L0:=l) (L:=[(⟨xf,xt,tab,adr,cx,lo,hi⟩:Rn)]) fun r hr=>by rw [List.mem_singleton.1 hr];exact hmem)
   cases hj:jblB y ⟨xf,xt,tab,adr,cx,lo,hi⟩
   ·have ih2:=fun a' c'=>ih1 (o++[y]++[⟨xf,xt,tab,adr,cx,lo,hi⟩]) a' c' (putL_addB hj) hsx
    clear ih1 hsr hsx
    have hap:flat rnV (o++[y])++rnV ⟨xf,xt,tab,adr,cx,lo,hi⟩=flat rnV (o++[y]++[⟨xf,xt,tab,adr,cx,lo,hi⟩]):=flat1 rnV _ _
    have hl2:(o++[y]++[(⟨xf,xt,tab,adr,cx,lo,hi⟩:Rn)]).length=o.length+1+1:=by simp
    rw [hl2] at ih2
    dsimp only [rnV,rnA] at *
    all_goals (refine goR ?_;and_intros<;>(try exact trivial)<;>repeat (first|refine fun (Bk:Nat)=>?_|intro h))
    repeat' ((first|(apply J.regA (.q 0 <| .q 1 <| .q 2 <| .q 3 <| .q 4 <| .q 5 <| .q 6 <| .f 7 (.q 8 <| .q 9 <| .q 10 <| .e 11 <| .r 12 <| .q 13 <| .nil) 11 (.e 7 <| .q 8 <| .q 9 <| .q 10 <| .r 12 <| .q 13 <| .nil));exact Tryz.mixed;decide +kernel)|(apply G.fork)|(apply G.ix (i:=o.length);rfl;rfl;exact hz;omega;rfl)|(apply G.ld;rfl;exact LdV.flat rnV_len mm hy rfl;rfl)|(apply G.cBoth (g:=80) y ⟨xf,xt,tab,adr,cx,lo,hi⟩;rfl;rfl;rfl;exact fun w' hw'=>hbo w' hw'.below (famTab (N:=w.heap.size) hw' hym);intro z hz1 hz2;rw [hj];dsimp only [rnA])|(refine G.blkCut (l':=o++[y]) (o.length+1) rnV_len RAt.au hgc hcm (by omega) (List.take_of_length_le (by omega)) ?_)|(apply G.sliceL;rfl;rfl;rfl;rfl;rfl;rfl;rfl;rfl;intro Bs)|(apply G.apV;rfl;rfl;rfl;(repeat (first|exact RAt.head|apply RAt.tail));exact SrcV.blk (by exact mm) rfl rfl;exact hap;omega;omega;intro a2 c2)|(apply J.regQ;exact Tryz.mixed;decide +kernel)|(apply J.regL';exact Tryz.mixed;decide +kernel))<;>(refine goR ?_;and_intros<;>(try exact trivial)<;>repeat (first|refine fun (Bk:Nat)=>?_|intro h)))
    all_goals
     refine J.tfamTo (o:=o++[y]) (l:=l) (o++[y]++[⟨xf,xt,tab,adr,cx,lo,hi⟩]) mm mm (fun r hr=>(List.mem_append.1 hr).imp id fun hr=>by rw [List.mem_singleton.1 hr];exact hmem) ?_
     exact J.fin (ih2 a2 c2)
   ·have ih2:=fun z a' c' hz0 hz1=>ih1 (o++[z]) a' c' (putL_jnB hj hz0) (hsr z hz1)
    clear ih1 hsr hsx
    have hl2:∀ z:Rn,(o++[z]).length=o.length+1:=fun z=>by simp
    simp only [hl2] at ih2
    have r1:=fun z:Rn=>flat_set rnV_len (l:=o++[y]) (i:=o.length) (by omega) z
    have e1:∀ z:Rn,(o++[y]).set o.length z=o++[z]:=fun z=>by rw [List.set_append_right _ _ (Nat.le_refl _),Nat.sub_self];rfl
    simp only [e1] at r1
    rw [← Nat.zero_add (o.length*5)] at r1
    have l1:0+o.length*5+5≤(flat rnV (o++[y])).length:=by rw [flat_len rnV_len,hne];omega
    dsimp only [rnV,rnA] at *
    all_goals (refine goR ?_;and_intros<;>(try exact trivial)<;>repeat (first|refine fun (Bk:Nat)=>?_|intro h))
    repeat' ((first|(apply J.regA (.q 0 <| .q 1 <| .q 2 <| .q 3 <| .q 4 <| .q 5 <| .q 6 <| .f 7 (.q 8 <| .q 9 <| .q 10 <| .e 11 <| .r 12 <| .q 13 <| .nil) 11 (.e 7 <| .q 8 <| .q 9 <| .q 10 <| .r 12 <| .q 13 <| .nil));exact Tryz.mixed;decide +kernel)|(apply G.fork)|(apply G.ix (i:=o.length);rfl;rfl;exact hz;omega;rfl)|(apply G.ld;rfl;exact LdV.flat rnV_len mm hy rfl;rfl)|(apply G.cBoth (g:=80) y ⟨xf,xt,tab,adr,cx,lo,hi⟩;rfl;rfl;rfl;exact fun w' hw'=>hbo w' hw'.below (famTab (N:=w.heap.size) hw' hym);rintro ⟨zf,zt,ztab,zadr,zc,zlo,zhi⟩ hz1 hz2;rw [hj];dsimp only [rnA])|(apply G.sA (vs:=rnV ⟨zf,zt,ztab,zadr,zc,zlo,zhi⟩);rfl;rfl;rfl;(repeat (first|exact RAt.head|apply RAt.tail));rfl;rfl;exact l1;exact r1 _)|(apply J.regQ;exact Tryz.mixed;decide +kernel)|(apply J.regL';exact Tryz.mixed;decide +kernel))<;>(refine goR ?_;and_intros<;>(try exact trivial)<;>repeat (first|refine fun (Bk:Nat)=>?_|intro h)))
    all_goals
     refine J.blkCut (l':=o++[⟨zf,zt,ztab,zadr,zc,zlo,zhi⟩]) (o.length+1) rnV_len RAt.au hgc hcm (by rw [hl2];exact Nat.le_refl _) (List.take_of_length_le (by rw [hl2];exact Nat.le_refl _)) ?_
     refine J.famSub (o:=o++[y]) (o':=o) mm (fun r hr=>List.mem_append_left _ hr) ?_
     refine J.famAdd (r:=(⟨zf,zt,ztab,zadr,zc,zlo,zhi⟩:Rn)) (o:=o) mm mm ?_
     exact J.fin (ih2 ⟨zf,zt,ztab,zadr,zc,zlo,zhi⟩ _ _ (hz1 hj) hz2)
 ·obtain rfl:n=l.length:=by have:=h1.le;omega
  have h3:=h1.eq
  rw [List.take_length] at h3
  clear ih
  all_goals (refine go ?_;and_intros<;>(try exact trivial)<;>repeat (first|refine fun (Bk:Nat)=>?_|intro h))
  refine ret1 Tryz.func100 Tryz.results100 ?_
  exact fun w' hw'=>Sat.retU _ hw' h3 rfl h2
end Go.Proofs.YtcdgibkbbcekhaaGreatDoor
/-
 Contract: run.Join.
-/
namespace Go.Sl
open Go.RowKit Go.Proofs.YtcdgibkbbcekhaaGreatDoor
variable {C:Ctx}{st:List (Nat×Value)}{M:List Row}{k:List Item}
theorem J.ownSlR {A:Type}{f:A→List Value}{base n c E sz:Nat}{a:Option Addr}{l:List A}{M':List Row} (hf:∀ x,(f x).length=sz) (hp:Pick (.own base (.slice a n c) E sz n (flat f l)) M M') (hn:l.length=n) (h:J C st (slRow C.w0.heap.size a sz (l.map f)::M') k):J C st M k:=.mk fun ac w hfit hd hw=>by
 have hw2:=hw.perm hp.perm
 have h1:=SlAt.ofOwn hf (hw2.hold _ (.head _)) hn
 refine h.go ac w hfit hd ((hw2.forget (List.sublist_cons_self _ _)).addSl h1 fun p hp2 r hr hl=>?_)
 subst hp2
 exact ((List.pairwise_cons.1 hw2.apart).1 r hr p.block).1 rfl (Row.lock_sup hl)
theorem G.ownNz {all rest:List Oper}{base n c E sz:Nat}{a:Option Addr}{xs:List Value} (hm:Row.own base (.slice a n c) E sz n xs∈M) (h:(0 < n→∃ b off,a=some ⟨b,off,none⟩)→G .seq C all st M rest k):G .seq C all st M rest k :=
 ⟨fun ac w hf hd hw=>by
  refine (h fun h0=>?_).go ac w hf hd hw
  obtain ⟨hl,hv⟩:=hw.hold _ hm
  rcases hv with ⟨hv,h1⟩|⟨g,cap,cur,hv,_⟩
  ·omega
  ·cases hv;exact ⟨g,0,rfl⟩⟩
theorem SrcV.own {A:Type}{f:A→List Value}{base sz n c E:Nat}{l:List A}{a:Option Addr} (hf:∀ x,(f x).length=sz) (h1:∀ x,(f x).all (·.oneCell')=true) (hn:l.length=n) (h0:0 < n→∃ b off,a=some ⟨b,off,none⟩) (hm:Row.own base (.slice a n c) E sz n (Sl.flat f l)∈M):SrcV C M a n sz (Sl.flat f l) where
 len:=by rw [flat_len hf,hn]
 one:=by
  refine List.all_eq_true.2 fun v hv=>?_
  obtain ⟨cs,hcs,hv⟩:=List.mem_flatten.1 hv
  obtain ⟨x,_,rfl⟩:=List.mem_map.1 hcs
  exact List.all_eq_true.1 (h1 x) v hv
 nil:=fun e=>by
  rcases Nat.eq_zero_or_pos n with h|h
  ·exact h
  ·obtain ⟨b,off,h2⟩:=h0 h
   rw [h2] at e;cases e
 go:=fun ad ha w hw j u hj=>by
  subst ha
  obtain ⟨h3,h4,h5⟩:=flat_back hf hj
  obtain ⟨b,off,h6,h7⟩:=(SlAt.ofOwn hf (hw.hold _ hm) hn) (by rw [List.length_map];exact Nat.lt_of_le_of_lt (Nat.zero_le _) h4)
  cases h6
  have:=(h7 (j / sz) _ (by rw [List.getElem?_map,List.getElem?_eq_getElem h4];rfl)).2 (j % sz) u h5
  rw [addr_add,addO_eq,← this]
  congr 2
  have:=Nat.div_add_mod j sz
  rw [Nat.mul_comm] at this
  omega
end Go.Sl
namespace Go.Proofs.YtcdgibkbbcekhaaGreatDoor
open Go.RowKit Go.Sl Go.Num
theorem RetU.nil {L0:List Rn}{P:List Rn→Prop} (v:Option Addr→Nat→Nat→Value) {w w':World} (hb:Below w.heap.size w w') (hP:P []):RetU L0 P v w (.returned (v none 0 0)) w':=⟨[],none,0,hP,rfl,⟨fun h=>absurd h (Nat.lt_irrefl _),fun r hr=>by cases hr⟩,⟨fun p hp=>(by cases hp),Nat.le_refl _⟩,srcR.nil,hb⟩
theorem headD_at {l:List Rn} (h:0 < l.length):headD' l=l[0]:=by cases l with
 | nil=>exact absurd h (Nat.lt_irrefl _)
 | cons r t=>rfl
theorem lastD_at {l:List Rn} (h:0 < l.length):lastD l=l[l.length-1]:=by
 rw [lastD,List.getLast?_eq_getElem?,List.getElem?_eq_getElem (by omega)];rfl
set_option maxHeartbeats 4000000 in
theorem vJoin_holds (a:Option Addr) (la:List Rn) (ca:Nat) (b:Option Addr) (lb:List Rn) (cb:Nat) (w:World) (hA:RunsAt w a la) (hB:RunsAt w b lb) (hta:∀ r∈la,r.tab.length≤64) (htb:∀ r∈lb,r.tab.length≤64) (hla:la.length≤400) (hlb:lb.length≤400) :
  Calls Tryz.prog 34 #[.slice a la.length ca,.slice b lb.length cb] w (RetU [] (fun L=>L.map rbare=(joinE la lb).1.map rbare) (fun a' n c'=>.tuple #[.slice a' n c',.int .i64 (joinE la lb).2]) w):=by
 have hca:=fun w' (hb:Below w.heap.size w w')=>vRuns_holds a la ca w' (hA.below hb) hta
 have hcb:=fun w' (hb:Below w.heap.size w w')=>vRuns_holds b lb cb w' (hB.below hb) htb
 refine enterA [(0,.slice a la.length ca),(1,.slice b lb.length cb)] Tryz.func34 Tryz.ntmps34 ?_
 all_goals (refine go ?_;and_intros<;>(try exact trivial)<;>repeat (first|refine fun (Bk:Nat)=>?_|intro h))
 repeat' ((first|(apply G.sliceL;rfl;rfl;rfl;rfl;rfl;rfl;rfl;rfl;intro Bs))<;>(refine go ?_;and_intros<;>(try exact trivial)<;>repeat (first|refine fun (Bk:Nat)=>?_|intro h)))
 refine J.loop (c:=_) (0:Nat) (fun s=>2-s) (fun s=>[(0,.slice a la.length ca),(1,.slice b lb.length cb),(12,.slice (some ⟨Bs,0,none⟩) 2 2),(13,.int .i64 2),(14,.int .i64 s)]) (fun s=>[.blk Bs 43 [.slice a la.length ca,.slice b lb.length cb] 2]) (fun s=>s≤2∧(1≤s→runsErr la=0)∧(2≤s→runsErr lb=0)) ?_ sbT sbL ?_
 ·exact ⟨Nat.zero_le _,fun h=>absurd h (by decide),fun h=>absurd h (by decide)⟩
 intro n ⟨h1,h2,h3⟩ ih
 by_cases hn:n < 2
 ·rcases n with _|_|n
  ·by_cases hE:runsErr la=0
   ·rw [hE] at hca
    all_goals (refine go ?_;and_intros<;>(try exact trivial)<;>repeat (first|refine fun (Bk:Nat)=>?_|intro h))
    repeat' ((first|(apply G.ix (i:=0);rfl;rfl;exact rfl;omega;rfl)|(refine G.cvb hca ?_))<;>(refine go ?_;and_intros<;>(try exact trivial)<;>repeat (first|refine fun (Bk:Nat)=>?_|intro h)))
    exact J.fin (ih 1 ⟨by decide,fun _=>hE,fun h=>absurd h (by decide)⟩ (by decide))
   ·have hJ:joinE la lb=([],runsErr la):=by rw [joinE,if_pos hE]
    clear ih
    rw [hJ]
    generalize runsErr la=E at *
    all_goals (refine go ?_;and_intros<;>(try exact trivial)<;>repeat (first|refine fun (Bk:Nat)=>?_|intro h))
    repeat' ((first|(apply G.ix (i:=0);rfl;rfl;exact rfl;omega;rfl)|(refine G.cvb hca ?_))<;>(refine go ?_;and_intros<;>(try exact trivial)<;>repeat (first|refine fun (Bk:Nat)=>?_|intro h)))
    refine ret2 Tryz.func34 Tryz.results34 ?_
    exact fun w' hw'=>RetU.nil (fun a' n c'=>.tuple #[.slice a' n c',.int .i64 E]) hw'.below rfl
  ·by_cases hE:runsErr lb=0
   ·rw [hE] at hcb
    all_goals (refine go ?_;and_intros<;>(try exact trivial)<;>repeat (first|refine fun (Bk:Nat)=>?_|intro h))
    repeat' ((first|(apply G.ix (i:=1);rfl;rfl;exact rfl;omega;rfl)|(refine G.cvb hcb ?_))<;>(refine go ?_;and_intros<;>(try exact trivial)<;>repeat (first|refine fun (Bk:Nat)=>?_|intro h)))
    exact J.fin (ih 2 ⟨by decide,fun _=>h2 (by decide),fun _=>hE⟩ (by decide))
   ·have hJ:joinE la lb=([],runsErr lb):=by rw [joinE,if_neg (by rw [h2 (by decide)];decide),if_pos hE]
    clear ih
    rw [hJ]
    generalize runsErr lb=E at *
    all_goals (refine go ?_;and_intros<;>(try exact trivial)<;>repeat (first|refine fun (Bk:Nat)=>?_|intro h))
    repeat' ((first|(apply G.ix (i:=1);rfl;rfl;exact rfl;omega;rfl)|(refine G.cvb hcb ?_))<;>(refine go ?_;and_intros<;>(try exact trivial)<;>repeat (first|refine fun (Bk:Nat)=>?_|intro h)))
    refine ret2 Tryz.func34 Tryz.results34 ?_
    exact fun w' hw'=>RetU.nil (fun a' n c'=>.tuple #[.slice a' n c',.int .i64 E]) hw'.below rfl
  ·omega
 obtain rfl:n=2:=by omega
 have hEa:=h2 (by decide)
 have hEb:=h3 (by decide)
 clear ih h1 h2 h3 hn hca hcb
 have cpa:=fun M w' (hw':Sat w M w')=>copied_holds a la ca w w' M hw' hA (by omega) fun r hr=>Nat.le_trans (hta r hr) (by decide)
 have cpb:=fun M w' (hw':Sat w M w')=>copied_holds b lb cb w w' M hw' hB (by omega) fun r hr=>Nat.le_trans (htb r hr) (by decide)
 obtain ⟨oa',_,ca3⟩:=runs_ok hEa
 obtain ⟨ob',_,cb3⟩:=runs_ok hEb
 all_goals (refine go ?_;and_intros<;>(try exact trivial)<;>repeat (first|refine fun (Bk:Nat)=>?_|intro h))
 repeat' ((first|(refine G.cR (g:=98) (vs:=[.slice a la.length ca]) (v:=fun x:{ x:List Rn×Option Addr×Nat // x.1.map rbare=la.map rbare∧newT w.heap.size x.1 }=>.slice x.1.2.1 la.length x.1.2.2) (Mn:=fun x=>[.own 0 (.slice x.1.2.1 la.length x.1.2.2) 90 5 la.length (flat rnV x.1.1),tfam w.heap.size x.1.1]) rfl rfl (cpa _) ?_;rintro ⟨⟨LA,a1,c1⟩,hA1,hA2⟩;dsimp only at hA1 hA2 ⊢)|(refine G.cR (g:=98) (vs:=[.slice b lb.length cb]) (v:=fun x:{ x:List Rn×Option Addr×Nat // x.1.map rbare=lb.map rbare∧newT w.heap.size x.1 }=>.slice x.1.2.1 lb.length x.1.2.2) (Mn:=fun x=>[.own 0 (.slice x.1.2.1 lb.length x.1.2.2) 90 5 lb.length (flat rnV x.1.1),tfam w.heap.size x.1.1]) rfl rfl (cpb _) ?_;rintro ⟨⟨LB,b1,d1⟩,hB1,hB2⟩;dsimp only at hB1 hB2 ⊢))<;>(refine go ?_;and_intros<;>(try exact trivial)<;>repeat (first|refine fun (Bk:Nat)=>?_|intro h)))
 dsimp only [List.cons_append,List.nil_append]
 refine G.ownNz (a:=b1) (n:=lb.length) (c:=d1) mm ?_
 intro hnz
 have lA:LA.length=la.length:=by rw [← List.length_map (f:=rbare),hA1,List.length_map]
 have lB:LB.length=lb.length:=by rw [← List.length_map (f:=rbare),hB1,List.length_map]
 have hap:flat rnV LA++flat rnV LB=flat rnV (LA++LB):=(flat_append ..).symm
 have lAB:(LA++LB).length=la.length+lb.length:=by rw [List.length_append,lA,lB]
 apply G.apV;rfl;rfl;rfl;(repeat (first|exact RAt.head|apply RAt.tail));exact SrcV.own rnV_len rnV_one lB hnz (by exact mm);exact hap;omega;omega;intro a2 c2
 all_goals (refine goG ?_;and_intros<;>(try exact trivial)<;>repeat (first|refine fun (Bk:Nat)=>?_|intro h))
 repeat' ((first|fail)<;>(refine goG ?_;and_intros<;>(try exact trivial)<;>repeat (first|refine fun (Bk:Nat)=>?_|intro h)))
 refine J.tfamTo (o:=LA) (l:=LB) (LA++LB) mm mm (fun r hr=>List.mem_append.1 hr) ?_
 refine J.ownSlR (a:=a2) (c:=c2) (n:=la.length+lb.length) (l:=LA++LB) rnV_len (by (repeat (first|exact Pick.head|apply Pick.tail))) lAB ?_
 have hall:(LA++LB).map rbare=(la++lb).map rbare:=by rw [List.map_append,hA1,hB1,List.map_append]
 have hjn:(joinL ((LA++LB).map rbare)).length≤800:=by
  have:=joinL_len ((LA++LB).map rbare)
  rw [List.length_map,lAB] at this;omega
 have hnew:srcR w.heap.size [] (LA++LB):=(hA2.app hB2).src
 have hCA:∀ f t,Cn f la t→Cn f LA t:=fun f t h=>cn_bare.1 (by rw [hA1];exact cn_bare.2 h)
 have hCB:∀ f t,Cn f lb t→Cn f LB t:=fun f t h=>cn_bare.1 (by rw [hB1];exact cn_bare.2 h)
 have hOk:∀ r∈LA++LB,OkR r:=fun r hr=>by
  have h1:=List.mem_map_of_mem (f:=rbare) hr
  rw [hall] at h1
  obtain ⟨r',h2,h3⟩:=List.mem_map.1 h1
  exact ok_bare.1 (h3 ▸ ok_bare.2 ((List.mem_append.1 h2).elim (oa' r') (ob' r')))
 clear hta htb cpa cpb hnz hap hA2 hB2
 have hjd:=fun f t hC w' hR=>joined_holds a2 (LA++LB) c2 f t w' hR hC hOk (by omega)
 rw [lAB] at hjd
 change J _ _ (slRow w.heap.size a2 5 _::tfam w.heap.size (LA++LB)::_) _
 have hbig:¬ 2000 < (joinL (la++lb)).length:=by
  have:=joinL_len (la++lb)
  rw [List.length_append] at this;omega
 have hP:∀ L:List Rn,L.map rbare=joinL ((LA++LB).map rbare)→L.map rbare=(joinL (la++lb)).map rbare:=fun L h=>by rw [h,hall,joinL_bare]
 by_cases h0a:la.length=0
 ·have hJ:joinE la lb=(joinL (la++lb),0):=by
   rw [joinE,if_neg (by rw [hEa];decide),if_neg (by rw [hEb];decide),if_neg (fun h=>h.1 h0a),if_neg (fun h=>h.1 h0a),if_neg hbig]
  obtain ⟨f,t,hC⟩:∃ f t,Cn f (LA++LB) t:=by
   obtain rfl:=List.length_eq_zero_iff.1 (lA.trans h0a)
   by_cases h0b:lb=[]
   ·subst h0b
    obtain rfl:=List.length_eq_zero_iff.1 lB
    exact ⟨0,0,rfl⟩
   ·exact ⟨_,_,hCB _ _ (cb3 h0b).1⟩
  rw [hJ]
  all_goals (refine go ?_;and_intros<;>(try exact trivial)<;>repeat (first|refine fun (Bk:Nat)=>?_|intro h))
  repeat' ((first|(refine G.cU (g:=100) (fun a' n c'=>.slice a' n c') (fun L=>L.map rbare=joinL ((LA++LB).map rbare)) (LA++LB) (.inr mm) rfl rfl (fun w' hw'=>hjd f t hC w' (RunsAt.of (N:=w.heap.size) hw')) ?_;intro L a3 c3 hL ⟨hL1,hL2⟩ hL3;have hLl:L.length≤800:=by rw [← List.length_map (f:=rbare),hL];exact hjn)|fail)<;>(refine go ?_;and_intros<;>(try exact trivial)<;>repeat (first|refine fun (Bk:Nat)=>?_|intro h)))
  refine ret2 Tryz.func34 Tryz.results34 ?_
  exact fun w' hw'=>Sat.retS (fun a' n c'=>.tuple #[.slice a' n c',.int .i64 0]) hw' (hP L hL) rfl hL2 (hL3.comp hnew)
 by_cases h0b:lb.length=0
 ·have hJ:joinE la lb=(joinL (la++lb),0):=by
   rw [joinE,if_neg (by rw [hEa];decide),if_neg (by rw [hEb];decide),if_neg (fun h=>h.2.1 h0b),if_neg (fun h=>h.2.1 h0b),if_neg hbig]
  obtain ⟨f,t,hC⟩:∃ f t,Cn f (LA++LB) t:=by
   obtain rfl:=List.length_eq_zero_iff.1 (lB.trans h0b)
   rw [List.append_nil]
   exact ⟨_,_,hCA _ _ (ca3 (fun e=>h0a (by rw [e];rfl))).1⟩
  rw [hJ]
  all_goals (refine go ?_;and_intros<;>(try exact trivial)<;>repeat (first|refine fun (Bk:Nat)=>?_|intro h))
  repeat' ((first|(refine G.cU (g:=100) (fun a' n c'=>.slice a' n c') (fun L=>L.map rbare=joinL ((LA++LB).map rbare)) (LA++LB) (.inr mm) rfl rfl (fun w' hw'=>hjd f t hC w' (RunsAt.of (N:=w.heap.size) hw')) ?_;intro L a3 c3 hL ⟨hL1,hL2⟩ hL3;have hLl:L.length≤800:=by rw [← List.length_map (f:=rbare),hL];exact hjn)|fail)<;>(refine go ?_;and_intros<;>(try exact trivial)<;>repeat (first|refine fun (Bk:Nat)=>?_|intro h)))
  refine ret2 Tryz.func34 Tryz.results34 ?_
  exact fun w' hw'=>Sat.retS (fun a' n c'=>.tuple #[.slice a' n c',.int .i64 0]) hw' (hP L hL) rfl hL2 (hL3.comp hnew)
 obtain ⟨ba,oa,rfl,hra⟩:=SlAt.all hA.1 (by omega)
 obtain ⟨bb,ob,rfl,hrb⟩:=SlAt.all hB.1 (by omega)
 have ra0:=hra 0 (by omega)
 have ra1:=hra (la.length-1) (by omega)
 have rb0:=hrb 0 (by omega)
 have rb1:=hrb (lb.length-1) (by omega)
 have hza:(la.length:Int)-1=((la.length-1:Nat):Int):=by omega
 have hzb:(lb.length:Int)-1=((lb.length-1:Nat):Int):=by omega
 have g1:=ca3 (fun e=>h0a (by rw [e];rfl))
 have g2:=cb3 (fun e=>h0b (by rw [e];rfl))
 have i1:=(oa' _ (List.getElem_mem (l:=la) (n:=0) (by omega))).rng
 have i2:=(oa' _ (List.getElem_mem (l:=la) (n:=la.length-1) (by omega))).rng
 have i3:=(ob' _ (List.getElem_mem (l:=lb) (n:=0) (by omega))).rng
 have i4:=(ob' _ (List.getElem_mem (l:=lb) (n:=lb.length-1) (by omega))).rng
 have hJ0:joinE la lb=if (lastD la).to_≠(headD' lb).from_ then ([],1) else if 40000 < (lastD lb).to_-(headD' la).from_ then ([],2) else (joinL (la++lb),0):=by
  rw [joinE,if_neg (by rw [hEa];decide),if_neg (by rw [hEb];decide),if_neg hbig]
  by_cases h1:(lastD la).to_≠(headD' lb).from_
  ·rw [if_pos ⟨h0a,h0b,h1⟩,if_pos h1]
  ·rw [if_neg (fun h=>h1 h.2.2),if_neg h1]
   by_cases h2:40000 < (lastD lb).to_-(headD' la).from_
   ·rw [if_pos ⟨h0a,h0b,h2⟩,if_pos h2]
   ·rw [if_neg (fun h=>h2 h.2.2),if_neg h2]
 rw [lastD_at (by omega),headD_at (by omega),lastD_at (l:=lb) (by omega),headD_at (l:=la) (by omega)] at hJ0
 rw [lastD_at (by omega),headD_at (by omega)] at g1 g2
 clear hra hrb ca3 cb3 hA hB hEa hEb hbig
 generalize la[0]=x1 at *
 generalize la[la.length-1]=x2 at *
 generalize lb[0]=x3 at *
 generalize lb[lb.length-1]=x4 at *
 obtain ⟨f1,t1,tb1,ad1,cp1,lo1,hi1⟩:=x1
 obtain ⟨f2,t2,tb2,ad2,cp2,lo2,hi2⟩:=x2
 obtain ⟨f3,t3,tb3,ad3,cp3,lo3,hi3⟩:=x3
 obtain ⟨f4,t4,tb4,ad4,cp4,lo4,hi4⟩:=x4
 dsimp only [rnV] at *
 by_cases h1:t2≠f3
 ·rw [if_pos h1] at hJ0
  rw [hJ0]
  all_goals (refine go ?_;and_intros<;>(try exact trivial)<;>repeat (first|refine fun (Bk:Nat)=>?_|intro h))
  repeat' ((first|(apply G.ix (i:=la.length-1);rfl;rfl;exact hza;omega;rfl)|(apply G.ix (i:=lb.length-1);rfl;rfl;exact hzb;omega;rfl)|(apply G.ix (i:=0);rfl;rfl;exact rfl;omega;rfl))<;>(refine go ?_;and_intros<;>(try exact trivial)<;>repeat (first|refine fun (Bk:Nat)=>?_|intro h)))
  refine ret2 Tryz.func34 Tryz.results34 ?_
  exact fun w' hw'=>RetU.nil (fun a' n c'=>.tuple #[.slice a' n c',.int .i64 1]) hw'.below rfl
 rw [if_neg h1] at hJ0
 rw [Decidable.not_not] at h1
 by_cases h2:40000 < t4-f1
 ·rw [if_pos h2] at hJ0
  rw [hJ0]
  all_goals (refine go ?_;and_intros<;>(try exact trivial)<;>repeat (first|refine fun (Bk:Nat)=>?_|intro h))
  repeat' ((first|(apply G.ix (i:=la.length-1);rfl;rfl;exact hza;omega;rfl)|(apply G.ix (i:=lb.length-1);rfl;rfl;exact hzb;omega;rfl)|(apply G.ix (i:=0);rfl;rfl;exact rfl;omega;rfl))<;>(refine go ?_;and_intros<;>(try exact trivial)<;>repeat (first|refine fun (Bk:Nat)=>?_|intro h)))
  refine ret2 Tryz.func34 Tryz.results34 ?_
  exact fun w' hw'=>RetU.nil (fun a' n c'=>.tuple #[.slice a' n c',.int .i64 2]) hw'.below rfl
 rw [if_neg h2] at hJ0
 rw [hJ0]
 obtain ⟨f,t,hC⟩:∃ f t,Cn f (LA++LB) t:=⟨f1,t4,Cn.app.2 ⟨t2,hCA _ _ g1.1,h1 ▸ hCB _ _ g2.1⟩⟩
 all_goals (refine go ?_;and_intros<;>(try exact trivial)<;>repeat (first|refine fun (Bk:Nat)=>?_|intro h))
 repeat' ((first|(refine G.cU (g:=100) (fun a' n c'=>.slice a' n c') (fun L=>L.map rbare=joinL ((LA++LB).map rbare)) (LA++LB) (.inr mm) rfl rfl (fun w' hw'=>hjd f t hC w' (RunsAt.of (N:=w.heap.size) hw')) ?_;intro L a3 c3 hL ⟨hL1,hL2⟩ hL3;have hLl:L.length≤800:=by rw [← List.length_map (f:=rbare),hL];exact hjn)|(apply G.ix (i:=la.length-1);rfl;rfl;exact hza;omega;rfl)|(apply G.ix (i:=lb.length-1);rfl;rfl;exact hzb;omega;rfl)|(apply G.ix (i:=0);rfl;rfl;exact rfl;omega;rfl))<;>(refine go ?_;and_intros<;>(try exact trivial)<;>repeat (first|refine fun (Bk:Nat)=>?_|intro h)))
 refine ret2 Tryz.func34 Tryz.results34 ?_
 exact fun w' hw'=>Sat.retS (fun a' n c'=>.tuple #[.slice a' n c',.int .i64 0]) hw' (hP L hL) rfl hL2 (hL3.comp hnew)
end Go.Proofs.YtcdgibkbbcekhaaGreatDoor
/-
 Contracts of the specification of runs: raw,joinable,put.
-/
namespace Go.Proofs.YtcdgibkbbcekhaaGreatDoor
open Go.RowKit Go.Sl Go.Num
theorem rRaw_holds (r:Rn) (w:World):Calls Tryz.prog 172 #[rnA r] w fun e w'=>e=.returned (.bool (decide (r.tab.length=1)))∧Below w.heap.size w w':=by
 obtain ⟨f,t,tab,adr,cap,lo,hi⟩:=r
 dsimp only [rnA]
 refine enterA [(0,.agg #[.int .i64 f,.int .i64 t,.slice adr tab.length cap,.int .i64 lo,.int .i64 hi])] Tryz.func172 Tryz.ntmps172 ?_
 all_goals (refine go ?_;and_intros<;>(try exact trivial)<;>repeat (first|refine fun (Bk:Nat)=>?_|intro h))
 all_goals refine ret1b Tryz.func172 Tryz.results172 ?_
 all_goals exact ret_bool (by first|(rw [decide_eq_true (by omega)])|(rw [decide_eq_false (by omega)]))
theorem rMk_holds (f t s:Int) (w:World) (h1:0≤f∧f≤1402560) (h2:0≤t∧t≤1402560) :
  Calls Tryz.prog 87 #[.int .i64 f,.int .i64 t,.int .i64 s] w fun e w'=>∃ a' c',e=.returned (.agg #[.int .i64 f,.int .i64 t,.slice a' 1 c',.int .i64 0,.int .i64 0])∧SlAt w' a' 2 ([(s,t-f)].map hoV)∧(∀ p,a'=some p→w.heap.size≤p.block)∧Below w.heap.size w w':=by
 refine enterA [(0,.int .i64 f),(1,.int .i64 t),(2,.int .i64 s)] Tryz.func87 Tryz.ntmps87 ?_
 all_goals (refine go ?_;and_intros<;>(try exact trivial)<;>repeat (first|refine fun (Bk:Nat)=>?_|intro h))
 repeat' ((first|(apply G.sliceL;rfl;rfl;rfl;rfl;rfl;rfl;rfl;rfl;intro Bs))<;>(refine go ?_;and_intros<;>(try exact trivial)<;>repeat (first|refine fun (Bk:Nat)=>?_|intro h)))
 (refine ret1 Tryz.func87 Tryz.results87 ?_;intro w' hw)
 refine ⟨some ⟨Bs,0,none⟩,1,rfl,SlAt.ofBlk (f:=hoV) (sz:=2) (l:=[(s,t-f)]) (fun _=>rfl) hw mm,fun p hp=>?_,hw.below⟩
 cases hp
 exact ((hw.old (.blk Bs 92 (flat hoV [(s,t-f)]) _) mm).2 _ rfl).1
theorem joinable_holds (a b:Rn) (w:World) (hA:TabAt w a) (hB:TabAt w b) (hra:∀ w',Calls Tryz.prog 172 #[rnA a] w' fun e w2=>e=.returned (.bool (decide (a.tab.length=1)))∧Below w'.heap.size w' w2:=rRaw_holds a) (hrb:∀ w',Calls Tryz.prog 172 #[rnA b] w' fun e w2=>e=.returned (.bool (decide (b.tab.length=1)))∧Below w'.heap.size w' w2:=rRaw_holds b)
  (hga:∀ w',Calls Tryz.prog 173 #[rnA a] w' fun e w2=>e=.returned (.bool (decide (a.tab.length=0)))∧Below w'.heap.size w' w2:=rGap_holds a) (hgb:∀ w',Calls Tryz.prog 173 #[rnA b] w' fun e w2=>e=.returned (.bool (decide (b.tab.length=0)))∧Below w'.heap.size w' w2:=rGap_holds b) :
  Calls Tryz.prog 141 #[rnA a,rnA b] w fun e w'=>e=.returned (.bool (jblB a b))∧Below w.heap.size w w':=by
 by_cases hr:a.tab.length=1∧b.tab.length=1
 ·have hj:jblB a b=decide (stg a=stg b):=by rw [jblB,if_pos hr]
  rw [hj]
  have hsa:∃ x y,a.tab=[(x,y)]:=by
   match h:a.tab,hr.1 with
   | [(x,y)],_=>exact ⟨x,y,rfl⟩
  have hsb:∃ x y,b.tab=[(x,y)]:=by
   match h:b.tab,hr.2 with
   | [(x,y)],_=>exact ⟨x,y,rfl⟩
  obtain ⟨s,n,ha⟩:=hsa
  obtain ⟨s2,n2,hb⟩:=hsb
  rw [stg,stg,ha,hb]
  show Calls _ _ _ _ fun e w'=>e=.returned (.bool (decide (s=s2)))∧Below w.heap.size w w'
  obtain ⟨f,t,tab,adr,cap,lo,hi⟩:=a
  obtain ⟨f2,t2,tab2,adr2,cap2,lo2,hi2⟩:=b
  dsimp only at ha hb
  subst ha hb
  obtain ⟨b1,o1,rfl,r1⟩:=SlAt.all hA (Nat.succ_pos _)
  obtain ⟨b2,o2,rfl,r2⟩:=SlAt.all hB (Nat.succ_pos _)
  have r1:=r1 0 (Nat.succ_pos _)
  have r2:=r2 0 (Nat.succ_pos _)
  dsimp only [rnA,hoV,List.getElem_cons_zero,List.length_cons,List.length_nil,List.map_cons,List.map_nil] at *
  rw [decide_eq_true (by rfl)] at hra hrb
  refine enterA [(0,.agg #[.int .i64 f,.int .i64 t,.slice (some ⟨b1,o1,none⟩) 1 cap,.int .i64 lo,.int .i64 hi]),(1,.agg #[.int .i64 f2,.int .i64 t2,.slice (some ⟨b2,o2,none⟩) 1 cap2,.int .i64 lo2,.int .i64 hi2])] Tryz.func141 Tryz.ntmps141 ?_
  all_goals (refine go ?_;and_intros<;>(try exact trivial)<;>repeat (first|refine fun (Bk:Nat)=>?_|intro h))
  repeat' ((first|(apply G.cV (g:=172) (vs:=[.agg #[.int .i64 f,.int .i64 t,.slice (some ⟨b1,o1,none⟩) 1 cap,.int .i64 lo,.int .i64 hi]]);rfl;rfl;exact fun w' _=>hra w')|(apply G.cV (g:=172) (vs:=[.agg #[.int .i64 f2,.int .i64 t2,.slice (some ⟨b2,o2,none⟩) 1 cap2,.int .i64 lo2,.int .i64 hi2]]);rfl;rfl;exact fun w' _=>hrb w'))<;>(refine go ?_;and_intros<;>(try exact trivial)<;>repeat (first|refine fun (Bk:Nat)=>?_|intro h)))
  all_goals refine ret1b Tryz.func141 Tryz.results141 ?_
  all_goals exact ret_bool (by first|(rw [decide_eq_true (by omega)])|(rw [decide_eq_false (by omega)]))
 have hj:jblB a b=decide (a.tab.length=0∧b.tab.length=0∧a.lo=b.lo∧a.hi=b.hi):=by rw [jblB,if_neg hr]
 rw [hj]
 clear hj hA hB
 obtain ⟨f,t,tab,adr,cap,lo,hi⟩:=a
 obtain ⟨f2,t2,tab2,adr2,cap2,lo2,hi2⟩:=b
 dsimp only [rnA] at *
 by_cases g1:tab.length=0
 ·rw [decide_eq_true g1] at hga
  rw [decide_eq_false (by omega)] at hra
  by_cases g2:tab2.length=0
  ·rw [decide_eq_true g2] at hgb
   rw [decide_eq_false (by omega)] at hrb
   by_cases g3:lo=lo2
   ·by_cases g4:hi=hi2
    ·rw [decide_eq_true ⟨g1,g2,g3,g4⟩]
     clear hr
     refine enterA [(0,.agg #[.int .i64 f,.int .i64 t,.slice adr tab.length cap,.int .i64 lo,.int .i64 hi]),(1,.agg #[.int .i64 f2,.int .i64 t2,.slice adr2 tab2.length cap2,.int .i64 lo2,.int .i64 hi2])] Tryz.func141 Tryz.ntmps141 ?_
     all_goals (refine go ?_;and_intros<;>(try exact trivial)<;>repeat (first|refine fun (Bk:Nat)=>?_|intro h))
     repeat' ((first|(apply G.cV (g:=172) (vs:=[.agg #[.int .i64 f,.int .i64 t,.slice adr tab.length cap,.int .i64 lo,.int .i64 hi]]);rfl;rfl;exact fun w' _=>hra w')|(apply G.cV (g:=172) (vs:=[.agg #[.int .i64 f2,.int .i64 t2,.slice adr2 tab2.length cap2,.int .i64 lo2,.int .i64 hi2]]);rfl;rfl;exact fun w' _=>hrb w')|(apply G.cV (g:=173) (vs:=[.agg #[.int .i64 f,.int .i64 t,.slice adr tab.length cap,.int .i64 lo,.int .i64 hi]]);rfl;rfl;exact fun w' _=>hga w')|(apply G.cV (g:=173) (vs:=[.agg #[.int .i64 f2,.int .i64 t2,.slice adr2 tab2.length cap2,.int .i64 lo2,.int .i64 hi2]]);rfl;rfl;exact fun w' _=>hgb w'))<;>(refine go ?_;and_intros<;>(try exact trivial)<;>repeat (first|refine fun (Bk:Nat)=>?_|intro h)))
     all_goals refine ret1b Tryz.func141 Tryz.results141 ?_
     all_goals rfl
    ·rw [decide_eq_false (fun h=>g4 h.2.2.2)]
     clear hr
     refine enterA [(0,.agg #[.int .i64 f,.int .i64 t,.slice adr tab.length cap,.int .i64 lo,.int .i64 hi]),(1,.agg #[.int .i64 f2,.int .i64 t2,.slice adr2 tab2.length cap2,.int .i64 lo2,.int .i64 hi2])] Tryz.func141 Tryz.ntmps141 ?_
     all_goals (refine go ?_;and_intros<;>(try exact trivial)<;>repeat (first|refine fun (Bk:Nat)=>?_|intro h))
     repeat' ((first|(apply G.cV (g:=172) (vs:=[.agg #[.int .i64 f,.int .i64 t,.slice adr tab.length cap,.int .i64 lo,.int .i64 hi]]);rfl;rfl;exact fun w' _=>hra w')|(apply G.cV (g:=172) (vs:=[.agg #[.int .i64 f2,.int .i64 t2,.slice adr2 tab2.length cap2,.int .i64 lo2,.int .i64 hi2]]);rfl;rfl;exact fun w' _=>hrb w')|(apply G.cV (g:=173) (vs:=[.agg #[.int .i64 f,.int .i64 t,.slice adr tab.length cap,.int .i64 lo,.int .i64 hi]]);rfl;rfl;exact fun w' _=>hga w')|(apply G.cV (g:=173) (vs:=[.agg #[.int .i64 f2,.int .i64 t2,.slice adr2 tab2.length cap2,.int .i64 lo2,.int .i64 hi2]]);rfl;rfl;exact fun w' _=>hgb w'))<;>(refine go ?_;and_intros<;>(try exact trivial)<;>repeat (first|refine fun (Bk:Nat)=>?_|intro h)))
     all_goals refine ret1b Tryz.func141 Tryz.results141 ?_
     all_goals rfl
   ·rw [decide_eq_false (fun h=>g3 h.2.2.1)]
    clear hr
    refine enterA [(0,.agg #[.int .i64 f,.int .i64 t,.slice adr tab.length cap,.int .i64 lo,.int .i64 hi]),(1,.agg #[.int .i64 f2,.int .i64 t2,.slice adr2 tab2.length cap2,.int .i64 lo2,.int .i64 hi2])] Tryz.func141 Tryz.ntmps141 ?_
    all_goals (refine go ?_;and_intros<;>(try exact trivial)<;>repeat (first|refine fun (Bk:Nat)=>?_|intro h))
    repeat' ((first|(apply G.cV (g:=172) (vs:=[.agg #[.int .i64 f,.int .i64 t,.slice adr tab.length cap,.int .i64 lo,.int .i64 hi]]);rfl;rfl;exact fun w' _=>hra w')|(apply G.cV (g:=172) (vs:=[.agg #[.int .i64 f2,.int .i64 t2,.slice adr2 tab2.length cap2,.int .i64 lo2,.int .i64 hi2]]);rfl;rfl;exact fun w' _=>hrb w')|(apply G.cV (g:=173) (vs:=[.agg #[.int .i64 f,.int .i64 t,.slice adr tab.length cap,.int .i64 lo,.int .i64 hi]]);rfl;rfl;exact fun w' _=>hga w')|(apply G.cV (g:=173) (vs:=[.agg #[.int .i64 f2,.int .i64 t2,.slice adr2 tab2.length cap2,.int .i64 lo2,.int .i64 hi2]]);rfl;rfl;exact fun w' _=>hgb w'))<;>(refine go ?_;and_intros<;>(try exact trivial)<;>repeat (first|refine fun (Bk:Nat)=>?_|intro h)))
    all_goals refine ret1b Tryz.func141 Tryz.results141 ?_
    all_goals rfl
  ·rw [decide_eq_false g2] at hgb
   rw [decide_eq_false (fun h=>g2 h.2.1)]
   clear hr
   cases h2:decide (tab2.length=1)<;>rw [h2] at hrb
   all_goals
    refine enterA [(0,.agg #[.int .i64 f,.int .i64 t,.slice adr tab.length cap,.int .i64 lo,.int .i64 hi]),(1,.agg #[.int .i64 f2,.int .i64 t2,.slice adr2 tab2.length cap2,.int .i64 lo2,.int .i64 hi2])] Tryz.func141 Tryz.ntmps141 ?_
    all_goals (refine go ?_;and_intros<;>(try exact trivial)<;>repeat (first|refine fun (Bk:Nat)=>?_|intro h))
    repeat' ((first|(apply G.cV (g:=172) (vs:=[.agg #[.int .i64 f,.int .i64 t,.slice adr tab.length cap,.int .i64 lo,.int .i64 hi]]);rfl;rfl;exact fun w' _=>hra w')|(apply G.cV (g:=172) (vs:=[.agg #[.int .i64 f2,.int .i64 t2,.slice adr2 tab2.length cap2,.int .i64 lo2,.int .i64 hi2]]);rfl;rfl;exact fun w' _=>hrb w')|(apply G.cV (g:=173) (vs:=[.agg #[.int .i64 f,.int .i64 t,.slice adr tab.length cap,.int .i64 lo,.int .i64 hi]]);rfl;rfl;exact fun w' _=>hga w')|(apply G.cV (g:=173) (vs:=[.agg #[.int .i64 f2,.int .i64 t2,.slice adr2 tab2.length cap2,.int .i64 lo2,.int .i64 hi2]]);rfl;rfl;exact fun w' _=>hgb w'))<;>(refine go ?_;and_intros<;>(try exact trivial)<;>repeat (first|refine fun (Bk:Nat)=>?_|intro h)))
    all_goals refine ret1b Tryz.func141 Tryz.results141 ?_
    all_goals rfl
 ·rw [decide_eq_false g1] at hga
  rw [decide_eq_false (fun h=>g1 h.1)]
  by_cases g2:tab.length=1
  ·rw [decide_eq_true g2] at hra
   rw [decide_eq_false (by omega)] at hrb
   clear hr
   by_cases g3:tab2.length=0
   ·rw [decide_eq_true g3] at hgb
    refine enterA [(0,.agg #[.int .i64 f,.int .i64 t,.slice adr tab.length cap,.int .i64 lo,.int .i64 hi]),(1,.agg #[.int .i64 f2,.int .i64 t2,.slice adr2 tab2.length cap2,.int .i64 lo2,.int .i64 hi2])] Tryz.func141 Tryz.ntmps141 ?_
    all_goals (refine go ?_;and_intros<;>(try exact trivial)<;>repeat (first|refine fun (Bk:Nat)=>?_|intro h))
    repeat' ((first|(apply G.cV (g:=172) (vs:=[.agg #[.int .i64 f,.int .i64 t,.slice adr tab.length cap,.int .i64 lo,.int .i64 hi]]);rfl;rfl;exact fun w' _=>hra w')|(apply G.cV (g:=172) (vs:=[.agg #[.int .i64 f2,.int .i64 t2,.slice adr2 tab2.length cap2,.int .i64 lo2,.int .i64 hi2]]);rfl;rfl;exact fun w' _=>hrb w')|(apply G.cV (g:=173) (vs:=[.agg #[.int .i64 f,.int .i64 t,.slice adr tab.length cap,.int .i64 lo,.int .i64 hi]]);rfl;rfl;exact fun w' _=>hga w')|(apply G.cV (g:=173) (vs:=[.agg #[.int .i64 f2,.int .i64 t2,.slice adr2 tab2.length cap2,.int .i64 lo2,.int .i64 hi2]]);rfl;rfl;exact fun w' _=>hgb w'))<;>(refine go ?_;and_intros<;>(try exact trivial)<;>repeat (first|refine fun (Bk:Nat)=>?_|intro h)))
    all_goals refine ret1b Tryz.func141 Tryz.results141 ?_
    all_goals rfl
   ·rw [decide_eq_false g3] at hgb
    refine enterA [(0,.agg #[.int .i64 f,.int .i64 t,.slice adr tab.length cap,.int .i64 lo,.int .i64 hi]),(1,.agg #[.int .i64 f2,.int .i64 t2,.slice adr2 tab2.length cap2,.int .i64 lo2,.int .i64 hi2])] Tryz.func141 Tryz.ntmps141 ?_
    all_goals (refine go ?_;and_intros<;>(try exact trivial)<;>repeat (first|refine fun (Bk:Nat)=>?_|intro h))
    repeat' ((first|(apply G.cV (g:=172) (vs:=[.agg #[.int .i64 f,.int .i64 t,.slice adr tab.length cap,.int .i64 lo,.int .i64 hi]]);rfl;rfl;exact fun w' _=>hra w')|(apply G.cV (g:=172) (vs:=[.agg #[.int .i64 f2,.int .i64 t2,.slice adr2 tab2.length cap2,.int .i64 lo2,.int .i64 hi2]]);rfl;rfl;exact fun w' _=>hrb w')|(apply G.cV (g:=173) (vs:=[.agg #[.int .i64 f,.int .i64 t,.slice adr tab.length cap,.int .i64 lo,.int .i64 hi]]);rfl;rfl;exact fun w' _=>hga w')|(apply G.cV (g:=173) (vs:=[.agg #[.int .i64 f2,.int .i64 t2,.slice adr2 tab2.length cap2,.int .i64 lo2,.int .i64 hi2]]);rfl;rfl;exact fun w' _=>hgb w'))<;>(refine go ?_;and_intros<;>(try exact trivial)<;>repeat (first|refine fun (Bk:Nat)=>?_|intro h)))
    all_goals refine ret1b Tryz.func141 Tryz.results141 ?_
    all_goals rfl
  ·rw [decide_eq_false g2] at hra
   clear hr
   cases h2:decide (tab2.length=1)<;>rw [h2] at hrb
   all_goals
    cases h3:decide (tab2.length=0)<;>rw [h3] at hgb
    all_goals
     refine enterA [(0,.agg #[.int .i64 f,.int .i64 t,.slice adr tab.length cap,.int .i64 lo,.int .i64 hi]),(1,.agg #[.int .i64 f2,.int .i64 t2,.slice adr2 tab2.length cap2,.int .i64 lo2,.int .i64 hi2])] Tryz.func141 Tryz.ntmps141 ?_
     all_goals (refine go ?_;and_intros<;>(try exact trivial)<;>repeat (first|refine fun (Bk:Nat)=>?_|intro h))
     repeat' ((first|(apply G.cV (g:=172) (vs:=[.agg #[.int .i64 f,.int .i64 t,.slice adr tab.length cap,.int .i64 lo,.int .i64 hi]]);rfl;rfl;exact fun w' _=>hra w')|(apply G.cV (g:=172) (vs:=[.agg #[.int .i64 f2,.int .i64 t2,.slice adr2 tab2.length cap2,.int .i64 lo2,.int .i64 hi2]]);rfl;rfl;exact fun w' _=>hrb w')|(apply G.cV (g:=173) (vs:=[.agg #[.int .i64 f,.int .i64 t,.slice adr tab.length cap,.int .i64 lo,.int .i64 hi]]);rfl;rfl;exact fun w' _=>hga w')|(apply G.cV (g:=173) (vs:=[.agg #[.int .i64 f2,.int .i64 t2,.slice adr2 tab2.length cap2,.int .i64 lo2,.int .i64 hi2]]);rfl;rfl;exact fun w' _=>hgb w'))<;>(refine go ?_;and_intros<;>(try exact trivial)<;>repeat (first|refine fun (Bk:Nat)=>?_|intro h)))
     all_goals refine ret1b Tryz.func141 Tryz.results141 ?_
     all_goals rfl
end Go.Proofs.YtcdgibkbbcekhaaGreatDoor
/-
 Appends in regions that fork,with the form of the slice.
-/
namespace Go.Sl
open Go.RowKit
variable {C:Ctx}{st:List (Nat×Value)}{M:List Row}{k:List Item}{q q':Md}{all rest:List Oper}{d:Nat}{ty:TypeId}{pos:String}{after:Array Edge}{gd:Option (Nat×Bool)}
theorem Sat.ownForm {w0 w:World}{base E size n:Nat}{v:Value}{xs:List Value} (hw:Sat w0 M w) (hm:Row.own base v E size n xs∈M):∃ a c,v=.slice a n c:=by
 obtain ⟨hl,hv⟩:=hw.hold _ hm
 rcases hv with ⟨rfl,rfl⟩|⟨g,cap,cur,rfl,_⟩
 ·exact ⟨_,_,rfl⟩
 ·exact ⟨_,_,rfl⟩
theorem G.ownFormS {p:Pt}{M0:List Row}{l:List Oper}{base E size n:Nat}{v:Value}{xs:List Value} (hm:Row.own base v E size n xs∈M) (h:∀ a c,v=.slice a n c→G (.anys M0 p) C all st M l k):G (.anys M0 p) C all st M l k :=
 ⟨fun hs hl hsel listed hdc hp a w hf hdf hw=>by
  obtain ⟨a',c',e⟩:=hw.ownForm hm
  exact (h a' c' e).go hs hl hsel listed hdc hp a w hf hdf hw⟩
theorem G.apSF {p:Pt}{T ty' E bytes size n m c base:Nat}{z v:Value}{x y:Operand}{a:Option Addr}{xs news cs:List Value}{F:Row→List Row}{M0:List Row}{i:Nat} (hs:sdB all st gd d C.N=true)
  (hx:evS st x=some v) (hy:evS st y=some (.slice a m c)) (hm:RAt (.own base v E size n xs) M F) [hT:TElem C.P T E z size bytes] (hsrc:SrcV C M a m size news) (hcs:xs++news=cs) (hb:(n+m)*bytes≤140737488355328) (hnm:n+m≤9223372036854775807)
  (hsub:∀ v',M0.Sublist (F (.own 0 v' E size (n+m) cs))) (hin:∀ v',Row.own 0 v' E size (n+m) cs∈F (.own 0 v' E size (n+m) cs))
  (h:∀ a' c',G (.anys M0 p) C all ((d,.slice a' (n+m) c')::st) (F (.own 0 (.slice a' (n+m) c') E size (n+m) cs)) rest k) :
  G (.anys M0 (.e i p)) C all st M ({ dst:=some d,op:=.call { callee:=.builtin .append,args:=#[x,y],argTypes:=#[T,T] },type:=ty',pos,after,guard:=gd }::rest) k :=
 G.apS hs rfl hx hy hm hsrc hcs hb hnm fun v'=>⟨hsub v',G.ownFormS (hin v') fun a' c' e=>by subst e;exact h a' c'⟩
theorem G.apSOF {p:Pt}{T ty' E bytes size n m c base:Nat}{z v:Value}{x y:Operand}{a:Option Addr}{xs news cs:List Value}{F:Row→List Row}{M0:List Row}{i:Nat} (hs:sdB all st gd d C.N=true)
  (hx:evS st x=some v) (hy:evS st y=some (.slice a m c)) (hm:RAt (.own base v E size n xs) M F) [hT:TElem C.P T E z size bytes] (hsrc:SrcV C M a m size news) (hcs:xs++news=cs) (hb:(n+m)*bytes≤140737488355328) (hnm:n+m≤9223372036854775807)
  (hsub:∀ v',M0.Sublist (F (.own 0 v' E size (n+m) cs))) (hin:∀ v',Row.own 0 v' E size (n+m) cs∈F (.own 0 v' E size (n+m) cs))
  (h:∀ a' c',G (.anys M0 p) C all ((d,.slice a' (n+m) c')::st) (F (.own 0 (.slice a' (n+m) c') E size (n+m) cs)) rest k) :
  G (.ones M0 i p) C all st M ({ dst:=some d,op:=.call { callee:=.builtin .append,args:=#[x,y],argTypes:=#[T,T] },type:=ty',pos,after,guard:=gd }::rest) k :=
 G.apSO hs hx hy hm hsrc hcs hb hnm fun v'=>⟨hsub v',G.ownFormS (hin v') fun a' c' e=>by subst e;exact h a' c'⟩
end Go.Sl
