/-
  Contracts of the specification of runs: put.
-/
import Derived.Test.YtcdgibkbbcekhaaGreatDoorRA14
set_option linter.unusedVariables false
set_option linter.unusedSimpArgs false
set_option linter.unusedSectionVars false
namespace Go.Proofs.YtcdgibkbbcekhaaGreatDoor
open Go.RowKit Go.Sl Go.Num
section
variable {C:Ctx}{st:List (Nat×Value)}{M:List Row}{k:List Item}
theorem Sat.slPre {w0 w:World}{N sz:Nat}{a:Option Addr}{L:List (List Value)} (hw:Sat w0 M w) (hm:slRow N a sz L∈M) (m:Nat):Sat w0 (slRow N a sz (L.take m)::M) w:=by
 have ho:=hw.old _ hm
 refine hw.addFact ho.1 (fun h0=>?_) fun b hb=>?_
 ·have h1:0 < L.length:=by rw [List.length_take] at h0;omega
  obtain ⟨b,off,e,hr⟩:=hw.sl hm h1
  exact ⟨b,off,e,fun i cs hi=>hr i cs (by rw [List.getElem?_take] at hi;split at hi;exact hi;cases hi)⟩
 ·have h2:(slRow N a sz L).sup b:=⟨by have:=hb.1;rw [List.length_take] at this;omega,hb.2⟩
  exact ⟨(ho.2 b h2).1,(ho.2 b h2).2,fun r hr=>hw.noLock hm (fun _ h=>h) hr h2⟩
theorem J.slPre {N sz:Nat}{a:Option Addr}{L:List (List Value)} (m:Nat) (hm:slRow N a sz L∈M) (h:J C st (slRow N a sz (L.take m)::M) k):J C st M k:=.mk fun ac w hf hd hw=>h.go ac w hf hd (Sat.slPre hw hm m)
theorem Sat.tabOf {w0 w:World}{N:Nat}{L:List Rn}{r:Rn} (hw:Sat w0 M w) (hm:tfam N L∈M) (hr:r∈L):Sat w0 (slRow N r.adr 2 (r.tab.map hoV)::M) w:=by
 have ho:=hw.old _ hm
 refine hw.addFact ho.1 (hw.fam hm r hr) fun b hb=>?_
 have h2:(tfam N L).sup b:=⟨r,hr,hb⟩
 exact ⟨(ho.2 b h2).1,(ho.2 b h2).2,fun r' hr'=>hw.noLock hm (fun _ h=>h) hr' h2⟩
theorem J.tabOf {N:Nat}{L:List Rn} (r:Rn) (hm:tfam N L∈M) (hr:r∈L) (h:J C st (slRow N r.adr 2 (r.tab.map hoV)::M) k):J C st M k:=.mk fun ac w hf hd hw=>h.go ac w hf hd (Sat.tabOf hw hm hr)
theorem J.slForm {N sz:Nat}{a:Option Addr}{L:List (List Value)} (hm:slRow N a sz L∈M) (h:(0 < L.length→∃ b off,a=some ⟨b,off,none⟩)→J C st M k):J C st M k:=.mk fun ac w hf hd hw=>(h fun h0=>let ⟨b,off,e,_⟩:=hw.sl hm h0;⟨b,off,e⟩).go ac w hf hd hw
end
section
variable {C:Ctx}{st:List (Nat×Value)}{M:List Row}{k:List Item}
theorem J.tfamGap {o:List Rn} (o':List Rn) (z:Rn) (hm:tfam C.w0.heap.size o∈M) (hs:∀ r∈o',r∈o) (hz:z.tab=[]) (h:J C st (tfam C.w0.heap.size (o'++[z])::M) k):J C st M k:=.mk fun ac w hf hd hw=>h.go ac w hf hd (by
 refine hw.addFact (Nat.le_refl _) (fun r hr=>?_) fun b hb=>?_
 ·rcases List.mem_append.1 hr with hr|hr
  ·exact hw.fam hm r (hs r hr)
  ·rw [List.mem_singleton.1 hr];show SlAt w z.adr 2 (z.tab.map hoV);rw [hz];exact fun h=>absurd h (Nat.lt_irrefl _)
 ·obtain ⟨r,hr,h3⟩:=hb
  rcases List.mem_append.1 hr with hr|hr
  ·have h4:(tfam C.w0.heap.size o).sup b:=⟨r,hs r hr,h3⟩
   have ho:=hw.old _ hm
   exact ⟨(ho.2 b h4).1,(ho.2 b h4).2,fun r' hr'=>hw.noLock hm (fun _ h=>h) hr' h4⟩
  ·rw [List.mem_singleton.1 hr] at h3
   have h4:0 < (z.tab.map hoV).length:=h3.1
   rw [hz] at h4;exact absurd h4 (Nat.lt_irrefl _))
theorem J.blkGe {b E tot:Nat}{cs:List Value} (hm:Row.blk b E cs tot∈M) (h:C.w0.heap.size≤b→J C st M k):J C st M k:=.mk fun ac w hf hd hw=>(h ((hw.old _ hm).2 b rfl).1).go ac w hf hd hw
theorem J.blkSlR {A:Type}{f:A→List Value}{E sz tot b:Nat}{l:List A}{M':List Row} (hf:∀ x,(f x).length=sz) (hp:Pick (.blk b E (flat f l) tot) M M') (h:J C st (slRow C.w0.heap.size (some ⟨b,0,none⟩) sz (l.map f)::M') k):J C st M k:=.mk fun ac w hfit hd hw=>by
 have hw2:=hw.perm hp.perm
 have h1:=SlAt.ofBlk hf hw2 (.head _)
 refine h.go ac w hfit hd ((hw2.forget (List.sublist_cons_self _ _)).addSl h1 fun p hp2 r hr hl=>?_)
 cases hp2
 exact ((List.pairwise_cons.1 hw2.apart).1 r hr b).1 rfl (Row.lock_sup hl)
end
def RetP (w0:World) (M:List Row) (o lx:List Rn) (x:Rn) (e:Ending) (w':World):Prop :=
 ∃ y:{ y:List Rn×Option Addr×Nat // y.1.map rbare=putL (o.map rbare) (rbare x)∧srcR w0.heap.size (o++lx) y.1 },e=.returned (.slice y.1.2.1 y.1.1.length y.1.2.2)∧Sat w0 (.own 0 (.slice y.1.2.1 y.1.1.length y.1.2.2) 90 5 y.1.1.length (flat rnV y.1.1)::tfam w0.heap.size y.1.1::M) w'
theorem put_holds (w0 w:World) (M:List Row) (au:Option Addr) (cu:Nat) (o lx:List Rn) (x:Rn) (hw:Sat w0 (.own 0 (.slice au o.length cu) 90 5 o.length (flat rnV o)::tfam w0.heap.size o::tfam w0.heap.size lx::M) w) (hx:x∈lx) (hox:0≤x.from_∧x.from_≤1402560∧0≤x.to_∧x.to_≤1402560) (hoo:∀ r∈o,0≤r.from_∧r.from_≤1402560) (hl:o.length≤100000) :
  Calls Tryz.prog 86 #[.slice au o.length cu,rnA x] w (RetP w0 (tfam w0.heap.size lx::M) o lx x):=by
 rcases nil_or_snoc o with rfl|⟨o,y,rfl⟩
 ·have hap:flat rnV ([]:List Rn)++rnV x=flat rnV [x]:=(flat_append rnV [] [x]).symm.trans rfl
  obtain ⟨xf,xt,tab,adr,cap,lo,hi⟩:=x
  dsimp only [rnA,rnV,List.length_nil] at *
  refine enterR [(0,.slice au 0 cu),(1,.agg #[.int .i64 xf,.int .i64 xt,.slice adr tab.length cap,.int .i64 lo,.int .i64 hi])] hw Tryz.func86 Tryz.ntmps86 ?_
  all_goals (refine go ?_;and_intros<;>(try exact trivial)<;>repeat (first|refine fun (Bk:Nat)=>?_|intro h))
  repeat' ((first|(apply G.sliceL;rfl;rfl;rfl;rfl;rfl;rfl;rfl;rfl;intro Bs)|(apply G.apV;rfl;rfl;rfl;(repeat (first|exact RAt.head|apply RAt.tail));exact SrcV.blk (by exact mm) rfl rfl;exact hap;omega;omega;intro a2 c2))<;>(refine go ?_;and_intros<;>(try exact trivial)<;>repeat (first|refine fun (Bk:Nat)=>?_|intro h)))
  refine J.tfamTo (o:=[]) (l:=lx) [⟨xf,xt,tab,adr,cap,lo,hi⟩] mm mm (fun r hr=>.inr (by rw [List.mem_singleton.1 hr];exact hx)) ?_
  refine ret1 Tryz.func86 Tryz.results86 ?_
  exact fun w' hw'=>⟨⟨([⟨xf,xt,tab,adr,cap,lo,hi⟩],a2,c2),rfl,srcR.self fun r hr=>by rw [List.mem_singleton.1 hr];exact hx⟩,rfl,hw'.sel⟩
 have hne:(o++[y]).length=o.length+1:=by simp
 have hym:y∈o++[y]:=by simp
 have hy:=hoo y hym
 have hyL:(o++[y])[o.length]?=some y:=by simp
 have hz:((o.length+1:Nat):Int)-1=(o.length:Int):=by omega
 have hjn:=fun w' hA hB=>joinable_holds y x w' hA hB
 rw [hne] at hw hl ⊢
 obtain ⟨xf,xt,tab,adr,cx,lo,hi⟩:=x
 cases hj:jblB y ⟨xf,xt,tab,adr,cx,lo,hi⟩
 ·have hap:flat rnV (o++[y])++rnV ⟨xf,xt,tab,adr,cx,lo,hi⟩=flat rnV (o++[y]++[⟨xf,xt,tab,adr,cx,lo,hi⟩]):=flat1 rnV _ _
  have hl2:(o++[y]++[(⟨xf,xt,tab,adr,cx,lo,hi⟩:Rn)]).length=o.length+1+1:=by simp
  have hq:=putL_addB hj (o:=o)
  rw [hj] at hjn
  clear hj
  dsimp only [rnA,rnV] at *
  refine enterR [(0,.slice au (o.length+1) cu),(1,.agg #[.int .i64 xf,.int .i64 xt,.slice adr tab.length cx,.int .i64 lo,.int .i64 hi])] hw Tryz.func86 Tryz.ntmps86 ?_
  refine J.ownOpen RAt.au (by omega) ?_
  intro g cap hgc hcm hv
  rw [hv]
  clear hv hw
  all_goals (refine go ?_;and_intros<;>(try exact trivial)<;>repeat (first|refine fun (Bk:Nat)=>?_|intro h))
  repeat' ((first|(apply G.ix (i:=o.length);rfl;rfl;exact hz;omega;rfl)|(apply G.ld;rfl;exact LdV.flat rnV_len mm hyL rfl;rfl)|(apply G.cV (g:=141);rfl;rfl;exact fun w' hw'=>hjn w' (famTab (N:=w0.heap.size) hw' hym) (famTab (N:=w0.heap.size) hw' hx))|(refine G.blkCut (l':=o++[y]) (o.length+1) rnV_len RAt.au hgc hcm (by omega) (List.take_of_length_le (by omega)) ?_)|(apply G.sliceL;rfl;rfl;rfl;rfl;rfl;rfl;rfl;rfl;intro Bs)|(apply G.apV;rfl;rfl;rfl;(repeat (first|exact RAt.head|apply RAt.tail));exact SrcV.blk (by exact mm) rfl rfl;exact hap;omega;omega;intro a2 c2))<;>(refine go ?_;and_intros<;>(try exact trivial)<;>repeat (first|refine fun (Bk:Nat)=>?_|intro h)))
  refine J.tfamTo (o:=o++[y]) (l:=lx) (o++[y]++[⟨xf,xt,tab,adr,cx,lo,hi⟩]) mm mm (fun r hr=>(List.mem_append.1 hr).imp id fun hr=>by rw [List.mem_singleton.1 hr];exact hx) ?_
  refine ret1 Tryz.func86 Tryz.results86 ?_
  intro w' hw'
  rw [← hl2] at hw'
  exact ⟨⟨(o++[y]++[⟨xf,xt,tab,adr,cx,lo,hi⟩],a2,c2),hq,srcR.self fun r hr=>List.mem_append.2 ((List.mem_append.1 hr).imp id fun hr=>by rw [List.mem_singleton.1 hr];exact hx)⟩,by dsimp only;rw [hl2],hw'.sel⟩
 have hq:=fun z hz=>putL_jnB (z:=z) hj hz (o:=o)
 have hpre:((o++[y]).map rnV).take o.length=o.map rnV:=by rw [← List.map_take,List.take_left]
 have hge:(o++[y])[o.length]'(by omega)=y:=by simp
 rw [hj] at hjn
 have hcase:(tab.length=0)∨(∃ s n,tab=[(s,n)]):=by
  rw [jblB] at hj
  split at hj
  ·rename_i h1
   match h:tab,h1.2 with
   | [(s,n)],_=>exact .inr ⟨s,n,rfl⟩
  ·rw [decide_eq_true_eq] at hj
   exact .inl hj.2.1
 clear hj
 refine enterR [(0,.slice au (o.length+1) cu),(1,rnA ⟨xf,xt,tab,adr,cx,lo,hi⟩)] hw Tryz.func86 Tryz.ntmps86 ?_
 refine J.ownOpen RAt.au (by omega) ?_
 intro g cap hgc hcm hv
 rw [hv]
 clear hv hw
 refine J.blkCut (l':=o++[y]) (o.length+1) rnV_len RAt.au hgc hcm (by omega) (List.take_of_length_le (by omega)) ?_
 refine J.ownSlR (a:=some ⟨g,0,none⟩) (c:=cap) (n:=o.length+1) (l:=o++[y]) rnV_len (by (repeat (first|exact Pick.head|apply Pick.tail))) hne ?_
 change J _ _ (slRow w0.heap.size _ _ _::_) _
 refine J.slPre o.length (N:=w0.heap.size) (a:=some ⟨g,0,none⟩) (sz:=5) (L:=(o++[y]).map rnV) mm ?_
 rw [hpre]
 have hld:∀ {C:Ctx}{M:List Row} [TAgg C.P 90 5],slRow w0.heap.size (some ⟨g,0,none⟩) 5 ((o++[y]).map rnV)∈M→LdV C M 90 ⟨g,0+o.length*5,none⟩ (.agg (rnV y).toArray):=fun {C M} _ hm=>by
  have:=LdV.aggSl (C:=C) (M:=M) (T:=90) (n:=5) (f:=rnV) (l:=o++[y]) hm (i:=o.length) (by omega) rfl
  rwa [hge] at this
 have hap0:[]++flat rnV o=flat rnV o:=List.nil_append _
 have hap:∀ z,flat rnV o++rnV z=flat rnV (o++[z]):=fun z=>flat1 rnV _ _
 have hlz:∀ z:Rn,(o++[z]).length=o.length+1:=fun z=>by simp
 rcases hcase with h0|⟨s,n,rfl⟩
 ·have hz2:=hq ⟨y.from_,xt,[],none,0,lo,hi⟩ (by rw [jnR,if_pos h0];rfl)
  dsimp only [rnA] at *
  all_goals (refine go ?_;and_intros<;>(try exact trivial)<;>repeat (first|refine fun (Bk:Nat)=>?_|intro h))
  repeat' ((first|(apply G.ix (i:=o.length);rfl;rfl;exact hz;omega;rfl)|(apply G.ld;rfl;exact hld (by exact mm);rfl)|(apply G.cV (g:=141);rfl;rfl;exact fun w' hw'=>hjn w' (famTab (N:=w0.heap.size) hw' hym) (famTab (N:=w0.heap.size) hw' hx)))<;>(refine go ?_;and_intros<;>(try exact trivial)<;>repeat (first|refine fun (Bk:Nat)=>?_|intro h)))
  refine J.tfamGap (o:=o++[y]) o ⟨y.from_,xt,[],none,0,lo,hi⟩ mm (fun r hr=>List.mem_append_left _ hr) rfl ?_
  apply J.regS [.blk Bk _ _ _] (.q 1 <| .q 2 <| .q 3 <| .q 4 <| .q 6 <| .f 0 (.f 5 (.e 7 <| .r 8 <| .q 9 <| .nil) 7 (.e 5 <| .r 8 <| .q 9 <| .nil)) 7 (.e 0 <| .e 5 <| .r 8 <| .q 9 <| .nil))
  exact Tryz.mixed
  decide +kernel
  (repeat' (first|exact List.nil_sublist _|exact List.Sublist.refl _|apply List.Sublist.cons_cons|apply List.Sublist.cons))
  all_goals (refine goG ?_;and_intros<;>(try exact trivial)<;>repeat (first|refine fun (Bk:Nat)=>?_|intro h))
  repeat' ((first|(apply G.forkS)|(apply G.slE;rfl;intro Be)|(apply G.sliceL;rfl;rfl;rfl;rfl;rfl;rfl;rfl;rfl;intro Bs)|(apply G.slH (len:=o.length);rfl;rfl;exact hz;omega;omega;rfl)|(apply G.apSOF;rfl;rfl;rfl;(repeat (first|exact RAt.head|apply RAt.tail));exact (SrcV.sl (l:=o) rnV_len rnV_one (fun _=>⟨g,0,rfl⟩) (N:=w0.heap.size) (by exact mm));exact hap0;omega;omega;intro v';(repeat' (first|exact List.nil_sublist _|exact List.Sublist.refl _|apply List.Sublist.cons_cons|apply List.Sublist.cons));intro v';exact mm;rw [Nat.zero_add];intro a2 c2)|(apply G.apSF;rfl;rfl;rfl;(repeat (first|exact RAt.head|apply RAt.tail));exact (SrcV.sl (l:=o) rnV_len rnV_one (fun _=>⟨g,0,rfl⟩) (N:=w0.heap.size) (by exact mm));exact hap0;omega;omega;intro v';(repeat' (first|exact List.nil_sublist _|exact List.Sublist.refl _|apply List.Sublist.cons_cons|apply List.Sublist.cons));intro v';exact mm;rw [Nat.zero_add];intro a2 c2)|(apply G.apV;rfl;rfl;rfl;(repeat (first|exact RAt.head|apply RAt.tail));exact SrcV.blk (by exact mm) rfl rfl;exact hap ⟨y.from_,xt,[],none,0,lo,hi⟩;omega;omega;intro a3 c3))<;>(refine goG ?_;and_intros<;>(try exact trivial)<;>repeat (first|refine fun (Bk:Nat)=>?_|intro h)))
  all_goals
   refine ret1 Tryz.func86 Tryz.results86 ?_
   intro w' hw'
   rw [← hlz ⟨y.from_,xt,[],none,0,lo,hi⟩] at hw'
   exact ⟨⟨(o++[⟨y.from_,xt,[],none,0,lo,hi⟩],a3,c3),hz2,srcR.app (srcR.self fun r hr=>List.mem_append_left _ (List.mem_append_left _ hr)) (srcR.one (.inl rfl))⟩,by dsimp only;rw [hlz],hw'.sel⟩
 refine J.tabOf (N:=w0.heap.size) (L:=lx) ⟨xf,xt,[(s,n)],adr,cx,lo,hi⟩ mm hx ?_
 dsimp only
 refine J.slForm (a:=adr) (sz:=2) (L:=[(s,n)].map hoV) (N:=w0.heap.size) mm ?_
 intro had
 obtain ⟨b2,o2,rfl⟩:=had (Nat.succ_pos _)
 clear had
 have hq2:=fun (Bs:Nat)=>hq ⟨y.from_,xt,[(s,xt-y.from_)],some ⟨Bs,0,none⟩,1,lo,hi⟩ rfl
 dsimp only [rnA,List.length_cons,List.length_nil] at *
 all_goals (refine goR ?_;and_intros<;>(try exact trivial)<;>repeat (first|refine fun (Bk:Nat)=>?_|intro h))
 repeat' ((first|(apply J.regA (.q 0 <| .q 1 <| .q 2 <| .q 3 <| .q 4 <| .q 5 <| .q 6 <| .q 7 <| .q 8 <| .q 9 <| .q 10 <| .r 11 <| .q 12 <| .r 13 <| .nil);exact Tryz.mixed;decide +kernel)|(apply G.ix (i:=o.length);rfl;rfl;exact hz;omega;rfl)|(apply G.ix (i:=0);rfl;rfl;exact rfl;exact Nat.succ_pos _;rfl)|(apply G.ld;rfl;exact hld (by exact mm);rfl)|(apply G.ld;rfl;(apply LdV.one;exact CellV.sl0 (f:=hoV) (l:=[(s,n)]) (i:=0) (N:=w0.heap.size) (by exact mm) (Nat.succ_pos _) rfl);rfl)|(apply G.sliceL;rfl;rfl;rfl;rfl;rfl;rfl;rfl;rfl;intro Bs)|(apply G.cV (g:=141);rfl;rfl;exact fun w' hw'=>hjn w' (famTab (N:=w0.heap.size) hw' hym) (famTab (N:=w0.heap.size) hw' hx))|(apply J.regQ;exact Tryz.mixed;decide +kernel)|(apply J.regL';exact Tryz.mixed;decide +kernel))<;>(refine goR ?_;and_intros<;>(try exact trivial)<;>repeat (first|refine fun (Bk:Nat)=>?_|intro h)))
 revert Bs
 intro Bt
 have hz2:=hq2 Bt
 refine J.blkGe (b:=Bt) mm ?_
 intro hBt
 refine J.blkSlR (b:=Bt) (f:=hoV) (l:=[(s,xt-y.from_)]) hoV_len (by (repeat (first|exact Pick.head|apply Pick.tail))) ?_
 refine J.famSub (o:=o++[y]) (o':=o) mm (fun r hr=>List.mem_append_left _ hr) ?_
 refine J.famAdd (r:=(⟨y.from_,xt,[(s,xt-y.from_)],some ⟨Bt,0,none⟩,1,lo,hi⟩:Rn)) (o:=o) mm mm ?_
 apply J.regS [.blk Bk _ _ _] (.q 1 <| .q 2 <| .q 3 <| .q 4 <| .q 6 <| .f 0 (.f 5 (.e 7 <| .r 8 <| .q 9 <| .nil) 7 (.e 5 <| .r 8 <| .q 9 <| .nil)) 7 (.e 0 <| .e 5 <| .r 8 <| .q 9 <| .nil))
 exact Tryz.mixed
 decide +kernel
 (repeat' (first|exact List.nil_sublist _|exact List.Sublist.refl _|apply List.Sublist.cons_cons|apply List.Sublist.cons))
 all_goals (refine goG ?_;and_intros<;>(try exact trivial)<;>repeat (first|refine fun (Bk:Nat)=>?_|intro h))
 repeat' ((first|(apply G.forkS)|(apply G.slE;rfl;intro Be)|(apply G.sliceL;rfl;rfl;rfl;rfl;rfl;rfl;rfl;rfl;intro Bs)|(apply G.slH (len:=o.length);rfl;rfl;exact hz;omega;omega;rfl)|(apply G.apSOF;rfl;rfl;rfl;(repeat (first|exact RAt.head|apply RAt.tail));exact (SrcV.sl (l:=o) rnV_len rnV_one (fun _=>⟨g,0,rfl⟩) (N:=w0.heap.size) (by exact mm));exact hap0;omega;omega;intro v';(repeat' (first|exact List.nil_sublist _|exact List.Sublist.refl _|apply List.Sublist.cons_cons|apply List.Sublist.cons));intro v';exact mm;rw [Nat.zero_add];intro a2 c2)|(apply G.apSF;rfl;rfl;rfl;(repeat (first|exact RAt.head|apply RAt.tail));exact (SrcV.sl (l:=o) rnV_len rnV_one (fun _=>⟨g,0,rfl⟩) (N:=w0.heap.size) (by exact mm));exact hap0;omega;omega;intro v';(repeat' (first|exact List.nil_sublist _|exact List.Sublist.refl _|apply List.Sublist.cons_cons|apply List.Sublist.cons));intro v';exact mm;rw [Nat.zero_add];intro a2 c2)|(apply G.apV;rfl;rfl;rfl;(repeat (first|exact RAt.head|apply RAt.tail));exact SrcV.blk (by exact mm) rfl rfl;exact hap (⟨y.from_,xt,[(s,xt-y.from_)],some ⟨Bt,0,none⟩,1,lo,hi⟩:Rn);omega;omega;intro a3 c3))<;>(refine goG ?_;and_intros<;>(try exact trivial)<;>repeat (first|refine fun (Bk:Nat)=>?_|intro h)))
 all_goals
  refine ret1 Tryz.func86 Tryz.results86 ?_
  intro w' hw'
  rw [← hlz (⟨y.from_,xt,[(s,xt-y.from_)],some ⟨Bt,0,none⟩,1,lo,hi⟩:Rn)] at hw'
  exact ⟨⟨(o++[(⟨y.from_,xt,[(s,xt-y.from_)],some ⟨Bt,0,none⟩,1,lo,hi⟩:Rn)],a3,c3),hz2,srcR.app (srcR.self fun r hr=>List.mem_append_left _ (List.mem_append_left _ hr)) (srcR.one (.inr (.inl fun p hp=>by cases hp;exact hBt)))⟩,by dsimp only;rw [hlz],hw'.sel⟩
end Go.Proofs.YtcdgibkbbcekhaaGreatDoor
