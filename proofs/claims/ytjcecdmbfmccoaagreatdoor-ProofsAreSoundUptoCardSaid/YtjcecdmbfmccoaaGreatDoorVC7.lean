/-
  Contract: the volume of a history.
-/
import Derived.Test.YtjcecdmbfmccoaaGreatDoorVC6
import Derived.Test.YtjcecdmbfmccoaaGreatDoorRows
import Derived.ProofKit
set_option linter.unusedVariables false
set_option linter.unusedSimpArgs false
set_option linter.unusedSectionVars false
namespace Go.Proofs.YtjcecdmbfmccoaaGreatDoor
open Go.RowKit Go.Sl Go.Num
theorem inOrd_drop {l:List Spn}{x:Int} (h:InOrd x l) (k:Nat):∃ y,InOrd y (l.drop k):=by
 induction l generalizing x k with
 | nil=>exact ⟨0,by rw [List.drop_nil];trivial⟩
 | cons s r ih =>
  cases k with
  | zero=>exact ⟨x,h⟩
  | succ k=>exact ih h.2.2 k
theorem erase_map {A B:Type} (g:A->B) (l:List A) (i:Nat):(l.map g).eraseIdx i=(l.eraseIdx i).map g:=by
 rw [List.eraseIdx_eq_take_drop_succ,List.eraseIdx_eq_take_drop_succ,List.map_append,List.map_take,List.map_drop]
theorem fewQ_step {x r:Rat}{n:Int}{m:Nat} (hx:fewQ m (rQ x)) (hm:1<=m) (hn:-999999999999999<=n/\n<=999999999999999) (hr:fewQ 140 (rQ r)):fewQ (m+150) (rQ (x+n*r)) :=
 fewQ_le (fewQ_add hx (fewQ_mul (fewQ_int hn.1 hn.2) hr (by decide) (by decide)) hm (by decide)) (by omega)
theorem vValue_holds (f:Int) (a b:Option Addr) (hs:List Int) (l:List Spn) (c d:Nat) (w:World) (hA:SlAt w a 1 (hs.map isV)) (hB:SpansAt w b l) (hf:∀ s∈l,fewS s) (hl:hs.length<=1000) (hcap:hs.length<=c)
  (hOf:∀ w',Below w.heap.size w w'->Calls Tryz.prog 59 #[.agg #[.int .i64 f,.slice a hs.length c]] w' fun e w''=>∃ u:Value,e=.returned (.tuple #[u,.int .i64 (if rightH f hs=false then 1 else 0)])/\Below w'.heap.size w' w'') :
  Calls Tryz.prog 21 #[.agg #[.int .i64 f,.slice a hs.length c],.slice b l.length d] w fun e w'=>e=.returned (.tuple #[qA (volE f hs l).1,.int .i64 (volE f hs l).2])/\Below w.heap.size w w':=by
 have hc:=fun w' (hb:Below w.heap.size w w')=>spvCheck_holds b l d w' (hB.below hb) hf
 rw [volE]
 by_cases h1:spansErr l=0
 ·rw [if_neg (fun e=>e h1)]
  have ⟨k1,k2⟩:=spansErr_ok h1
  have hO:InOrd 0 l:=by
   rw [spansErr,if_neg (by omega)] at h1
   exact inOrd_of h1
  rw [h1] at hc
  by_cases h2:rightH f hs=false
  ·rw [if_pos h2]
   rw [if_pos h2] at hOf
   refine enterA [(0,.agg #[.int .i64 f,.slice a hs.length c]),(1,.slice b l.length d)] Tryz.func21 Tryz.ntmps21 ?_
   all_goals (refine go ?_;and_intros<;>(try exact trivial)<;>intros)
   repeat' ((first|(refine G.cvb hc ?_)|(refine G.cX hOf ?_;intro u))<;>(refine go ?_;and_intros<;>(try exact trivial)<;>intros))
   all_goals refine ret2b Tryz.func21 Tryz.results21 ?_
   all_goals rfl
  ·rw [if_neg h2]
   rw [if_neg h2] at hOf
   have h2:rightH f hs=true:=by simpa using h2
   obtain ⟨k3,k4⟩:=rightH_ok h2
   refine enterA [(0,.agg #[.int .i64 f,.slice a hs.length c]),(1,.slice b l.length d)] Tryz.func21 Tryz.ntmps21 ?_
   generalize hT:volSum l f hs=T
   all_goals (refine go ?_;and_intros<;>(try exact trivial)<;>intros)
   repeat' ((first|(refine G.cvb hc ?_)|(refine G.cX hOf ?_;intro u)|(apply G.cR (g:=60) (v:=fun x:Nat×Nat=>.pointer (some ⟨x.1,0,none⟩)) (Mn:=fun x=>[.blk x.1 123 [.slice b l.length d,.map (some x.2),.bool false,.string (bs []),.string (bs [])] 5,.inv x.2 (Rates l)]);rfl;rfl;exact fun w' hw'=>book_holds w _ w' b l d hw';rintro ⟨bl,bm⟩))<;>(refine go ?_;and_intros<;>(try exact trivial)<;>intros))
   clear hc hOf
   refine J.slOld hB.1 (J.front3 (r1:=.blk bl 123 [.slice b l.length d,.map (some bm),.bool false,.string (bs []),.string (bs [])] 5) (r2:=.inv bm (Rates l)) (r3:=slRow w.heap.size b 7 (l.map spV)) (by (repeat (first|exact Pick.head|apply Pick.tail))) (by (repeat (first|exact Pick.head|apply Pick.tail))) (by (repeat (first|exact Pick.head|apply Pick.tail))) ?_)
   refine J.loop (c:=_) ((0,0,zero3):Nat×Rat×Q3) (fun s=>l.length-s.1) (fun s=>[(2,.pointer (some ⟨_,0,none⟩)),(4,.pointer (some ⟨_,0,none⟩)),(9,.pointer (some ⟨bl,0,none⟩)),(33,.slice b l.length d),(34,.int .i64 l.length),(35,.int .i64 s.1)]) (fun s=>[.blk bl 123 [.slice b l.length d,.map (some bm),.bool s.2.2.neg,.string (bs s.2.2.num),.string (bs s.2.2.den)] 5,.inv bm (Rates l),slRow w.heap.size b 7 (l.map spV),.blk _ 25 [.bool false,.string (bs []),.string (bs [])] 3,.blk _ 30 [.int .i64 f,.slice a hs.length c] 2]) (fun s=>s.1<=l.length/\s.2.2=rQ s.2.1/\fewQ (1+150000*s.1) s.2.2/\s.2.1+volSum (l.drop s.1) f hs=T/\∀ i (hi:i < l.length),i < s.1->outH f hs.length l[i]=false) ?_ sbT sbL ?_
   ·exact ⟨Nat.zero_le _,rfl,⟨Nat.zero_le _,Nat.zero_le _⟩,by rw [Rat.zero_add];exact hT,fun i h h2=>absurd h2 (Nat.not_lt_zero _)⟩
   intro ⟨k,x,S⟩ ⟨h3,h4,h5,h6,h7⟩ ih
   dsimp only at h3 h4 h5 h6 h7 ⊢
   by_cases hk:k < l.length
   ·obtain ⟨bb,ob,rfl,hrb⟩:=SlAt.all hB.1 (by omega)
    have hrk:=hrb k hk
    by_cases hq:outH f hs.length l[k]=true
    ·rw [if_pos (List.any_eq_true.2 ⟨_,List.getElem_mem hk,hq⟩)]
     simp only [outH,Bool.or_eq_true,decide_eq_true_eq] at hq
     clear ih h7
     generalize l[k]=s at *
     obtain ⟨fr,tt,wt,dt,pts,adr,cap⟩:=s
     dsimp only [spV] at *
     all_goals (refine go ?_;and_intros<;>(try exact trivial)<;>intros)
     all_goals refine ret2b Tryz.func21 Tryz.results21 ?_
     all_goals rfl
    ·have hq2:outH f hs.length l[k]=false:=by simpa using hq
     have h7':∀ i (hi:i < l.length),i < k+1->outH f hs.length l[i]=false:=fun i hi h8=>by
      rcases Nat.lt_or_ge i k with h9|h9
      ·exact h7 i hi h9
      ·obtain rfl:i=k:=by omega
       exact hq2
     simp only [outH,Bool.or_eq_false_iff,decide_eq_false_iff_not] at hq2
     obtain ⟨y,hy⟩:=inOrd_drop hO k
     rw [List.drop_eq_getElem_cons hk] at h6 hy
     rw [volSum_cons hy] at h6
     have hRk:=k2 _ (List.getElem_mem hk)
     have hof:∀ t,ofR l (k:Int) t=rateOf l[k] t:=fun t=>ofR_at hk
     have hp:∃ p:Nat,l[k].from_=f+p:=⟨(l[k].from_-f).toNat,by omega⟩
     have hn:∃ n:Nat,l[k].to_=l[k].from_+n/\0 < n:=⟨(l[k].to_-l[k].from_).toNat,by have:=hRk.1;omega,by have:=hRk.1;omega⟩
     obtain ⟨p,hp⟩:=hp
     obtain ⟨n,hn,hn0⟩:=hn
     rw [inSeg_eq hs f p hp (by omega),show (l[k].to_-l[k].from_).toNat=n by omega] at h6
     have hpn:p+n<=hs.length:=by omega
     obtain ⟨ba,oa,rfl,hra⟩:=SlAt.all hA (by omega)
     clear h7 hq hRk
     generalize rateOf l[k]=g at *
     generalize hV:volSum (l.drop (k+1)) f hs=V at *
     generalize l[k]=s at *
     obtain ⟨fr,tt,wt,dt,pts,adr,cap⟩:=s
     dsimp only [spV] at *
     subst hp
     subst hn
     have hseg:∀ i (hi:i < n),((hs.drop p).take n).drop i=hs[p+i]::((hs.drop p).take n).drop (i+1):=fun i hi=>by
      rw [List.drop_eq_getElem_cons (by simp;omega)]
      simp
     have hlen:((hs.drop p).take n).length=n:=by simp;omega
     generalize hsg:(hs.drop p).take n=sg at *
     all_goals (refine go ?_;and_intros<;>(try exact trivial)<;>intros)
     repeat' ((first|(apply G.slp (l:=p) (h:=p+n) (off:=oa+p*1) (len:=n);rfl;rfl;rfl;omega;omega;omega;omega;omega;rfl;omega;rfl)|(apply G.mkm;rfl;intro bq))<;>(refine go ?_;and_intros<;>(try exact trivial)<;>intros))
     refine J.loop (c:=_) ((0,#[],0,[]):Nat×Array MapEntry×Nat×List (Int×Int)) (fun s=>n-s.1) (fun s=>[(2,.pointer (some ⟨_,0,none⟩)),(4,.pointer (some ⟨_,0,none⟩)),(9,.pointer (some ⟨bl,0,none⟩)),(10,.int .i64 k),(12,.map (some bq)),(33,.slice (some ⟨bb,ob,none⟩) l.length d),(34,.int .i64 l.length),(35,.int .i64 k),(70,.slice (some ⟨ba,oa+p*1,none⟩) n _),(71,.int .i64 n),(72,.int .i64 s.1)]) (fun s=>[.obj bq (.map s.2.1 s.2.2.1),.blk bl 123 [.slice (some ⟨bb,ob,none⟩) l.length d,.map (some bm),.bool S.neg,.string (bs S.num),.string (bs S.den)] 5,.inv bm (Rates l),slRow w.heap.size (some ⟨bb,ob,none⟩) 7 (l.map spV),.blk _ 25 [.bool false,.string (bs []),.string (bs [])] 3,.blk _ 30 [.int .i64 f,.slice (some ⟨ba,oa,none⟩) hs.length c] 2]) (fun s=>s.1<=n/\MapIs (Value.int .i64) s.2.1 s.2.2.1 (s.2.2.2.map iv)/\wsum g s.2.2.2+segSum g (sg.drop s.1)=segSum g sg/\okL s.1 s.2.2.2/\s.2.2.2.length<=s.1) ?_ sbT sbL ?_
     ·exact ⟨Nat.zero_le _,MapIs.nil,Rat.zero_add _,fun p hp=>(by cases hp),Nat.le_refl _⟩
     intro ⟨i,es,ck,Lc⟩ ⟨e1,hI,e2,e3,e4⟩ ih2
     dsimp only at e1 hI e2 e3 e4 ⊢
     by_cases hin:i < n
     ·have hr1:RowAt w ba (oa+p*1+i*1) [.int .i64 hs[p+i]]:=by
       have:=hra (p+i) (by omega)
       rw [show oa+p*1+i*1=oa+(p+i)*1 by omega];exact this
      have hx:=k4 (p+i) (by omega)
      rw [hseg i hin,segSum] at e2
      clear hra
      generalize hs[p+i]=z at *
      have hcn:=okL.cnt (x:=z) (Int.natCast_nonneg i) e3
      all_goals (refine go ?_;and_intros<;>(try exact trivial)<;>intros)
      repeat' ((first|(apply G.lk (kf:=Value.int .i64) (a:=z) hI;rfl;rfl;exact mm;exact get_iv z Lc;rfl)|(apply G.mu (kf:=Value.int .i64) (a:=z) hI (put_iv z Lc);rfl;rfl;rfl;rfl;(repeat (first|exact RAt.head|apply RAt.tail));intro es2 c2 hI2))<;>(refine go ?_;and_intros<;>(try exact trivial)<;>intros))
      exact J.fin (ih2 (i+1,es2,c2,bump z Lc) ⟨hin,hI2,by dsimp only;rw [wsum_bump];grind,by dsimp only;exact_mod_cast okL.bump hx (Int.natCast_nonneg i) e3,by dsimp only;have:=okL.len (x:=z) Lc;omega⟩ (by dsimp only;omega))
     ·obtain rfl:i=n:=by omega
      rw [show sg.drop i=[] from List.drop_eq_nil_of_le (by omega),segSum,Rat.add_zero] at e2
      clear ih2
      all_goals (refine go ?_;and_intros<;>(try exact trivial)<;>intros)
      repeat' ((first|(apply G.rg;rfl;exact mm;rfl;intro br))<;>(refine go ?_;and_intros<;>(try exact trivial)<;>intros))
      rw [<- e2,<- Rat.add_assoc] at h6
      clear e2 e1
      refine J.front3 (r1:=.blk bl 123 [.slice (some ⟨bb,ob,none⟩) l.length d,.map (some bm),.bool S.neg,.string (bs S.num),.string (bs S.den)] 5) (r2:=.inv bm (Rates l)) (r3:=slRow w.heap.size (some ⟨bb,ob,none⟩) 7 (l.map spV)) (by (repeat (first|exact Pick.head|apply Pick.tail))) (by (repeat (first|exact Pick.head|apply Pick.tail))) (by (repeat (first|exact Pick.head|apply Pick.tail))) ?_
      refine J.loop (c:=_) ((x,S,#[],Lc):Rat×Q3×Array Nat×List (Int×Int)) (fun s=>s.2.2.2.length) (fun s=>[(2,.pointer (some ⟨_,0,none⟩)),(4,.pointer (some ⟨_,0,none⟩)),(9,.pointer (some ⟨bl,0,none⟩)),(10,.int .i64 k),(33,.slice (some ⟨bb,ob,none⟩) l.length d),(34,.int .i64 l.length),(35,.int .i64 k),(82,.pointer (some ⟨br,0,none⟩))]) (fun s=>[.blk bl 123 [.slice (some ⟨bb,ob,none⟩) l.length d,.map (some bm),.bool s.2.1.neg,.string (bs s.2.1.num),.string (bs s.2.1.den)] 5,.inv bm (Rates l),slRow w.heap.size (some ⟨bb,ob,none⟩) 7 (l.map spV),.obj br (.mapIter (some bq) ck s.2.2.1 ck),.obj bq (.map es ck),.blk _ 25 [.bool false,.string (bs []),.string (bs [])] 3,.blk _ 30 [.int .i64 f,.slice (some ⟨ba,oa,none⟩) hs.length c] 2]) (fun s=>s.2.1=rQ s.1/\s.2.2.2.length<=i/\fewQ (1+150000*k+150*(i-s.2.2.2.length)) s.2.1/\s.1+wsum g s.2.2.2+V=T/\Rem (Value.int .i64) es s.2.2.1 (s.2.2.2.map iv)/\okL i s.2.2.2) ?_ sbT sbL ?_
      ·exact ⟨h4,e4,fewQ_le h5 (by omega),h6,Rem.start hI,e3⟩
      clear h4 h5 h6 e3 e4
      intro ⟨x1,S1,seen,R⟩ ⟨h4,e4,h5,h6,hRm,e3⟩ ih2
      dsimp only at h4 e4 h5 h6 hRm e3 ⊢
      by_cases hR0:R=[]
      ·subst hR0
       clear ih2
       all_goals (refine go ?_;and_intros<;>(try exact trivial)<;>intros)
       repeat' ((first|(apply G.nx0 hI hRm;rfl;rfl;exact mm;exact mm))<;>(refine go ?_;and_intros<;>(try exact trivial)<;>intros))
       exact J.fin (ih (k+1,x1,S1) ⟨hk,h4,fewQ_le h5 (by dsimp only;omega),by dsimp only;rw [wsum,Rat.add_zero] at h6;rw [hV];exact h6,h7'⟩ (by dsimp only;omega))
      ·have hadd:∀ j (hj:j < R.length),(S1=rQ x1/\fewQ (1+150000*k+150*(i-R.length)) S1/\(1+150000*k+150*(i-R.length))<=134217728)/\(∀ s∈l,PtsAt w s)/\(∀ s∈l,fewS s)/\(∀ s∈l,RightS s)/\(k:Int) < l.length/\(0<=R[j].1/\R[j].1<=1000)/\l.length<=1000000/\(∃ b' off,(some ⟨bb,ob,none⟩:Option Addr)=some ⟨b',off,none⟩∨l=[])/\-999999999999999<=R[j].2/\R[j].2<=999999999999999:=fun j hj=>by
        have:=e3 _ (List.getElem_mem hj)
        exact ⟨⟨h4,h5,by omega⟩,hB.2,hf,k2,by omega,this.1,by omega,⟨bb,ob,.inl rfl⟩,by omega,by omega⟩
       all_goals (refine go ?_;and_intros<;>(try exact trivial)<;>intros)
       repeat' ((first|(apply G.nx1 hI hRm (fun e=>hR0 (List.map_eq_nil_iff.1 e));rfl;rfl;(repeat (first|exact RAt.head|apply RAt.tail));exact mm;intro j hj seen' hRm' ⟨e,he,hsn,hek,hev⟩;rw [List.length_map] at hj;rw [List.getElem_map,iv] at hek hev;dsimp only at hek hev)|(apply G.en hI he hsn hek hev;rfl;rfl;exact mm;exact mm)|(apply G.addL rfl x1 (1+150000*k+150*(i-R.length));rfl;rfl;(repeat (first|exact Pick.head|apply Pick.tail));(repeat (first|exact Pick.head|apply Pick.tail));(repeat (first|exact Pick.head|apply Pick.tail));exact hadd j hj;intro S2 hS2))<;>(refine go ?_;and_intros<;>(try exact trivial)<;>intros))
       have hj3:=e3 _ (List.getElem_mem hj)
       rw [hof] at hS2
       have hfew:=fewQ_of (k:=(k:Int)) hf k2 hj3.1
       rw [hof] at hfew
       have hst:=fewQ_step (n:=R[j].2) (h4 ▸ h5) (by omega) (by omega) hfew
       rw [wsum_erase g R j hj] at h6
       have hlenR:(R.eraseIdx j).length=R.length-1:=by rw [List.length_eraseIdx,if_pos hj]
       exact J.fin (ih2 (x1+R[j].2*g R[j].1,S2,seen',R.eraseIdx j) ⟨hS2,by dsimp only;omega,by dsimp only;rw [hS2];exact fewQ_le hst (by omega),by dsimp only;grind,by dsimp only;rw [<- erase_map];exact hRm',fun p hp=>e3 p (List.mem_of_mem_eraseIdx hp)⟩ (by dsimp only;omega))
   ·rw [show l.any (outH f hs.length)=false from List.any_eq_false.2 fun x hx=>by
     obtain ⟨i,h8,rfl⟩:=List.getElem_of_mem hx
     rw [h7 i h8 (by omega)];decide]
    rw [if_neg (by decide)]
    rw [show k=l.length by omega,List.drop_length,volSum_nil,Rat.add_zero] at h6
    subst h6
    rw [<- h4]
    clear ih h7
    all_goals (refine go ?_;and_intros<;>(try exact trivial)<;>intros)
    all_goals refine ret2b Tryz.func21 Tryz.results21 ?_
    all_goals rfl
 ·rw [if_pos h1]
  generalize spansErr l=E at *
  refine enterA [(0,.agg #[.int .i64 f,.slice a hs.length c]),(1,.slice b l.length d)] Tryz.func21 Tryz.ntmps21 ?_
  all_goals (refine go ?_;and_intros<;>(try exact trivial)<;>intros)
  repeat' ((first|(refine G.cvb hc ?_))<;>(refine go ?_;and_intros<;>(try exact trivial)<;>intros))
  all_goals refine ret2b Tryz.func21 Tryz.results21 ?_
  all_goals rfl
def rawR (r:Rn) (s:Int):Prop:=r.tab=[(s,r.to_-r.from_)]/\r.lo=0/\r.hi=0
theorem rnV_len (r:Rn):(rnV r).length=5:=rfl
theorem bothEq_holds (p r:Rn) (s:Int) (w:World) (hp:rawR p s) (hr:rawR r s) (hA:TabAt w p) (hB:TabAt w r) (h1:0<=p.from_/\p.from_<=1402560) (h2:0<=r.to_/\r.to_<=1402560) :
  Calls Tryz.prog 109 #[rnA p,rnA r] w fun e w'=>∃ a' c',e=.returned (.tuple #[.agg #[.int .i64 p.from_,.int .i64 r.to_,.slice a' 1 c',.int .i64 0,.int .i64 0],.bool true])/\SlAt w' a' 2 ([(s,r.to_-p.from_)].map hoV)/\(∀ p,a'=some p->w.heap.size<=p.block)/\Below w.heap.size w w':=by
 have hra:=fun w'=>raw_holds p w'
 have hrb:=fun w'=>raw_holds r w'
 have hh:=fun w'=>held_holds p.from_ r.to_ s w' h1 h2
 obtain ⟨f,t,tab,adr,cap,lo,hi⟩:=p
 obtain ⟨f2,t2,tab2,adr2,cap2,lo2,hi2⟩:=r
 dsimp only [rawR] at hp hr h1 h2 hh
 obtain ⟨rfl,rfl,rfl⟩:=hp
 obtain ⟨rfl,rfl,rfl⟩:=hr
 obtain ⟨b1,o1,rfl,hr1⟩:=SlAt.all hA (Nat.succ_pos _)
 obtain ⟨b2,o2,rfl,hr2⟩:=SlAt.all hB (Nat.succ_pos _)
 have hr1:=hr1 0 (Nat.succ_pos _)
 have hr2:=hr2 0 (Nat.succ_pos _)
 dsimp only [rnA,hoV,List.getElem_cons_zero,List.length_cons,List.length_nil,List.map_cons,List.map_nil] at *
 simp only [Nat.zero_add,eq_self,decide_true] at hra hrb
 refine enterA [(0,.agg #[.int .i64 f,.int .i64 t,.slice (some ⟨b1,o1,none⟩) 1 cap,.int .i64 0,.int .i64 0]),(1,.agg #[.int .i64 f2,.int .i64 t2,.slice (some ⟨b2,o2,none⟩) 1 cap2,.int .i64 0,.int .i64 0])] Tryz.func109 Tryz.ntmps109 ?_
 all_goals (refine goR ?_;and_intros<;>(try exact trivial)<;>intros)
 repeat' ((first|(apply G.cV (g:=143) (vs:=[.agg #[.int .i64 f,.int .i64 t,.slice (some ⟨b1,o1,none⟩) 1 cap,.int .i64 0,.int .i64 0]]);rfl;rfl;exact fun w' _=>hra w')|(apply G.cV (g:=143) (vs:=[.agg #[.int .i64 f2,.int .i64 t2,.slice (some ⟨b2,o2,none⟩) 1 cap2,.int .i64 0,.int .i64 0]]);rfl;rfl;exact fun w' _=>hrb w')|(apply J.regA (.q 0 <| .q 1 <| .q 2 <| .q 3 <| .q 4 <| .q 5 <| .q 6 <| .q 7 <| .q 8 <| .e 9 <| .r 10 <| .q 11 <| .nil);exact Tryz.mixed;decide +kernel)|(apply G.cN (g:=108) (fun a' c'=>.agg #[.int .i64 f,.int .i64 t2,.slice a' 1 c',.int .i64 0,.int .i64 0]) ([(s,t2-f)].map hoV);rfl;rfl;exact fun w' _=>hh w';intro a1 c1 hp1 hq1)|(apply J.regQ;exact Tryz.mixed;decide +kernel)|(apply J.regL';exact Tryz.mixed;decide +kernel))<;>(refine goR ?_;and_intros<;>(try exact trivial)<;>intros))
 refine ret2 Tryz.func109 Tryz.results109 ?_
 exact fun w' hw'=>⟨a1,c1,rfl,hw'.sl (N:=w.heap.size) mm,hq1,hw'.below⟩
theorem bothNe_holds (p r:Rn) (s u:Int) (w:World) (hp:rawR p s) (hr:rawR r u) (hA:TabAt w p) (hB:TabAt w r) (hsu:s≠u) :
  Calls Tryz.prog 109 #[rnA p,rnA r] w fun e w'=>e=.returned (.tuple #[.agg #[.int .i64 0,.int .i64 0,.slice none 0 0,.int .i64 0,.int .i64 0],.bool false])/\Below w.heap.size w w':=by
 have hra:=fun w'=>raw_holds p w'
 have hrb:=fun w'=>raw_holds r w'
 have hga:=fun w'=>gap_holds p w'
 obtain ⟨f,t,tab,adr,cap,lo,hi⟩:=p
 obtain ⟨f2,t2,tab2,adr2,cap2,lo2,hi2⟩:=r
 dsimp only [rawR] at hp hr
 obtain ⟨rfl,rfl,rfl⟩:=hp
 obtain ⟨rfl,rfl,rfl⟩:=hr
 obtain ⟨b1,o1,rfl,hr1⟩:=SlAt.all hA (Nat.succ_pos _)
 obtain ⟨b2,o2,rfl,hr2⟩:=SlAt.all hB (Nat.succ_pos _)
 have hr1:=hr1 0 (Nat.succ_pos _)
 have hr2:=hr2 0 (Nat.succ_pos _)
 dsimp only [rnA,hoV,List.getElem_cons_zero,List.length_cons,List.length_nil,List.map_cons,List.map_nil] at *
 simp only [Nat.zero_add,eq_self,decide_true,Nat.one_ne_zero,decide_false] at hra hrb hga
 refine enterA [(0,.agg #[.int .i64 f,.int .i64 t,.slice (some ⟨b1,o1,none⟩) 1 cap,.int .i64 0,.int .i64 0]),(1,.agg #[.int .i64 f2,.int .i64 t2,.slice (some ⟨b2,o2,none⟩) 1 cap2,.int .i64 0,.int .i64 0])] Tryz.func109 Tryz.ntmps109 ?_
 all_goals (refine goR ?_;and_intros<;>(try exact trivial)<;>intros)
 repeat' ((first|(apply G.cV (g:=143) (vs:=[.agg #[.int .i64 f,.int .i64 t,.slice (some ⟨b1,o1,none⟩) 1 cap,.int .i64 0,.int .i64 0]]);rfl;rfl;exact fun w' _=>hra w')|(apply G.cV (g:=143) (vs:=[.agg #[.int .i64 f2,.int .i64 t2,.slice (some ⟨b2,o2,none⟩) 1 cap2,.int .i64 0,.int .i64 0]]);rfl;rfl;exact fun w' _=>hrb w')|(apply G.cV (g:=56) (vs:=[.agg #[.int .i64 f,.int .i64 t,.slice (some ⟨b1,o1,none⟩) 1 cap,.int .i64 0,.int .i64 0]]);rfl;rfl;exact fun w' _=>hga w')|(apply J.regQ;exact Tryz.mixed;decide +kernel)|(apply J.regL';exact Tryz.mixed;decide +kernel))<;>(refine goR ?_;and_intros<;>(try exact trivial)<;>intros))
 all_goals refine ret2b Tryz.func109 Tryz.results109 ?_
 all_goals rfl
def ofStep (o:List (Int×Int×Int)) (k s:Int):List (Int×Int×Int):=match o.getLast? with
 | none=>[(k,k+1,s)]
 | some p=>if p.2.2=s then o.dropLast++[(p.1,k+1,s)] else o++[(k,k+1,s)]
def ofL:Int->List Int->List (Int×Int×Int)->List (Int×Int×Int)
 | _,[],o=>o
 | k,s::r,o=>ofL (k+1) r (ofStep o k s)
def stg (r:Rn):Int:=(r.tab.headD (0,0)).1
def key (r:Rn):Int×Int×Int:=(r.from_,r.to_,stg r)
def RawsOf (o:List Rn) (l:List (Int×Int×Int)):Prop:=o.map key=l/\∀ r∈o,rawR r (stg r)
def newR (N:Nat) (o:List Rn):Prop:=∀ r∈o,∀ p,r.adr=some p->N<=p.block
theorem famTab {w0 w:World}{M:List Row}{N:Nat}{o:List Rn}{r:Rn} (hw:Sat w0 M w) (hr:r∈o) (hm:famRow N Rn.adr 2 (fun r=>r.tab.map hoV) o∈M:=by (repeat (first|exact List.Mem.head _|apply List.Mem.tail))):TabAt w r:=hw.fam hm r hr
theorem slTab {w0 w:World}{M:List Row}{N:Nat}{r:Rn} (hw:Sat w0 M w) (hm:slRow N r.adr 2 (r.tab.map hoV)∈M:=by (repeat (first|exact List.Mem.head _|apply List.Mem.tail))):TabAt w r:=hw.sl hm
theorem ofRuns_holds (f:Int) (a:Option Addr) (hs:List Int) (c:Nat) (w:World) (hA:SlAt w a 1 (hs.map isV)) (hl:hs.length<=1000) (hr:rightH f hs=true) :
  Calls Tryz.prog 59 #[.agg #[.int .i64 f,.slice a hs.length c]] w fun e w'=>∃ (L:List Rn) (a':Option Addr) (c':Nat),RawsOf L (ofL f hs [])/\e=.returned (.tuple #[.slice a' L.length c',.int .i64 0])/\L.length<=c'/\L.length<=hs.length/\RunsAt w' a' L/\(∀ p,a'=some p->w.heap.size<=p.block)/\newR w.heap.size L/\Below w.heap.size w w':=by
 have hri:=fun w' (hb:Below w.heap.size w w')=>hRight_holds f a hs c w' (hA.below hb) (by omega)
 rw [hr] at hri
 obtain ⟨k3,k4⟩:=rightH_ok hr
 generalize hT:ofL f hs []=T
 refine enterA [(0,.agg #[.int .i64 f,.slice a hs.length c])] Tryz.func59 Tryz.ntmps59 ?_
 all_goals (refine go ?_;and_intros<;>(try exact trivial)<;>intros)
 repeat' ((first|(refine G.cvb hri ?_))<;>(refine go ?_;and_intros<;>(try exact trivial)<;>intros))
 clear hri
 apply J.nilOwn (E:=67) (size:=5)
 apply J.fam0 Rn.adr 2 (fun r=>r.tab.map hoV)
 refine J.loop (c:=_) ((0,.slice none 0 0,0,[]):Nat×Value×Nat×List Rn) (fun s=>hs.length-s.1) (fun s=>[(1,.pointer (some ⟨_,0,none⟩)),(4,s.2.1),(14,.slice a hs.length c),(15,.int .i64 hs.length),(16,.int .i64 s.1)]) (fun s=>[famRow w.heap.size Rn.adr 2 (fun r=>r.tab.map hoV) s.2.2.2,.own 0 s.2.1 67 5 s.2.2.1 (flat rnV s.2.2.2),.blk _ 30 [.int .i64 f,.slice a hs.length c] 2]) (fun s=>s.1<=hs.length/\s.2.2.2.length=s.2.2.1/\s.2.2.1<=s.1/\ofL (f+s.1) (hs.drop s.1) (s.2.2.2.map key)=T/\(∀ r∈s.2.2.2,rawR r (stg r))/\(∀ r∈s.2.2.2,0<=r.from_/\r.from_<=1402560)/\newR w.heap.size s.2.2.2) ?_ sbT sbL ?_
 ·exact ⟨Nat.zero_le _,rfl,Nat.le_refl _,by dsimp only;rw [List.drop_zero,List.map_nil,Int.natCast_zero,Int.add_zero];exact hT,fun r h=>(by cases h),fun r h=>(by cases h),fun r h=>(by cases h)⟩
 clear hT
 intro ⟨k,u,j,o⟩ ⟨h3,h4,h5,h6,h7,h8,h9⟩ ih
 dsimp only at h3 h4 h5 h6 h7 h8 h9 ⊢
 by_cases hk:k < hs.length
 ·obtain ⟨ba,oa,rfl,hra⟩:=SlAt.all hA (by omega)
  have hrk:=hra k hk
  rw [List.drop_eq_getElem_cons hk,ofL] at h6
  generalize hs[k]=s at *
  dsimp only [isV] at *
  have hh:=fun w'=>held_holds (f+k) (f+k+1) s w' (by omega) (by omega)
  rcases nil_or_snoc o with rfl|⟨o',p,rfl⟩
  ·obtain rfl:j=0:=by simpa using h4.symm
   all_goals (refine go ?_;and_intros<;>(try exact trivial)<;>intros)
   repeat' ((first|(apply G.cN (g:=108) (fun a' c'=>.agg #[.int .i64 (f+k),.int .i64 (f+k+1),.slice a' 1 c',.int .i64 0,.int .i64 0]) ([(s,f+k+1-(f+k))].map hoV);rfl;rfl;exact fun w' _=>hh w';intro a1 c1 hp1 hq1)|(apply G.sliceL;rfl;rfl;rfl;rfl;rfl;rfl;rfl;rfl;intro Bs)|(apply G.ap;rfl;rfl;rfl;(repeat (first|exact RAt.head|apply RAt.tail));exact SrcV.blk (by exact mm) rfl rfl;exact flat1 rnV [] ⟨f+k,f+k+1,[(s,f+k+1-(f+k))],a1,c1,0,0⟩;omega;omega;intro v2)|(refine G.ownOpen RAt.au (by omega) ?_;intro g cap hgc hcm hv;subst hv))<;>(refine go ?_;and_intros<;>(try exact trivial)<;>intros))
   refine J.blkCut (l':=[⟨f+k,f+k+1,[(s,f+k+1-(f+k))],a1,c1,0,0⟩]) 1 rnV_len RAt.au hgc hcm (Nat.le_refl _) rfl ?_
   refine J.famAdd (r:=(⟨f+k,f+k+1,[(s,f+k+1-(f+k))],a1,c1,0,0⟩:Rn)) (o:=[]) mm mm ?_
   exact J.fin (ih (k+1,_,1,[⟨f+k,f+k+1,[(s,f+k+1-(f+k))],a1,c1,0,0⟩]) ⟨hk,rfl,by dsimp only;omega,by dsimp only;rw [<- h6,show f+((k+1:Nat):Int)=f+k+1 by omega];rfl,fun r hr=>by rw [List.mem_singleton.1 hr];exact ⟨rfl,rfl,rfl⟩,fun r hr=>by rw [List.mem_singleton.1 hr];dsimp only;omega,fun r hr=>by rw [List.mem_singleton.1 hr];exact hq1⟩ (by dsimp only;omega))
  ·have hj:j=o'.length+1:=by rw [<- h4];simp
   have hpm:p∈o'++[p]:=by simp
   have hp7:=h7 p hpm
   have hp8:=h8 p hpm
   rw [List.map_append,List.map_cons,List.map_nil,ofStep,List.getLast?_concat] at h6
   dsimp only at h6
   subst hj
   have hrw:∀ a1 c1,rawR (⟨f+k,f+k+1,[(s,f+k+1-(f+k))],a1,c1,0,0⟩:Rn) s:=fun _ _=>⟨rfl,rfl,rfl⟩
   have hL1:∀ a1 c1,((o'++[p])++[(⟨f+k,f+k+1,[(s,f+k+1-(f+k))],a1,c1,0,0⟩:Rn)])[o'.length]?=some p:=fun _ _=>by simp
   have hL2:∀ a1 c1,((o'++[p])++[(⟨f+k,f+k+1,[(s,f+k+1-(f+k))],a1,c1,0,0⟩:Rn)])[o'.length+1]?=some ⟨f+k,f+k+1,[(s,f+k+1-(f+k))],a1,c1,0,0⟩:=fun _ _=>by simp
   by_cases hs:stg p=s
   ·rw [if_pos (show (key p).2.2=s from hs),List.dropLast_concat] at h6
    dsimp only [key] at h6
    rw [hs] at hp7
    have hbe:=fun a1 c1 w' hA' hB'=>bothEq_holds p ⟨f+k,f+k+1,[(s,f+k+1-(f+k))],a1,c1,0,0⟩ s w' hp7 (hrw a1 c1) hA' hB' hp8 (by dsimp only;omega)
    dsimp only at hbe
    all_goals (refine goR ?_;and_intros<;>(try exact trivial)<;>intros)
    repeat' ((first|(apply G.cN (g:=108) (fun a' c'=>.agg #[.int .i64 (f+k),.int .i64 (f+k+1),.slice a' 1 c',.int .i64 0,.int .i64 0]) ([(s,f+k+1-(f+k))].map hoV);rfl;rfl;exact fun w' _=>hh w';intro a1 c1 hp1 hq1)|(apply G.sliceL;rfl;rfl;rfl;rfl;rfl;rfl;rfl;rfl;intro Bs)|(apply G.ap;rfl;rfl;rfl;(repeat (first|exact RAt.head|apply RAt.tail));exact SrcV.blk (by exact mm) rfl rfl;exact flat1 rnV (o'++[p]) ⟨f+k,f+k+1,[(s,f+k+1-(f+k))],a1,c1,0,0⟩;omega;omega;intro v2)|(refine G.ownOpen RAt.au (by omega) ?_;intro g cap hgc hcm hv;subst hv)|(apply J.regA (.q 0 <| .q 1 <| .q 2 <| .q 3 <| .q 4 <| .q 5 <| .q 6 <| .q 7 <| .q 8 <| .q 9 <| .f 10 (.q 11 <| .q 12 <| .q 13 <| .e 14 <| .r 15 <| .q 16 <| .nil) 14 (.e 10 <| .q 11 <| .q 12 <| .q 13 <| .r 15 <| .q 16 <| .nil));exact Tryz.mixed;decide +kernel)|(apply G.ix (i:=o'.length);rfl;rfl;omega;omega;rfl)|(apply G.ix (i:=o'.length+1);rfl;rfl;omega;omega;rfl)|(apply G.ld;rfl;exact LdV.flat rnV_len mm (hL1 a1 c1) rfl;rfl)|(apply G.ld;rfl;exact LdV.flat rnV_len mm (hL2 a1 c1) rfl;rfl)|(apply G.cN (g:=109) (fun a' c'=>.tuple #[.agg #[.int .i64 p.from_,.int .i64 (f+k+1),.slice a' 1 c',.int .i64 0,.int .i64 0],.bool true]) ([(s,f+k+1-p.from_)].map hoV);rfl;rfl;exact fun w' hw'=>hbe a1 c1 w' (famTab (N:=w.heap.size) hw' hpm) (slTab (N:=w.heap.size) hw');intro a2 c2 hp2 hq2)|(apply G.fork)|(apply J.regQ;exact Tryz.mixed;decide +kernel)|(apply J.regL';exact Tryz.mixed;decide +kernel))<;>(refine goR ?_;and_intros<;>(try exact trivial)<;>intros))
    all_goals
     refine J.blkCut (l':=o') o'.length rnV_len RAt.au (by omega) hcm (by simp) (by simp) ?_
     all_goals (refine goR ?_;and_intros<;>(try exact trivial)<;>intros)
     repeat' ((first|(apply J.regA (.q 0 <| .q 1 <| .q 2 <| .q 3 <| .q 4 <| .e 5 <| .r 6 <| .q 7 <| .nil);exact Tryz.mixed;decide +kernel)|(apply G.slH (len:=o'.length);rfl;rfl;omega;omega;omega;rfl)|(apply G.sliceL;rfl;rfl;rfl;rfl;rfl;rfl;rfl;rfl;intro Bs)|(apply G.ap;rfl;rfl;rfl;(repeat (first|exact RAt.head|apply RAt.tail));exact SrcV.blk (by exact mm) rfl rfl;exact flat1 rnV o' ⟨p.from_,f+k+1,[(s,f+k+1-p.from_)],a2,c2,0,0⟩;omega;omega;intro v3)|(apply J.regQ;exact Tryz.mixed;decide +kernel)|(apply J.regL';exact Tryz.mixed;decide +kernel))<;>(refine goR ?_;and_intros<;>(try exact trivial)<;>intros))
     refine J.famSub (o:=o'++[p]) (o':=o') mm (fun r hr=>List.mem_append_left _ hr) ?_
     refine J.famAdd (r:=(⟨p.from_,f+k+1,[(s,f+k+1-p.from_)],a2,c2,0,0⟩:Rn)) (o:=o') mm mm ?_
     exact J.fin (ih (k+1,_,o'.length+1,o'++[⟨p.from_,f+k+1,[(s,f+k+1-p.from_)],a2,c2,0,0⟩]) ⟨hk,by simp,by dsimp only;omega,by dsimp only;rw [<- h6,show f+((k+1:Nat):Int)=f+k+1 by omega,List.map_append];rfl,fun r hr=>(List.mem_append.1 hr).elim (fun h=>h7 r (List.mem_append_left _ h)) (fun h=>by rw [List.mem_singleton.1 h];exact ⟨rfl,rfl,rfl⟩),fun r hr=>(List.mem_append.1 hr).elim (fun h=>h8 r (List.mem_append_left _ h)) (fun h=>by rw [List.mem_singleton.1 h];exact hp8),fun r hr=>(List.mem_append.1 hr).elim (fun h=>h9 r (List.mem_append_left _ h)) (fun h=>by rw [List.mem_singleton.1 h];exact hq2)⟩ (by dsimp only;omega))
   ·rw [if_neg (show ¬ (key p).2.2=s from hs)] at h6
    have hbn:=fun a1 c1 w' hA' hB'=>bothNe_holds p ⟨f+k,f+k+1,[(s,f+k+1-(f+k))],a1,c1,0,0⟩ (stg p) s w' hp7 (hrw a1 c1) hA' hB' hs
    all_goals (refine goR ?_;and_intros<;>(try exact trivial)<;>intros)
    repeat' ((first|(apply G.cN (g:=108) (fun a' c'=>.agg #[.int .i64 (f+k),.int .i64 (f+k+1),.slice a' 1 c',.int .i64 0,.int .i64 0]) ([(s,f+k+1-(f+k))].map hoV);rfl;rfl;exact fun w' _=>hh w';intro a1 c1 hp1 hq1)|(apply G.sliceL;rfl;rfl;rfl;rfl;rfl;rfl;rfl;rfl;intro Bs)|(apply G.ap;rfl;rfl;rfl;(repeat (first|exact RAt.head|apply RAt.tail));exact SrcV.blk (by exact mm) rfl rfl;exact flat1 rnV (o'++[p]) ⟨f+k,f+k+1,[(s,f+k+1-(f+k))],a1,c1,0,0⟩;omega;omega;intro v2)|(refine G.ownOpen RAt.au (by omega) ?_;intro g cap hgc hcm hv;subst hv)|(apply J.regA (.q 0 <| .q 1 <| .q 2 <| .q 3 <| .q 4 <| .q 5 <| .q 6 <| .q 7 <| .q 8 <| .q 9 <| .q 10 <| .q 11 <| .q 12 <| .q 13 <| .e 14 <| .r 15 <| .q 16 <| .nil);exact Tryz.mixed;decide +kernel)|(apply G.ix (i:=o'.length);rfl;rfl;omega;omega;rfl)|(apply G.ix (i:=o'.length+1);rfl;rfl;omega;omega;rfl)|(apply G.ld;rfl;exact LdV.flat rnV_len mm (hL1 a1 c1) rfl;rfl)|(apply G.ld;rfl;exact LdV.flat rnV_len mm (hL2 a1 c1) rfl;rfl)|(apply G.cV (g:=109);rfl;rfl;exact fun w' hw'=>hbn a1 c1 w' (famTab (N:=w.heap.size) hw' hpm) (slTab (N:=w.heap.size) hw'))|(apply J.regQ;exact Tryz.mixed;decide +kernel)|(apply J.regL';exact Tryz.mixed;decide +kernel))<;>(refine goR ?_;and_intros<;>(try exact trivial)<;>intros))
    refine J.blkCut (l':=o'++[p]++[⟨f+k,f+k+1,[(s,f+k+1-(f+k))],a1,c1,0,0⟩]) (o'.length+2) rnV_len RAt.au (by omega) hcm (by simp) (by rw [List.take_of_length_le (by simp)]) ?_
    refine J.famAdd (r:=(⟨f+k,f+k+1,[(s,f+k+1-(f+k))],a1,c1,0,0⟩:Rn)) (o:=o'++[p]) mm mm ?_
    exact J.fin (ih (k+1,_,o'.length+2,o'++[p]++[⟨f+k,f+k+1,[(s,f+k+1-(f+k))],a1,c1,0,0⟩]) ⟨hk,by simp,by dsimp only;omega,by dsimp only;rw [<- h6,show f+((k+1:Nat):Int)=f+k+1 by omega,List.map_append,List.map_append];rfl,fun r hr=>(List.mem_append.1 hr).elim (fun h=>h7 r h) (fun h=>by rw [List.mem_singleton.1 h];exact ⟨rfl,rfl,rfl⟩),fun r hr=>(List.mem_append.1 hr).elim (fun h=>h8 r h) (fun h=>by rw [List.mem_singleton.1 h];dsimp only;omega),fun r hr=>(List.mem_append.1 hr).elim (fun h=>h9 r h) (fun h=>by rw [List.mem_singleton.1 h];exact hq1)⟩ (by dsimp only;omega))
 ·obtain rfl:k=hs.length:=by omega
  rw [List.drop_length,ofL] at h6
  subst h4
  apply J.ownForm (i:=1) rfl
  intro a2 c2 hu
  subst hu
  clear ih
  all_goals (refine go ?_;and_intros<;>(try exact trivial)<;>intros)
  refine ret2 Tryz.func59 Tryz.results59 ?_
  intro w' hw'
  have ho:=hw'.hold (Row.own 0 (.slice a2 o.length c2) 67 5 o.length (flat rnV o)) (by exact mm)
  refine ⟨o,a2,c2,⟨h6,h7⟩,rfl,?_,h5,⟨SlAt.ofOwn rnV_len ho rfl,fun r hr=>famTab (N:=w.heap.size) hw' hr⟩,?_,h9,hw'.below⟩
  ·obtain ⟨_,⟨e1,e2⟩|⟨g,cap,cur,e1,_,_,e2,_⟩⟩:=ho
   ·omega
   ·cases e1;exact e2
  ·rintro p rfl
   exact ((hw'.old (Row.own 0 (.slice (some p) o.length c2) 67 5 o.length (flat rnV o)) (by exact mm)).2 p.block rfl).1
theorem ofBad_holds (f:Int) (a:Option Addr) (hs:List Int) (c:Nat) (w:World) (hA:SlAt w a 1 (hs.map isV)) (hl:hs.length<=1000000000) (hr:rightH f hs=false) :
  Calls Tryz.prog 59 #[.agg #[.int .i64 f,.slice a hs.length c]] w fun e w'=>e=.returned (.tuple #[.slice none 0 0,.int .i64 1])/\Below w.heap.size w w':=by
 have hri:=fun w' (hb:Below w.heap.size w w')=>hRight_holds f a hs c w' (hA.below hb) hl
 rw [hr] at hri
 refine enterA [(0,.agg #[.int .i64 f,.slice a hs.length c])] Tryz.func59 Tryz.ntmps59 ?_
 all_goals (refine go ?_;and_intros<;>(try exact trivial)<;>intros)
 repeat' ((first|(refine G.cvb hri ?_))<;>(refine go ?_;and_intros<;>(try exact trivial)<;>intros))
 all_goals refine ret2b Tryz.func59 Tryz.results59 ?_
 all_goals rfl
theorem val_holds (f:Int) (a b:Option Addr) (hs:List Int) (l:List Spn) (c d:Nat) (w:World) (hA:SlAt w a 1 (hs.map isV)) (hB:SpansAt w b l) (hf:∀ s∈l,fewS s) (hl:hs.length<=1000) (hcap:hs.length<=c) :
  Calls Tryz.prog 21 #[.agg #[.int .i64 f,.slice a hs.length c],.slice b l.length d] w fun e w'=>e=.returned (.tuple #[qA (volE f hs l).1,.int .i64 (volE f hs l).2])/\Below w.heap.size w w':=by
 refine vValue_holds f a b hs l c d w hA hB hf hl hcap fun w' hb=>?_
 cases hr:rightH f hs with
 | false=>exact (ofBad_holds f a hs c w' (hA.below hb) (by omega) hr).mono fun e w'' h=>⟨.slice none 0 0,h.1,h.2⟩
 | true=>exact (ofRuns_holds f a hs c w' (hA.below hb) hl hr).mono fun e w'' ⟨L,a',c',_,h2,_,_,_,_,_,h8⟩=>⟨.slice a' L.length c',h2,h8⟩
theorem oneE_gap {r:Rn} (h:oneE r=0) (h0:r.tab.length=0):0<=r.lo/\r.lo<=r.hi/\r.hi<=1000:=by
 rw [oneE,if_pos h0] at h
 split at h
 ·cases h
 ·omega
theorem oneE_tab {r:Rn} (h:oneE r=0) (h0:r.tab.length≠0):(∀ x∈r.tab,(0<=x.1/\x.1<=1000)/\1<=x.2/\x.2<=1402560)/\sortedT none r.tab=true/\sumT r.tab=r.to_-r.from_/\r.lo=0/\r.hi=0:=by
 rw [oneE,if_neg h0] at h
 split at h
 ·cases h
 ·rename_i h1
  split at h
  ·rename_i h2
   refine ⟨fun x hx=>?_,h2⟩
   have h3:=fun e=>h1 (List.any_eq_true.2 ⟨x,hx,e⟩)
   simpa [badH] using h3
  ·cases h
theorem rnErr_one {p:Option Rn}{l:List Rn} (h:rnErr p l=0):∀ r∈l,oneE r=0:=by
 induction l generalizing p with
 | nil=>simp
 | cons s r ih =>
  obtain ⟨B,hs⟩:∃ B:Bool,(if inT s=false then 3 else if B=true then 1 else if oneE s≠0 then oneE s else rnErr (some s) r)=(0:Int):=by
   cases p with
   | none=>exact ⟨false,h⟩
   | some q=>exact ⟨decide (s.from_≠q.to_),h⟩
  by_cases c1:inT s=false
  ·rw [if_pos c1] at hs;cases hs
  rw [if_neg c1] at hs
  cases B
  ·rw [if_neg (by decide)] at hs
   by_cases c2:oneE s≠0
   ·rw [if_pos c2] at hs;exact absurd hs c2
   rw [if_neg c2] at hs
   intro t ht
   rcases List.mem_cons.1 ht with rfl|ht
   ·exact Decidable.not_not.1 c2
   ·exact ih hs t ht
  ·rw [if_pos rfl] at hs;cases hs
theorem runsErr_rn {l:List Rn} (h:runsErr l=0):rnErr none l=0:=by
 rw [runsErr] at h
 split at h
 ·cases h
 ·split at h
  ·rename_i h1;exact absurd h h1
  ·rename_i h1;exact Decidable.not_not.1 h1
theorem runsErr_one {l:List Rn} (h:runsErr l=0):∀ r∈l,oneE r=0:=rnErr_one (runsErr_rn h)
def tableE (r:Rn) (s:Spn):Q3×Int :=
 if runsErr [r]≠0 then (zero3,runsErr [r]) else if ¬ RightS s then (zero3,1) else if r.from_ < s.from_∨s.to_ < r.to_ then (zero3,3)
 else if r.tab.length=0 then (if rateOf s r.lo=rateOf s r.hi then (rQ (((r.to_-r.from_:Int):Rat)*rateOf s r.lo),0) else (zero3,29)) else (rQ (wsum (rateOf s) r.tab),0)
def ovl (r:Rn) (s:Spn):Int:=min s.to_ r.to_-max s.from_ r.from_
def clsS (r:Rn):Int->Int->List Spn->List (Int×Int)
 | _,rest,[]=>if 0 < rest then [(-1,rest)] else []
 | k,rest,s::t=>if ovl r s<=0 then clsS r (k+1) rest t else (k,ovl r s)::clsS r (k+1) (rest-ovl r s) t
def clsL (l:List Spn) (r:Rn):List (Int×Int):=clsS r 0 (r.to_-r.from_) l
def okE (l:List Spn) (r:Rn) (e:Int×Int):Prop:=match r.tab with
 | []=>ofR l e.1 r.lo=ofR l e.1 r.hi
 | h::_=>∀ x∈r.tab,ofR l e.1 x.1-ofR l ((clsL l r).headD (0,0)).1 x.1=ofR l e.1 h.1-ofR l ((clsL l r).headD (0,0)).1 h.1
def takeB (l:List Spn) (r:Rn):Prop:=∀ e∈clsL l r,okE l r e
def takeV (l:List Spn) (r:Rn):Rat:=match r.tab with
 | []=>wsum (fun k=>ofR l k r.lo) (clsL l r)
 | h::_=>wsum (ofR l ((clsL l r).headD (0,0)).1) r.tab+wsum (fun k=>ofR l k h.1-ofR l ((clsL l r).headD (0,0)).1 h.1) (clsL l r)
theorem clsS_ok {r:Rn}{l0:List Spn}:∀ (l:List Spn) (k q:Int),0<=k->k+l.length<=l0.length->q<=1402560->(∀ s∈l,0<=s.from_/\s.to_<=1402560)->∀ e∈clsS r k q l,e.1 < l0.length/\-1<=e.1/\0 < e.2/\e.2<=1402560
 | [],k,q,h0,h,hq,_,e,he=>by
  rw [clsS] at he
  split at he
  ·rw [List.mem_singleton.1 he];refine ⟨?_,Int.le_refl _,by assumption,hq⟩;dsimp only;omega
  ·cases he
 | s::t,k,q,h0,h,hq,hs,e,he=>by
  rw [clsS] at he
  have h1:=hs s (List.mem_cons_self ..)
  simp only [List.length_cons] at h
  split at he
  ·exact clsS_ok t (k+1) q (by omega) (by omega) hq (fun x hx=>hs x (List.mem_cons_of_mem _ hx)) e he
  ·rename_i h2
   unfold ovl at *
   rcases List.mem_cons.1 he with rfl|he
   ·refine ⟨?_,?_,?_,?_⟩<;>dsimp only<;>omega
   ·exact clsS_ok t (k+1) _ (by omega) (by omega) (by omega) (fun x hx=>hs x (List.mem_cons_of_mem _ hx)) e he
instance (l:List Spn) (r:Rn) (e:Int×Int):Decidable (okE l r e):=by unfold okE;split<;>exact inferInstance
instance (l:List Spn) (r:Rn):Decidable (takeB l r):=by unfold takeB;exact inferInstance
def outX (rs:List Rn) (s:Spn):Bool:=match rs[0]?,rs[rs.length-1]? with
 | some a,some b=>decide (s.from_ < a.from_) || decide (b.to_ < s.to_)
 | _,_=>true
def takeS (l:List Spn):List Rn->Rat
 | []=>0
 | r::t=>takeV l r+takeS l t
def exE (rs:List Rn) (l:List Spn):Q3×Int :=
 if runsErr rs≠0 then (zero3,runsErr rs) else if spansErr l≠0 then (zero3,spansErr l) else if l.any (outX rs)=true then (zero3,19) else if ∀ r∈rs,takeB l r then (rQ (takeS l rs),0) else (zero3,29)
def tabS (t:List (Int×Int)):List Int:=t.flatMap fun x=>List.replicate x.2.toNat x.1
def stagesR (r:Rn):List Int:=if r.tab.length=0 then List.replicate (r.to_-r.from_).toNat r.lo else tabS r.tab
def firstS:List Rn->List Int
 | []=>[]
 | r::t=>stagesR r++firstS t
def firstF (l:List Rn):Int:=match l with
 | []=>0
 | r::_=>r.from_
theorem tabS_cons (x:Int×Int) (t:List (Int×Int)):tabS (x::t)=List.replicate x.2.toNat x.1++tabS t:=List.flatMap_cons
def movP (x:Rn) (l:List Spn):Prop:=∃ (k:Nat) (h0:0 < x.tab.length) (hk:k < x.tab.length),0 < k/\∃ j:Nat,0 < j/\x.from_+j < x.to_/\worthOf l x.from_ x.tab[0].1+worthOf l (x.from_+j) x.tab[k].1≠worthOf l x.from_ x.tab[k].1+worthOf l (x.from_+j) x.tab[0].1
def badR (l:List Spn) (r:Rn):Prop:=(r.tab.length=0/\freeB r l=true)∨(r.tab.length≠0/\movP r l)
def pl:Int->List Spn->Int->Int
 | _,[],_=>-1
 | k,s::l,t=>if inS t s=true then k else pl (k+1) l t
def tS (g:Int->Rat):Int->Nat->Rat
 | _,0=>0
 | f,n+1=>g f+tS g (f+1) n
theorem tS_congr {g h:Int->Rat}:∀ (n:Nat) (f:Int),(∀ t,f<=t->t < f+n->g t=h t)->tS g f n=tS h f n
 | 0,_,_=>rfl
 | n+1,f,H=>by rw [tS,tS,H f (by omega) (by omega),tS_congr n (f+1) fun t h1 h2=>H t (by omega) (by omega)]
theorem tS_add (g h:Int->Rat):∀ (n:Nat) (f:Int),tS (fun t=>g t+h t) f n=tS g f n+tS h f n
 | 0,_=>by simp [tS,Rat.add_zero]
 | n+1,f=>by rw [tS,tS,tS,tS_add g h n];grind
theorem tS_in (s:Spn) (c:Rat):∀ (n:Nat) (f:Int),tS (fun t=>if inS t s=true then c else 0) f n=((max 0 (min s.to_ (f+n)-max s.from_ f):Int):Rat)*c
 | 0,f=>by
  rw [tS,show max 0 (min s.to_ (f+(0:Nat))-max s.from_ f)=(0:Int) from by omega];simp
 | n+1,f=>by
  rw [tS,tS_in s c n (f+1)]
  by_cases h:inS f s=true
  ·rw [if_pos h]
   simp only [inS,Bool.and_eq_true,decide_eq_true_eq] at h
   rw [show max 0 (min s.to_ (f+(n+1:Nat))-max s.from_ f)=max 0 (min s.to_ (f+1+n)-max s.from_ (f+1))+1 from by omega,Rat.intCast_add]
   grind
  ·rw [if_neg h]
   simp only [inS,Bool.and_eq_true,decide_eq_true_eq] at h
   rw [show max 0 (min s.to_ (f+(n+1:Nat))-max s.from_ f)=max 0 (min s.to_ (f+1+n)-max s.from_ (f+1)) from by omega]
   grind
theorem pl_late:∀ {l:List Spn}{x t:Int} (k:Int),InOrd x l->t < x->pl k l t=-1
 | [],_,_,_,_,_=>rfl
 | s::l,x,t,k,h,ht=>by
  rw [pl,if_neg (by have:=h.1;simp [inS];omega),pl_late (k+1) h.2.2 (by have:=h.1;have:=h.2.1;omega)]
theorem pl_cons {g:Int->Rat}{s:Spn}{l:List Spn}{x t k:Int} (h:InOrd x (s::l)):g (pl k (s::l) t)=(if inS t s=true then g k-g (-1) else 0)+g (pl (k+1) l t):=by
 rw [pl]
 by_cases hi:inS t s=true
 ·rw [if_pos hi,if_pos hi,pl_late (k+1) h.2.2 (by simp only [inS,Bool.and_eq_true,decide_eq_true_eq] at hi;exact hi.2)];grind
 ·rw [if_neg hi,if_neg hi];grind
theorem cls_sum {g:Int->Rat}{r:Rn}{n:Nat} (hn:r.to_=r.from_+n):∀ (l:List Spn) (x k q:Int),InOrd x l->0<=q->r.to_-max x r.from_<=q->tS (fun t=>g (pl k l t)) r.from_ n+((q-n:Int):Rat)*g (-1)=wsum g (clsS r k q l)
 | [],x,k,q,_,hq,_=>by
  have h1:tS (fun t=>g (pl k [] t)) r.from_ n=(n:Rat)*g (-1):=by
   generalize r.from_=f
   clear hn
   induction n generalizing f with
   | zero=>simp [tS]
   | succ n ih=>rw [tS,ih,pl,show ((n+1:Nat):Rat)=(n:Rat)+1 from by simp];grind
  have e:((n:Int):Rat)=(n:Rat):=rfl
  rw [h1,clsS,Rat.intCast_sub,e]
  split
  ·rw [wsum,wsum];grind
  ·rw [wsum,show q=0 from by omega];simp;grind
 | s::l,x,k,q,h,hq,h1=>by
  rw [tS_congr n r.from_ (h:=fun t=>(if inS t s=true then g k-g (-1) else 0)+g (pl (k+1) l t)) fun t _ _=>pl_cons h,tS_add,tS_in,clsS,<- hn]
  have:=h.1
  have:=h.2.1
  split
  ·rename_i ho
   rw [ovl] at ho
   rw [<- cls_sum hn l s.to_ (k+1) q h.2.2 hq (by omega),show max 0 (min s.to_ r.to_-max s.from_ r.from_)=(0:Int) from by omega]
   simp;grind
  ·rename_i ho
   rw [ovl] at ho
   rw [wsum,<- cls_sum hn l s.to_ (k+1) (q-ovl r s) h.2.2 (by rw [ovl];omega) (by rw [ovl];omega)]
   show ((max 0 (min s.to_ r.to_-max s.from_ r.from_):Int):Rat)*(g k-g (-1))+tS (fun t=>g (pl (k+1) l t)) r.from_ n+((q-n:Int):Rat)*g (-1)=((ovl r s:Int):Rat)*g k+(tS (fun t=>g (pl (k+1) l t)) r.from_ n+((q-ovl r s-n:Int):Rat)*g (-1))
   rw [show max 0 (min s.to_ r.to_-max s.from_ r.from_)=ovl r s from by rw [ovl];omega,show q-ovl r s-n=(q-n)-ovl r s from by omega,Rat.intCast_sub (q-n)]
   grind
theorem tS_pos {P:Int->Prop} [DecidablePred P]:∀ (n:Nat) (f:Int),0<=tS (fun t=>if P t then 1 else 0) f n/\(0 < tS (fun t=>if P t then 1 else 0) f n ↔ ∃ i:Nat,i < n/\P (f+i))
 | 0,f=>⟨Rat.le_refl,by simp [tS]⟩
 | n+1,f=>by
  have ⟨h1,h2⟩:=tS_pos (P:=P) n (f+1)
  rw [tS]
  have h3:(∃ i:Nat,i < n+1/\P (f+i)) ↔ P f∨∃ i:Nat,i < n/\P (f+1+i):=by
   constructor
   ·rintro ⟨i,hi,hp⟩
    cases i with
    | zero=>left;simpa using hp
    | succ i=>right;exact ⟨i,by omega,by rw [show f+1+(i:Int)=f+(i+1:Nat) from by omega];exact hp⟩
   ·rintro (hp|⟨i,hi,hp⟩)
    ·exact ⟨0,by omega,by simpa using hp⟩
    ·exact ⟨i+1,by omega,by rw [show f+((i+1:Nat):Int)=f+1+(i:Int) from by omega];exact hp⟩
  rw [h3,<- h2]
  split
  ·rename_i hp;exact ⟨by grind,by constructor<;>intro _<;>first|exact .inl hp|grind⟩
  ·rename_i hp
   rw [Rat.zero_add]
   exact ⟨h1,by simp [hp]⟩
theorem wsum_pos {P:Int->Prop} [DecidablePred P]:∀ (L:List (Int×Int)),(∀ e∈L,0 < e.2)->0<=wsum (fun t=>if P t then 1 else 0) L/\(0 < wsum (fun t=>if P t then 1 else 0) L ↔ ∃ e∈L,P e.1)
 | [],_=>⟨Rat.le_refl,by simp [wsum]⟩
 | (y,m)::L,h=>by
  have ⟨h1,h2⟩:=wsum_pos (P:=P) L fun e he=>h e (List.mem_cons_of_mem _ he)
  have h3:(0:Rat) < (m:Rat):=by have:=h _ (List.mem_cons_self ..);exact_mod_cast this
  rw [wsum]
  have h4:(∃ e∈(y,m)::L,P e.1) ↔ P y∨∃ e∈L,P e.1:=by simp
  rw [h4,<- h2]
  split
  ·rename_i hp;exact ⟨by grind,by constructor<;>intro _<;>first|exact .inl hp|grind⟩
  ·rename_i hp
   rw [Rat.mul_zero,Rat.zero_add]
   exact ⟨h1,by simp [hp]⟩
theorem rn_to {r:Rn} (h:inT r=true):r.to_=r.from_+(r.to_-r.from_).toNat:=by
 rw [inT,decide_eq_true_eq] at h;omega
theorem cls_pos {r:Rn}{l:List Spn} (h:inT r=true) (hR:∀ s∈l,RightS s):∀ e∈clsL l r,0 < e.2:=by
 rw [inT,decide_eq_true_eq] at h
 exact fun e he=>(clsS_ok (l0:=l) l 0 (r.to_-r.from_) (Int.le_refl _) (by omega) (by omega) (fun s hs=>by have:=(hR s hs).1;omega) e he).2.2.1
theorem clsL_sum {g:Int->Rat}{r:Rn}{l:List Spn}{x:Int} (h:inT r=true) (hl:InOrd x l):tS (fun t=>g (pl 0 l t)) r.from_ (r.to_-r.from_).toNat=wsum g (clsL l r):=by
 have h1:=rn_to h
 rw [inT,decide_eq_true_eq] at h
 rw [clsL,<- cls_sum h1 l x 0 (r.to_-r.from_) hl (by omega) (by omega),show r.to_-r.from_-((r.to_-r.from_).toNat:Int)=0 from by omega]
 simp;grind
theorem clsL_ex {P:Int->Prop}{r:Rn}{l:List Spn}{x:Int} (h:inT r=true) (hl:InOrd x l) (hR:∀ s∈l,RightS s):(∃ e∈clsL l r,P e.1) ↔ ∃ i:Nat,i < (r.to_-r.from_).toNat/\P (pl 0 l (r.from_+i)):=by
 haveI:DecidablePred P:=fun _=>Classical.propDecidable _
 rw [<- (wsum_pos (P:=P) (clsL l r) (cls_pos h hR)).2,<- clsL_sum h hl]
 exact (tS_pos (P:=fun t=>P (pl 0 l t)) _ _).2
theorem pl_worth {l:List Spn}{t st:Int}:worthOf l t st=ofR l (pl 0 l t) st:=by
 have key:∀ (m l0:List Spn) (k:Nat),l0.drop k=m->(match m[spanAt m t]? with|none=>0|some s=>rateOf s st)=ofR l0 (pl k m t) st:=by
  intro m
  induction m with
  | nil=>intro l0 k _;rw [pl,ofR,if_pos (by decide)];rfl
  | cons s m ih =>
   intro l0 k hd
   have hk:k < l0.length:=by
    rcases Nat.lt_or_ge k l0.length with h|h
    ·exact h
    ·rw [List.drop_eq_nil_of_le h] at hd;cases hd
   rw [List.drop_eq_getElem_cons hk] at hd
   injection hd with h1 h2
   rw [pl]
   unfold spanAt at *
   rw [List.findIdx_cons]
   by_cases hi:inS t s=true
   ·rw [if_pos hi,hi,ofR_at hk,h1];rfl
   ·rw [if_neg hi,Bool.eq_false_iff.2 hi,<- Int.natCast_succ,<- ih l0 (k+1) h2];rfl
 rw [worthOf]
 exact key l l 0 rfl
theorem volSum_app (l:List Spn):∀ (a b:List Int) (f:Int),volSum l f (a++b)=volSum l f a+volSum l (f+a.length) b
 | [],b,f=>by rw [volSum,List.nil_append,Rat.zero_add];simp
 | y::a,b,f=>by rw [List.cons_append,volSum,volSum,volSum_app l a b (f+1),List.length_cons,show f+((a.length+1:Nat):Int)=f+1+a.length from by omega];grind
theorem volSum_rep (l:List Spn) (x:Int):∀ (n:Nat) (f:Int),volSum l f (List.replicate n x)=tS (fun t=>worthOf l t x) f n
 | 0,_=>rfl
 | n+1,f=>by rw [List.replicate_succ,volSum,tS,volSum_rep l x n]
theorem volSum_sep (l:List Spn) (A B:Int->Rat):∀ (hs:List Int) (f:Int),(∀ t,f<=t->t < f+hs.length->∀ x∈hs,worthOf l t x=A x+B t)->volSum l f hs=segSum A hs+tS B f hs.length
 | [],_,_=>by rw [volSum,segSum];simp [tS,Rat.add_zero]
 | y::hs,f,h=>by
  rw [volSum,segSum,List.length_cons,tS,h f (by omega) (by rw [List.length_cons];omega) y (List.mem_cons_self ..),volSum_sep l A B hs (f+1) fun t h1 h2 x hx=>h t (by omega) (by rw [List.length_cons];omega) x (List.mem_cons_of_mem _ hx)]
  grind
theorem segSum_app (g:Int->Rat):∀ (a b:List Int),segSum g (a++b)=segSum g a+segSum g b
 | [],b=>by rw [List.nil_append,segSum,Rat.zero_add]
 | y::a,b=>by rw [List.cons_append,segSum,segSum,segSum_app g a b,Rat.add_assoc]
theorem segSum_rep (g:Int->Rat) (x:Int):∀ n:Nat,segSum g (List.replicate n x)=(n:Rat)*g x
 | 0=>by simp [segSum]
 | n+1=>by rw [List.replicate_succ,segSum,segSum_rep g x n,show ((n+1:Nat):Rat)=(n:Rat)+1 from by simp];grind
theorem segSum_tab (g:Int->Rat):∀ (t:List (Int×Int)),(∀ x∈t,1<=x.2)->segSum g (tabS t)=wsum g t
 | [],_=>rfl
 | (x,m)::t,h=>by
  have h1:=h _ (List.mem_cons_self ..)
  dsimp only at h1
  have e:((m.toNat:Nat):Rat)=(m:Rat):=by
   show ((m.toNat:Int):Rat)=(m:Rat)
   rw [Int.toNat_of_nonneg (by omega)]
  rw [tabS_cons,segSum_app,segSum_rep,segSum_tab g t fun x hx=>h x (List.mem_cons_of_mem _ hx),wsum,e]
theorem tabS_len:∀ (t:List (Int×Int)),(∀ x∈t,1<=x.2)->((tabS t).length:Int)=sumT t
 | [],_=>rfl
 | x::t,h=>by
  have h1:=tabS_len t fun y hy=>h y (List.mem_cons_of_mem _ hy)
  have h2:=h x (List.mem_cons_self ..)
  rw [tabS_cons,List.length_append,List.length_replicate,sumT];omega
theorem tabS_mem {t:List (Int×Int)}{x:Int} (h:x∈tabS t):∃ m,(x,m)∈t:=by
 obtain ⟨⟨y,m⟩,h1,h2⟩:=List.mem_flatMap.1 h
 rw [List.mem_replicate] at h2
 exact ⟨m,h2.2 ▸ h1⟩
theorem stagesR_len {r:Rn} (h:inT r=true) (h1:oneE r=0):((stagesR r).length:Int)=r.to_-r.from_:=by
 rw [inT,decide_eq_true_eq] at h
 rw [stagesR]
 split
 ·rw [List.length_replicate];omega
 ·rename_i h0
  obtain ⟨e1,_,e3,_⟩:=oneE_tab h1 h0
  rw [tabS_len _ fun x hx=>(e1 x hx).2.1,e3]
theorem stagesR_bd {r:Rn} (h1:oneE r=0):∀ x∈stagesR r,0<=x/\x<=1000:=by
 rw [stagesR]
 split
 ·rename_i h0
  obtain ⟨e1,e2,e3⟩:=oneE_gap h1 h0
  intro x hx
  rw [(List.mem_replicate.1 hx).2];omega
 ·rename_i h0
  intro x hx
  obtain ⟨m,hm⟩:=tabS_mem hx
  exact ((oneE_tab h1 h0).1 _ hm).1
theorem takeB_iff {l:List Spn}{r:Rn}{x:Int} (h:inT r=true) (hl:InOrd x l) (hR:∀ s∈l,RightS s):takeB l r ↔ ¬ badR l r:=by
 have hT:=h
 rw [inT,decide_eq_true_eq] at hT
 cases ht:r.tab with
 | nil =>
  have hb:badR l r ↔ freeB r l=true:=by rw [badR,ht];simp
  have he:takeB l r ↔ ¬ ∃ e∈clsL l r,ofR l e.1 r.lo≠ofR l e.1 r.hi:=by
   unfold takeB okE
   rw [ht]
   constructor
   ·rintro h1 ⟨e,he,h2⟩;exact h2 (h1 e he)
   ·intro h1 e he;exact Classical.byContradiction fun h2=>h1 ⟨e,he,h2⟩
  rw [hb,he,clsL_ex (P:=fun k=>ofR l k r.lo≠ofR l k r.hi) h hl hR,freeB,List.any_eq_true]
  simp only [List.mem_range,decide_eq_true_eq,pl_worth]
 | cons y t =>
  have hb:badR l r ↔ movP r l:=by rw [badR,ht];simp
  rw [hb]
  have hd:∀ (z:Int×Int),z∈r.tab->∀ c:Rat,(∀ e∈clsL l r,ofR l e.1 z.1-ofR l e.1 y.1=c) ↔ ∀ i:Nat,i < (r.to_-r.from_).toNat->worthOf l (r.from_+i) z.1-worthOf l (r.from_+i) y.1=c:=by
   intro z _ c
   have:=clsL_ex (P:=fun k=>ofR l k z.1-ofR l k y.1≠c) h hl hR
   simp only [pl_worth]
   constructor
   ·intro h1 i hi
    exact Classical.byContradiction fun h2=>by obtain ⟨e,he,h3⟩:=this.2 ⟨i,hi,h2⟩;exact h3 (h1 e he)
   ·intro h1 e he
    exact Classical.byContradiction fun h2=>by obtain ⟨i,hi,h3⟩:=this.1 ⟨e,he,h2⟩;exact h3 (h1 i hi)
  have hne:∃ e∈clsL l r,True:=(clsL_ex (P:=fun _=>True) h hl hR).2 ⟨0,by omega,trivial⟩
  have hhd:(clsL l r).headD (0,0)∈clsL l r:=by
   obtain ⟨e,he,_⟩:=hne
   cases hc:clsL l r with
   | nil=>rw [hc] at he;cases he
   | cons a b=>exact List.mem_cons_self ..
  have hk:takeB l r ↔ ∀ z∈r.tab,∃ c,∀ e∈clsL l r,ofR l e.1 z.1-ofR l e.1 y.1=c:=by
   unfold takeB okE
   rw [ht]
   constructor
   ·intro h1 z hz
    exact ⟨ofR l ((clsL l r).headD (0,0)).1 z.1-ofR l ((clsL l r).headD (0,0)).1 y.1,fun e he=>by have:=h1 e he z hz;grind⟩
   ·intro h1 e he z hz
    obtain ⟨c,hc⟩:=h1 z hz
    have:=hc e he
    have:=hc _ hhd
    grind
  have hm:(¬ movP r l) ↔ ∀ z∈r.tab,∀ i:Nat,i < (r.to_-r.from_).toNat->worthOf l (r.from_+i) z.1-worthOf l (r.from_+i) y.1=worthOf l r.from_ z.1-worthOf l r.from_ y.1:=by
   have hp:0 < r.tab.length:=by rw [ht];exact Nat.zero_lt_succ _
   have h0:r.tab[0]=y:=by simp [ht]
   constructor
   ·intro h1 z hz i hi
    obtain ⟨k,hk,rfl⟩:=List.getElem_of_mem hz
    refine Classical.byContradiction fun h2=>h1 ⟨k,hp,hk,?_,i,?_,by omega,?_⟩
    ·rcases Nat.eq_zero_or_pos k with rfl|h3
     ·exact absurd (by rw [h0];grind) h2
     ·exact h3
    ·rcases Nat.eq_zero_or_pos i with rfl|h3
     ·exact absurd (by simp) h2
     ·exact h3
    ·rw [h0]
     intro h3;apply h2;grind
   ·rintro h1 ⟨k,_,hk,_,j,_,hj,h2⟩
    have:=h1 _ (List.getElem_mem hk) j (by omega)
    rw [h0] at h2
    apply h2;grind
  rw [hk,hm]
  constructor
  ·intro h1 z hz i hi
   obtain ⟨c,hc⟩:=h1 z hz
   have h2:=(hd z hz c).1 hc
   have:=h2 i hi
   have:=h2 0 (by omega)
   simp only [Int.natCast_zero,Int.add_zero] at this
   grind
  ·intro h1 z hz
   exact ⟨_,(hd z hz _).2 (h1 z hz)⟩
theorem takeV_eq {l:List Spn}{r:Rn}{x:Int} (h:inT r=true) (h1:oneE r=0) (hl:InOrd x l) (hb:takeB l r) (hR:∀ s∈l,RightS s):takeV l r=volSum l r.from_ (stagesR r):=by
 have hT:=h
 rw [inT,decide_eq_true_eq] at hT
 cases ht:r.tab with
 | nil =>
  rw [takeV,ht,stagesR,if_pos (by rw [ht];rfl),volSum_rep]
  simp only [pl_worth]
  exact (clsL_sum (g:=fun k=>ofR l k r.lo) h hl).symm
 | cons y t =>
  have h0:r.tab.length≠0:=by rw [ht];exact Nat.succ_ne_zero _
  obtain ⟨e1,_,e3,_⟩:=oneE_tab h1 h0
  have hlen:=tabS_len _ fun x hx=>(e1 x hx).2.1
  unfold takeB okE at hb
  rw [ht] at hb
  dsimp only at hb
  rw [takeV,ht,stagesR,if_neg h0]
  dsimp only
  rw [<- ht,<- segSum_tab _ _ fun x hx=>(e1 x hx).2.1,<- clsL_sum h hl,show (r.to_-r.from_).toNat=(tabS r.tab).length from by omega]
  rw [volSum_sep l (ofR l ((clsL l r).headD (0,0)).1) (fun t=>ofR l (pl 0 l t) y.1-ofR l ((clsL l r).headD (0,0)).1 y.1)]
  intro t ht1 ht2 z hz
  obtain ⟨m,hm⟩:=tabS_mem hz
  have hall:¬ ∃ e∈clsL l r,ofR l e.1 z-ofR l ((clsL l r).headD (0,0)).1 z≠ofR l e.1 y.1-ofR l ((clsL l r).headD (0,0)).1 y.1:=by
   rintro ⟨e,he,h5⟩
   exact h5 (hb e he (z,m) (ht ▸ hm))
  rw [clsL_ex (P:=fun k=>ofR l k z-ofR l ((clsL l r).headD (0,0)).1 z≠ofR l k y.1-ofR l ((clsL l r).headD (0,0)).1 y.1) h hl hR] at hall
  have h6:=Classical.byContradiction fun h7=>hall ⟨(t-r.from_).toNat,by omega,h7⟩
  rw [show r.from_+((t-r.from_).toNat:Int)=t from by omega] at h6
  rw [pl_worth];grind
def Chn:Int->List Rn->Prop
 | _,[]=>True
 | f,r::t=>r.from_=f/\Chn r.to_ t
theorem chn_of:∀ {l:List Rn}{p:Option Rn},rnErr p l=0->Chn (match p with|none=>firstF l|some q=>q.to_) l
 | [],_,_=>trivial
 | r::t,p,h=>by
  have h5:rnErr (some r) t=0/\∀ q,p=some q->r.from_=q.to_:=by
   cases p with
   | none =>
    have h6:(if inT r=false then 3 else if false=true then 1 else if oneE r≠0 then oneE r else rnErr (some r) t)=0:=h
    split at h6
    ·cases h6
    rw [if_neg (by decide)] at h6
    split at h6
    ·rename_i h3;exact absurd h6 h3
    exact ⟨h6,fun q e=>by cases e⟩
   | some q =>
    have h6:(if inT r=false then 3 else if decide (r.from_≠q.to_)=true then 1 else if oneE r≠0 then oneE r else rnErr (some r) t)=0:=h
    split at h6
    ·cases h6
    split at h6
    ·cases h6
    rename_i h2
    split at h6
    ·rename_i h3;exact absurd h6 h3
    exact ⟨h6,fun q' e=>by cases e;simpa using h2⟩
  refine ⟨?_,chn_of (p:=some r) h5.1⟩
  cases p with
  | none=>rfl
  | some q=>exact h5.2 q rfl
theorem takeS_eq {l:List Spn}{x:Int} (hl:InOrd x l) (hR:∀ s∈l,RightS s):∀ (rs:List Rn) (f:Int),Chn f rs->(∀ r∈rs,inT r=true)->(∀ r∈rs,oneE r=0)->(∀ r∈rs,takeB l r)->takeS l rs=volSum l f (firstS rs)
 | [],_,_,_,_,_=>rfl
 | r::t,f,h,h1,h2,h3=>by
  have m:=List.mem_cons_self (a:=r) (l:=t)
  rw [takeS,firstS,volSum_app,takeV_eq (h1 r m) (h2 r m) hl (h3 r m) hR,takeS_eq hl hR t r.to_ h.2 (fun y hy=>h1 y (List.mem_cons_of_mem _ hy)) (fun y hy=>h2 y (List.mem_cons_of_mem _ hy)) (fun y hy=>h3 y (List.mem_cons_of_mem _ hy)),
   stagesR_len (h1 r m) (h2 r m),h.1]
  congr 2;have:=h.1;omega
def rbare (r:Rn):Rn:={ r with adr:=none,cap:=0 }
end Go.Proofs.YtjcecdmbfmccoaaGreatDoor
/-
 How the arguments of the volume laws read.
-/
namespace Go.Proofs.YtjcecdmbfmccoaaGreatDoor
open Go.RowKit Go.Sl Go.Num Go.ChangeShapes Go.WideShapes
theorem rPoint:Reads Tryz.prog 137 ptV (fun _ _=>True):=(Reads.struct2 (n:=4) Tryz.underlying137 (by kernel_rfl) (by kernel_rfl) rInt rRat).turn fun _ a _=>⟨a,rfl,trivial⟩
theorem rPoints:Reads Tryz.prog 115 (fun s:Sld Pnt=>[s.v]) (fun w s=>SlAt w s.ad 4 (s.l.map ptV)):=(Reads.slice (sz:=4) Tryz.underlying115 (by kernel_rfl) (by decide) rPoint).mono fun _ _ h=>h.1
theorem rCurve:Reads Tryz.prog 117 (fun s:Sld Pnt=>[s.v]) (fun w s=>SlAt w s.ad 4 (s.l.map ptV)):=Reads.struct1 (n:=1) Tryz.underlying117 (by kernel_rfl) (by kernel_rfl) rPoints
theorem rSpan:Reads Tryz.prog 119 spV PtsAt:=(Reads.struct5 (n:=7) Tryz.underlying119 (by kernel_rfl) (by kernel_rfl) rInt rInt rRat rInt rCurve).turn fun _ a h=>⟨⟨a.1,a.2.1,a.2.2.1,a.2.2.2.1,a.2.2.2.2.l,a.2.2.2.2.ad,a.2.2.2.2.cap⟩,rfl,h.2.2.2.2⟩
theorem rSpans:Reads Tryz.prog 23 (fun s:Sld Spn=>[s.v]) (fun w s=>SpansAt w s.ad s.l):=(Reads.slice (sz:=7) Tryz.underlying23 (by kernel_rfl) (by decide) rSpan).mono fun _ _ h=>⟨h.1,h.2.2.2⟩
theorem rHold:Reads Tryz.prog 95 hoV (fun _ _=>True):=(Reads.struct2 (n:=2) Tryz.underlying95 (by kernel_rfl) (by kernel_rfl) rInt rInt).turn fun _ a _=>⟨a,rfl,trivial⟩
theorem rHolds:Reads Tryz.prog 65 (fun s:Sld (Int×Int)=>[s.v]) (fun w s=>SlAt w s.ad 2 (s.l.map hoV)):=(Reads.slice (sz:=2) Tryz.underlying65 (by kernel_rfl) (by decide) rHold).mono fun _ _ h=>h.1
theorem rRun:Reads Tryz.prog 67 rnV TabAt:=(Reads.struct5 (n:=5) Tryz.underlying67 (by kernel_rfl) (by kernel_rfl) rInt rInt rHolds rInt rInt).turn fun _ a h=>⟨⟨a.1,a.2.1,a.2.2.1.l,a.2.2.1.ad,a.2.2.1.cap,a.2.2.2.1,a.2.2.2.2⟩,rfl,h.2.2.1⟩
theorem rRuns:Reads Tryz.prog 22 (fun s:Sld Rn=>[s.v]) (fun w s=>RunsAt w s.ad s.l):=(Reads.slice (sz:=5) Tryz.underlying22 (by kernel_rfl) (by decide) rRun).mono fun _ _ h=>⟨h.1,h.2.2.2⟩
end Go.Proofs.YtjcecdmbfmccoaaGreatDoor
/-
 Plain laws: the volume of cut and of scaled spans,and of the raw runs of a history.
-/
namespace Go.Proofs.YtjcecdmbfmccoaaGreatDoor
open Go.RowKit Go.Sl Go.Num
theorem spErr_iff {l:List Spn}{z:Int}:spErr z l=0 ↔ (∀ s∈l,RightS s)/\InOrd z l:=by
 constructor
 ·exact fun h=>⟨spErr_ok h,inOrd_of h⟩
 ·induction l generalizing z with
  | nil=>exact fun _=>rfl
  | cons s l ih =>
   rintro ⟨h1,h2,h3,h4⟩
   have h5:=h1 s (List.mem_cons_self ..)
   rw [spErr,if_neg (by simp [h5];omega)]
   exact ih ⟨fun t ht=>h1 t (List.mem_cons_of_mem _ ht),h4⟩
theorem InOrd.cut {x y:Int}:∀ {l:List Spn}{z:Int},InOrd z l->InOrd z (cutL x y l)
 | [],_,_=>trivial
 | s::l,z,h=>by
  have h1:=InOrd.cut (x:=x) (y:=y) h.2.2
  have:=h.1
  have:=h.2.1
  rw [cutL]
  split
  ·rename_i hc
   exact ⟨by show z<=max s.from_ x;omega,hc,h1.mono (by show min s.to_ y<=s.to_;omega)⟩
  ·exact h1.mono (by omega)
theorem InOrd.scale {q:Rat}:∀ {l:List Spn}{z:Int},InOrd z l->InOrd z (l.map (scaleS q))
 | [],_,_=>trivial
 | s::l,_,h=>⟨h.1,h.2.1,InOrd.scale h.2.2⟩
def Chq:Int->List (Int×Int×Int)->Int->Prop
 | f,[],e=>f=e
 | f,p::t,e=>p.1=f/\f < p.2.1/\Chq p.2.1 t e
theorem Chq.app:∀ {o:List (Int×Int×Int)}{f e:Int}{p:Int×Int×Int},Chq f (o++[p]) e ↔ Chq f o p.1/\p.1 < p.2.1/\p.2.1=e
 | [],f,e,p=>by
  simp only [List.nil_append,Chq]
  constructor
  ·rintro ⟨rfl,h2,h3⟩;exact ⟨rfl,h2,h3⟩
  ·rintro ⟨rfl,h2,h3⟩;exact ⟨rfl,h2,h3⟩
 | q::o,f,e,p=>by
  simp only [List.cons_append,Chq,Chq.app (o:=o),and_assoc]
theorem oneE_raw {r:Rn} (h:rawR r (stg r)) (h1:0<=stg r/\stg r<=1000) (h2:0<=r.from_/\r.from_ < r.to_/\r.to_<=1402560):oneE r=0:=by
 obtain ⟨k1,k2,k3⟩:=h
 rw [oneE,k1,if_neg (by exact Nat.succ_ne_zero _)]
 rw [if_neg (by simp [badH];omega),if_pos ⟨rfl,by simp [sumT],k2,k3⟩]
theorem rnErr_chn:∀ {L:List Rn}{p:Option Rn}{f:Int},Chn f L->(∀ q,p=some q->q.to_=f)->(∀ r∈L,inT r=true)->(∀ r∈L,oneE r=0)->rnErr p L=0
 | [],_,_,_,_,_,_=>rfl
 | r::L,p,f,h,hp,h1,h2=>by
  have m:=List.mem_cons_self (a:=r) (l:=L)
  have h3:=rnErr_chn (p:=some r) h.2 (fun q hq=>by cases hq;rfl) (fun x hx=>h1 x (List.mem_cons_of_mem _ hx)) fun x hx=>h2 x (List.mem_cons_of_mem _ hx)
  have h4:=h1 r m
  have h5:=h2 r m
  have h6:=h.1
  cases p with
  | none =>
   show (if inT r=false then (3:Int) else if false=true then 1 else if oneE r≠0 then oneE r else rnErr (some r) L)=0
   rw [h4,if_neg (by decide),if_neg (by decide),h5,if_neg (by decide)];exact h3
  | some q =>
   have h7:=hp q rfl
   show (if inT r=false then (3:Int) else if decide (r.from_≠q.to_)=true then 1 else if oneE r≠0 then oneE r else rnErr (some r) L)=0
   rw [h4,if_neg (by decide),if_neg (by simp;omega),h5,if_neg (by decide)];exact h3
def fillC (L:List (Int×Int)):List (Int×Int)->List (Int×Int)
 | []=>L
 | (s,t)::r=>fillC (setC s t L) r
theorem fillC_bd {m:Int} (hm:0<=m):∀ (tab L:List (Int×Int)),(∀ x,0<=cnt x L/\cnt x L<=m)->(∀ p∈tab,0<=p.2/\p.2<=m)->∀ x,0<=cnt x (fillC L tab)/\cnt x (fillC L tab)<=m
 | [],_,h,_,x=>h x
 | (s,t)::r,L,h,h2,x=>fillC_bd hm r (setC s t L) (fun y=>by
   have:=h2 _ (List.mem_cons_self ..)
   rw [cnt_setC]
   split
   ·exact this
   ·exact h y) (fun p hp=>h2 p (List.mem_cons_of_mem _ hp)) x
def badC (g:Bool) (lo hi:Int) (L:List (Int×Int)) (s:Int):Bool:=if g=true then !decide (lo<=s/\s<=hi) else decide (cnt s L=0)
def goC (g:Bool) (lo hi:Int):List (Int×Int)->List Int->Bool
 | _,[]=>true
 | L,s::r=>!badC g lo hi L s && goC g lo hi (setC s (cnt s L-1) L) r
def agr1 (r:Rn) (seg:List Int):Bool:=goC (decide (r.tab.length=0)) r.lo r.hi (fillC [] r.tab) seg
def agrL (f:Int) (hs:List Int):List Rn->Bool
 | []=>true
 | r::t=>agr1 r ((hs.drop (r.from_-f).toNat).take (r.to_-r.from_).toNat) && agrL f hs t
def agreeB (rs:List Rn) (f:Int) (hs:List Int):Bool :=
 if runsErr rs≠0∨rightH f hs=false then false else match rs[0]?,rs[rs.length-1]? with
 | some a,some b=>if f≠a.from_∨(hs.length:Int)≠b.to_-f then false else agrL f hs rs
 | _,_=>decide (hs.length=0)
theorem chn_in:∀ {L:List Rn}{f:Int} (hp:0 < L.length),Chn f L->(∀ r∈L,inT r=true)->∀ (k:Nat) (hk:k < L.length),f<=L[k].from_/\L[k].from_ < L[k].to_/\L[k].to_<=(L[L.length-1]).to_
 | [r],f,_,h,h1,k,hk=>by
  have h2:=h1 r (List.mem_cons_self ..)
  rw [inT,decide_eq_true_eq] at h2
  have:=h.1
  obtain rfl:k=0:=by rw [List.length_singleton] at hk;omega
  simp only [List.length_singleton,Nat.sub_self,List.getElem_cons_zero]
  omega
 | r::s::t,f,_,h,h1,k,hk=>by
  have h2:=h1 r (List.mem_cons_self ..)
  rw [inT,decide_eq_true_eq] at h2
  have h3:=h.1
  have h4:=chn_in (L:=s::t) (Nat.zero_lt_succ _) h.2 fun x hx=>h1 x (List.mem_cons_of_mem _ hx)
  simp only [List.length_cons,Nat.add_sub_cancel,List.getElem_cons_succ] at h4 ⊢
  cases k with
  | zero =>
   have:=h4 0 (by omega)
   simp only [List.getElem_cons_zero] at this ⊢
   omega
  | succ k =>
   have:=h4 k (by simpa using hk)
   simp only [List.getElem_cons_succ]
   omega
set_option maxHeartbeats 4000000 in
theorem agree_holds (a b:Option Addr) (rs:List Rn) (f:Int) (hs:List Int) (c d:Nat) (w:World) (hA:RunsAt w a rs) (hB:SlAt w b 1 (hs.map isV)) (hfr:∀ r∈rs,r.tab.length<=64) (hcap:hs.length<=d) (hl:hs.length<=1000000000) :
  Calls Tryz.prog 20 #[.slice a rs.length c,.agg #[.int .i64 f,.slice b hs.length d]] w fun e w'=>e=.returned (.bool (agreeB rs f hs))/\Below w.heap.size w w':=by
 have hc:=fun w' (hb:Below w.heap.size w w')=>vRuns_holds a rs c w' (hA.below hb) hfr
 have hr:=fun w' (hb:Below w.heap.size w w')=>hRight_holds f b hs d w' (hB.below hb) hl
 rw [agreeB]
 by_cases h1:¬ runsErr rs=0
 ·rw [if_pos (.inl h1)]
  generalize runsErr rs=E at *
  refine enterA [(0,.slice a rs.length c),(1,.agg #[.int .i64 f,.slice b hs.length d])] Tryz.func20 Tryz.ntmps20 ?_
  all_goals (refine go ?_;and_intros<;>(try exact trivial)<;>intros)
  repeat' ((first|(refine G.cvb hc ?_))<;>(refine go ?_;and_intros<;>(try exact trivial)<;>intros))
  all_goals refine ret1b Tryz.func20 Tryz.results20 ?_
  all_goals rfl
 rw [Decidable.not_not] at h1
 have ⟨_,k5,_⟩:=runsErr_ok h1
 have k6:=runsErr_one h1
 have hch:Chn (firstF rs) rs:=chn_of (p:=none) (runsErr_rn h1)
 by_cases h2:rightH f hs=false
 ·rw [if_pos (.inr h2)]
  rw [h1] at hc
  rw [h2] at hr
  refine enterA [(0,.slice a rs.length c),(1,.agg #[.int .i64 f,.slice b hs.length d])] Tryz.func20 Tryz.ntmps20 ?_
  all_goals (refine go ?_;and_intros<;>(try exact trivial)<;>intros)
  repeat' ((first|(refine G.cvb hc ?_)|(refine G.cvb hr ?_))<;>(refine go ?_;and_intros<;>(try exact trivial)<;>intros))
  all_goals refine ret1b Tryz.func20 Tryz.results20 ?_
  all_goals rfl
 rw [if_neg (by rw [h1];simp [h2])]
 rw [Bool.not_eq_false] at h2
 rw [h1] at hc
 rw [h2] at hr
 obtain ⟨k3,k4⟩:=rightH_ok h2
 clear h1 h2
 rcases Nat.eq_zero_or_pos rs.length with h0|h0
 ·rw [List.getElem?_eq_none (by omega)]
  show Calls _ _ _ _ fun e w'=>e=.returned (.bool (decide (hs.length=0)))/\Below w.heap.size w w'
  by_cases h3:hs.length=0
  ·rw [decide_eq_true h3]
   refine enterA [(0,.slice a rs.length c),(1,.agg #[.int .i64 f,.slice b hs.length d])] Tryz.func20 Tryz.ntmps20 ?_
   all_goals (refine go ?_;and_intros<;>(try exact trivial)<;>intros)
   repeat' ((first|(refine G.cvb hc ?_)|(refine G.cvb hr ?_))<;>(refine go ?_;and_intros<;>(try exact trivial)<;>intros))
   all_goals refine ret1b Tryz.func20 Tryz.results20 ?_
   all_goals exact ret_bool (by first|(rw [decide_eq_true (by omega)])|rfl)
  ·rw [decide_eq_false h3]
   refine enterA [(0,.slice a rs.length c),(1,.agg #[.int .i64 f,.slice b hs.length d])] Tryz.func20 Tryz.ntmps20 ?_
   all_goals (refine go ?_;and_intros<;>(try exact trivial)<;>intros)
   repeat' ((first|(refine G.cvb hc ?_)|(refine G.cvb hr ?_))<;>(refine go ?_;and_intros<;>(try exact trivial)<;>intros))
   all_goals refine ret1b Tryz.func20 Tryz.results20 ?_
   all_goals exact ret_bool (by first|(rw [decide_eq_false (by omega)])|rfl)
 rw [List.getElem?_eq_getElem h0,List.getElem?_eq_getElem (show rs.length-1 < rs.length by omega)]
 dsimp only
 have hin:=chn_in h0 hch k5
 have hz:(rs.length:Int)-1=((rs.length-1:Nat):Int):=by omega
 have hfF:firstF rs=rs[0].from_:=by
  cases rs with
  | nil=>exact absurd h0 (Nat.lt_irrefl _)
  | cons r t=>rfl
 rw [hfF] at hin
 obtain ⟨ba,oa,rfl,hra⟩:=SlAt.all hA.1 (by omega)
 have r1:=hra 0 h0
 have r2:=hra (rs.length-1) (by omega)
 have i1:=k5 _ (List.getElem_mem h0)
 have i2:=k5 _ (List.getElem_mem (show rs.length-1 < rs.length by omega))
 rw [inT,decide_eq_true_eq] at i1 i2
 refine enterA [(0,.slice (some ⟨ba,oa,none⟩) rs.length c),(1,.agg #[.int .i64 f,.slice b hs.length d])] Tryz.func20 Tryz.ntmps20 ?_
 by_cases h3:f≠rs[0].from_∨(hs.length:Int)≠(rs[rs.length-1]).to_-f
 ·rw [if_pos h3]
  clear hin hfF hch
  generalize rs[0]=x at *
  generalize rs[rs.length-1]=y at *
  obtain ⟨f1,u,tab,adr,cap,lo,hi⟩:=x
  obtain ⟨f2,u2,tab2,adr2,cap2,lo2,hi2⟩:=y
  dsimp only [rnV] at *
  rcases h3 with h3|h3
  ·skip
   all_goals (refine go ?_;and_intros<;>(try exact trivial)<;>intros)
   repeat' ((first|(refine G.cvb hc ?_)|(refine G.cvb hr ?_)|(apply G.ix;rfl;rfl;exact hz;omega;rfl)|(apply G.ix (i:=0);rfl;rfl;exact rfl;omega;rfl))<;>(refine go ?_;and_intros<;>(try exact trivial)<;>intros))
   all_goals refine ret1b Tryz.func20 Tryz.results20 ?_
   all_goals rfl
  ·skip
   all_goals (refine go ?_;and_intros<;>(try exact trivial)<;>intros)
   repeat' ((first|(refine G.cvb hc ?_)|(refine G.cvb hr ?_)|(apply G.ix;rfl;rfl;exact hz;omega;rfl)|(apply G.ix (i:=0);rfl;rfl;exact rfl;omega;rfl))<;>(refine go ?_;and_intros<;>(try exact trivial)<;>intros))
   all_goals
    all_goals refine ret1b Tryz.func20 Tryz.results20 ?_
    all_goals rfl
 rw [if_neg h3]
 rw [not_or,Decidable.not_not,Decidable.not_not] at h3
 obtain ⟨h3,h4⟩:=h3
 rw [<- h3] at hin
 have hin2:∀ (k:Nat) (hk:k < rs.length),f<=rs[k].from_/\rs[k].from_ < rs[k].to_/\rs[k].to_<=f+hs.length:=fun k hk=>by have:=hin k hk;omega
 clear hin hfF hch
 have r1':=r1
 have r2':=r2
 rw [show rnV rs[0]=[.int .i64 rs[0].from_,.int .i64 rs[0].to_,.slice rs[0].adr rs[0].tab.length rs[0].cap,.int .i64 rs[0].lo,.int .i64 rs[0].hi] from rfl] at r1'
 rw [show rnV rs[rs.length-1]=[.int .i64 (rs[rs.length-1]).from_,.int .i64 (rs[rs.length-1]).to_,.slice (rs[rs.length-1]).adr (rs[rs.length-1]).tab.length (rs[rs.length-1]).cap,.int .i64 (rs[rs.length-1]).lo,.int .i64 (rs[rs.length-1]).hi] from rfl] at r2'
 all_goals (refine go ?_;and_intros<;>(try exact trivial)<;>intros)
 repeat' ((first|(refine G.cvb hc ?_)|(refine G.cvb hr ?_)|(apply G.ix;rfl;rfl;exact hz;omega;rfl)|(apply G.ix (i:=0);rfl;rfl;exact rfl;omega;rfl))<;>(refine go ?_;and_intros<;>(try exact trivial)<;>intros))
 clear hc hr r1 r2 r1' r2' i1 i2
 generalize hT:agrL f hs rs=T
 refine J.loop (c:=_) (0:Nat) (fun s=>rs.length-s) (fun s=>[(3,.pointer (some ⟨_,0,none⟩)),(50,.slice (some ⟨ba,oa,none⟩) rs.length c),(51,.int .i64 rs.length),(52,.int .i64 s)]) (fun s=>[.blk _ 30 [.int .i64 f,.slice b hs.length d] 2]) (fun s=>s<=rs.length/\agrL f hs (rs.drop s)=T) ?_ sbT sbL ?_
 ·exact ⟨Nat.zero_le _,hT⟩
 clear hT
 intro k ⟨e1,e2⟩ ih
 by_cases hk:k < rs.length
 ·have hrk:=hra k hk
  have htk:=hA.2 _ (List.getElem_mem hk)
  have hik:=hin2 k hk
  have hok:=k6 _ (List.getElem_mem hk)
  have hik2:=k5 _ (List.getElem_mem hk)
  rw [inT,decide_eq_true_eq] at hik2
  have hlk:=hfr _ (List.getElem_mem hk)
  rw [List.drop_eq_getElem_cons hk,agrL] at e2
  have hbd:∀ x,0<=cnt x (fillC [] rs[k].tab)/\cnt x (fillC [] rs[k].tab)<=1402560:=by
   by_cases ht:rs[k].tab.length=0
   ·rw [List.length_eq_zero_iff.1 ht];exact fun x=>⟨Int.le_refl _,by show (0:Int)<=1402560;decide⟩
   ·obtain ⟨t1,_⟩:=oneE_tab hok ht
    exact fillC_bd (by decide) _ _ (fun x=>⟨Int.le_refl _,by show (0:Int)<=1402560;decide⟩) fun p hp=>by have:=(t1 p hp).2;omega
  have hg:=fun w'=>gap_holds rs[k] w'
  have ih':=ih (k+1)
  clear hra hin2 k6 k5 hok ih
  generalize hV:agrL f hs (rs.drop (k+1))=V at *
  generalize rs[k]=r at *
  obtain ⟨fr,to,tab,adr,cap,lo,hi⟩:=r
  dsimp only [rnV,rnA,TabAt,agr1] at *
  obtain ⟨p,hp⟩:∃ p:Nat,fr=f+p:=⟨(fr-f).toNat,by omega⟩
  obtain ⟨n,hn⟩:∃ n:Nat,to=fr+n:=⟨(to-fr).toNat,by omega⟩
  rw [show (fr-f).toNat=p by omega,show (to-fr).toNat=n by omega] at e2
  subst hn
  subst hp
  have hseg:∀ i (hi:i < n),((hs.drop p).take n).drop i=hs[p+i]::((hs.drop p).take n).drop (i+1):=fun i hi=>by
   rw [List.drop_eq_getElem_cons (by simp;omega)]
   simp
  have hlen:((hs.drop p).take n).length=n:=by simp;omega
  generalize hsg:(hs.drop p).take n=sg at *
  generalize hFL:fillC [] tab=FL at *
  all_goals (refine go ?_;and_intros<;>(try exact trivial)<;>intros)
  repeat' ((first|(apply G.mkm;rfl;intro bq))<;>(refine go ?_;and_intros<;>(try exact trivial)<;>intros))
  refine J.loop (c:=_) ((0,#[],0,[]):Nat×Array MapEntry×Nat×List (Int×Int)) (fun s=>tab.length-s.1) (fun s=>[(3,.pointer (some ⟨_,0,none⟩)),(6,.pointer (some ⟨_,0,none⟩)),(7,.map (some bq)),(50,.slice (some ⟨ba,oa,none⟩) rs.length c),(51,.int .i64 rs.length),(52,.int .i64 k),(58,.slice adr tab.length cap),(59,.int .i64 tab.length),(60,.int .i64 s.1)]) (fun s=>[.obj bq (.map s.2.1 s.2.2.1),.blk _ 67 [.int .i64 (f+p),.int .i64 (f+p+n),.slice adr tab.length cap,.int .i64 lo,.int .i64 hi] 5,.blk _ 30 [.int .i64 f,.slice b hs.length d] 2]) (fun s=>s.1<=tab.length/\MapIs (Value.int .i64) s.2.1 s.2.2.1 (s.2.2.2.map iv)/\fillC s.2.2.2 (tab.drop s.1)=FL) ?_ sbT sbL ?_
  ·exact ⟨Nat.zero_le _,MapIs.nil,hFL⟩
  clear hFL
  intro ⟨j,es,ck,Lc⟩ ⟨d1,hI,d2⟩ ih2
  dsimp only at d1 hI d2 ⊢
  by_cases hj:j < tab.length
  ·obtain ⟨bt,ot,rfl,hrt⟩:=SlAt.all htk (by omega)
   have hrj:=hrt j hj
   rw [List.drop_eq_getElem_cons hj,fillC] at d2
   clear hrt ih'
   generalize tab[j]=z at *
   obtain ⟨zs,zt⟩:=z
   dsimp only [hoV] at *
   all_goals (refine go ?_;and_intros<;>(try exact trivial)<;>intros)
   repeat' ((first|(apply G.mu (kf:=Value.int .i64) (a:=zs) hI (put_setC zs zt Lc);rfl;rfl;rfl;rfl;(repeat (first|exact RAt.head|apply RAt.tail));intro es2 c2 hI2))<;>(refine go ?_;and_intros<;>(try exact trivial)<;>intros))
   exact J.fin (ih2 (j+1,es2,c2,setC zs zt Lc) ⟨hj,hI2,d2⟩ (by dsimp only;omega))
  obtain rfl:j=tab.length:=by omega
  rw [List.drop_length,fillC] at d2
  subst d2
  clear ih2
  by_cases hn0:hs.length=0
  ·exfalso;omega
  obtain ⟨bb,ob,rfl,hrb⟩:=SlAt.all hB (by omega)
  all_goals (refine go ?_;and_intros<;>(try exact trivial)<;>intros)
  repeat' ((first|(apply G.slp (l:=p) (h:=p+n) (off:=ob+p*1) (len:=n);rfl;rfl;rfl;omega;omega;omega;omega;omega;rfl;omega;rfl))<;>(refine go ?_;and_intros<;>(try exact trivial)<;>intros))
  refine J.loop (c:=_) ((0,es,ck,Lc):Nat×Array MapEntry×Nat×List (Int×Int)) (fun s=>n-s.1) (fun s=>[(3,.pointer (some ⟨_,0,none⟩)),(6,.pointer (some ⟨_,0,none⟩)),(7,.map (some bq)),(50,.slice (some ⟨ba,oa,none⟩) rs.length c),(51,.int .i64 rs.length),(52,.int .i64 k),(82,.slice (some ⟨bb,ob+p*1,none⟩) n _),(83,.int .i64 n),(84,.int .i64 s.1)]) (fun s=>[.obj bq (.map s.2.1 s.2.2.1),.blk _ 67 [.int .i64 (f+p),.int .i64 (f+p+n),.slice adr tab.length cap,.int .i64 lo,.int .i64 hi] 5,.blk _ 30 [.int .i64 f,.slice (some ⟨bb,ob,none⟩) hs.length d] 2]) (fun s=>s.1<=n/\MapIs (Value.int .i64) s.2.1 s.2.2.1 (s.2.2.2.map iv)/\(goC (decide (tab.length=0)) lo hi s.2.2.2 (sg.drop s.1) && V)=T/\∀ x,-(s.1:Int)<=cnt x s.2.2.2/\cnt x s.2.2.2<=1402560) ?_ sbT sbL ?_
  ·exact ⟨Nat.zero_le _,hI,e2,fun x=>by have:=hbd x;dsimp only;omega⟩
  clear hbd e2 hI
  intro ⟨i,es2,ck2,L2⟩ ⟨c1,hI,c2,c3⟩ ih2
  dsimp only at c1 hI c2 c3 ⊢
  by_cases hi2:i < n
  ·have hr1:RowAt w bb (ob+p*1+i*1) [.int .i64 hs[p+i]]:=by
    have:=hrb (p+i) (by omega)
    rw [show ob+p*1+i*1=ob+(p+i)*1 by omega];exact this
   rw [hseg i hi2,goC] at c2
   clear hrb
   generalize hs[p+i]=z at *
   have hcz:=c3 z
   have hlk2:=get_iv z L2
   have hpt:=put_setC z (cnt z L2-1) L2
   have hw:=fun w'=>within_holds z lo hi w'
   have hnx:∀ x,-((i+1:Nat):Int)<=cnt x (setC z (cnt z L2-1) L2)/\cnt x (setC z (cnt z L2-1) L2)<=1402560:=fun x=>by
    rw [cnt_setC]
    have:=c3 x
    split<;>omega
   clear c3
   by_cases hgp:tab.length=0
   ·rw [decide_eq_true hgp] at hg c2 ih2
    by_cases hwi:lo<=z/\z<=hi
    ·rw [decide_eq_true hwi] at hw
     rw [badC,if_pos rfl,decide_eq_true hwi,Bool.not_true,Bool.not_false,Bool.true_and] at c2
     have ih3:=fun es3 c4 hI3=>ih2 (i+1,es3,c4,setC z (cnt z L2-1) L2) ⟨hi2,hI3,c2,hnx⟩ (by dsimp only;omega)
     generalize cnt z L2=N at *
     all_goals (refine go ?_;and_intros<;>(try exact trivial)<;>intros)
     repeat' ((first|(apply G.cV (g:=56);rfl;rfl;exact fun w' _=>hg w')|(apply G.cV (g:=57);rfl;rfl;exact fun w' _=>hw w')|(apply G.lk (kf:=Value.int .i64) (a:=z) hI;rfl;rfl;exact mm;exact hlk2;rfl)|(apply G.mu (kf:=Value.int .i64) (a:=z) hI hpt;rfl;rfl;rfl;rfl;(repeat (first|exact RAt.head|apply RAt.tail));intro es3 c4 hI3))<;>(refine go ?_;and_intros<;>(try exact trivial)<;>intros))
     exact J.fin (ih3 es3 c4 hI3)
    ·rw [decide_eq_false hwi] at hw
     rw [badC,if_pos rfl,decide_eq_false hwi,Bool.not_false,Bool.not_true,Bool.false_and,Bool.false_and] at c2
     subst c2
     all_goals (refine go ?_;and_intros<;>(try exact trivial)<;>intros)
     repeat' ((first|(apply G.cV (g:=56);rfl;rfl;exact fun w' _=>hg w')|(apply G.cV (g:=57);rfl;rfl;exact fun w' _=>hw w'))<;>(refine go ?_;and_intros<;>(try exact trivial)<;>intros))
     all_goals refine ret1b Tryz.func20 Tryz.results20 ?_
     all_goals rfl
   ·rw [decide_eq_false hgp] at hg c2 ih2
    by_cases hc0:cnt z L2=0
    ·rw [badC,if_neg (by decide),decide_eq_true hc0,Bool.not_true,Bool.false_and,Bool.false_and] at c2
     subst c2
     rw [hc0] at hlk2
     all_goals (refine go ?_;and_intros<;>(try exact trivial)<;>intros)
     repeat' ((first|(apply G.cV (g:=56);rfl;rfl;exact fun w' _=>hg w')|(apply G.lk (kf:=Value.int .i64) (a:=z) hI;rfl;rfl;exact mm;exact hlk2;rfl))<;>(refine go ?_;and_intros<;>(try exact trivial)<;>intros))
     all_goals refine ret1b Tryz.func20 Tryz.results20 ?_
     all_goals rfl
    ·rw [badC,if_neg (by decide),decide_eq_false hc0,Bool.not_false,Bool.true_and] at c2
     have ih3:=fun es3 c4 hI3=>ih2 (i+1,es3,c4,setC z (cnt z L2-1) L2) ⟨hi2,hI3,c2,hnx⟩ (by dsimp only;omega)
     generalize cnt z L2=N at *
     all_goals (refine go ?_;and_intros<;>(try exact trivial)<;>intros)
     repeat' ((first|(apply G.cV (g:=56);rfl;rfl;exact fun w' _=>hg w')|(apply G.lk (kf:=Value.int .i64) (a:=z) hI;rfl;rfl;exact mm;exact hlk2;rfl)|(apply G.mu (kf:=Value.int .i64) (a:=z) hI hpt;rfl;rfl;rfl;rfl;(repeat (first|exact RAt.head|apply RAt.tail));intro es3 c4 hI3))<;>(refine go ?_;and_intros<;>(try exact trivial)<;>intros))
     exact J.fin (ih3 es3 c4 hI3)
  ·obtain rfl:i=n:=by omega
   rw [List.drop_eq_nil_of_le (by omega),goC,Bool.true_and] at c2
   clear ih2
   all_goals (refine go ?_;and_intros<;>(try exact trivial)<;>intros)
   exact J.fin (ih' ⟨hk,c2⟩ (by omega))
 ·rw [List.drop_eq_nil_of_le (by omega),agrL] at e2
  subst e2
  clear ih
  all_goals (refine go ?_;and_intros<;>(try exact trivial)<;>intros)
  all_goals refine ret1b Tryz.func20 Tryz.results20 ?_
  all_goals rfl
end Go.Proofs.YtjcecdmbfmccoaaGreatDoor
/-
 Contract of the law's table: the duration table of stages.
-/
namespace Go.Proofs
open Go.Sl
end Go.Proofs
namespace Go.Proofs.YtjcecdmbfmccoaaGreatDoor
open Go.RowKit Go.Sl Go.Num
def nIn (x:Int):List Int->Int
 | []=>0
 | y::r=>(if y=x then 1 else 0)+nIn x r
theorem nIn_bd (x:Int):∀ l:List Int,0<=nIn x l/\nIn x l<=l.length
 | []=>⟨Int.le_refl _,Int.le_refl _⟩
 | y::r=>by
  have:=nIn_bd x r
  rw [nIn,List.length_cons]
  split<;>omega
def tabD:Nat->List Int->List (Int×Int)
 | _,[]=>[]
 | s,n::r=>if 0 < n then ((s:Int),n)::tabD (s+1) r else tabD (s+1) r
def tabT (seg:List Int):List (Int×Int):=tabD 0 ((List.range 1001).map fun s:Nat=>nIn (s:Int) seg)
theorem hoV_len (x:Int×Int):(hoV x).length=2:=rfl
def dsum (g:Int->Rat):Nat->List Int->Rat
 | _,[]=>0
 | s,n::r=>(n:Rat)*g s+dsum g (s+1) r
theorem wsum_tabD (g:Int->Rat):∀ (l:List Int) (s:Nat),(∀ x∈l,0<=x)->wsum g (tabD s l)=dsum g s l
 | [],_,_=>rfl
 | n::r,s,h=>by
  have ih:=wsum_tabD g r (s+1) fun x hx=>h x (List.mem_cons_of_mem _ hx)
  have:=h n (List.mem_cons_self ..)
  rw [tabD,dsum]
  split
  ·rw [wsum,ih]
  ·obtain rfl:n=0:=by omega
   rw [ih,Rat.intCast_zero];grind
theorem dsum_add (g:Int->Rat) (a b:Nat->Int):∀ (l:List Nat) (s:Nat),dsum g s (l.map fun x=>a x+b x)=dsum g s (l.map a)+dsum g s (l.map b)
 | [],_=>by simp [dsum,Rat.add_zero]
 | x::l,s=>by
  simp only [List.map_cons,dsum]
  rw [dsum_add g a b l (s+1),Rat.intCast_add];grind
theorem dsum_zero (g:Int->Rat):∀ (l:List Nat) (s:Nat),dsum g s (l.map fun _=>0)=0
 | [],_=>rfl
 | x::l,s=>by
  simp only [List.map_cons,dsum]
  rw [dsum_zero g l (s+1),Rat.intCast_zero];grind
theorem dsum_ind0 (g:Int->Rat) (y:Int):∀ (n s:Nat),y < s->dsum g s ((List.range' s n).map fun x:Nat=>if y=(x:Int) then 1 else 0)=0
 | 0,_,_=>rfl
 | n+1,s,h=>by
  rw [List.range'_succ,List.map_cons,dsum,dsum_ind0 g y n (s+1) (by omega),if_neg (by omega),Rat.intCast_zero];grind
theorem dsum_ind (g:Int->Rat) (y:Int):∀ (n s:Nat),(s:Int)<=y->y < s+n->dsum g s ((List.range' s n).map fun x:Nat=>if y=(x:Int) then 1 else 0)=g y
 | 0,_,h1,h2=>by omega
 | n+1,s,h1,h2=>by
  rw [List.range'_succ,List.map_cons,dsum]
  by_cases h:y=s
  ·rw [dsum_ind0 g y n (s+1) (by omega),if_pos h,h];simp [Rat.add_zero]
  ·rw [dsum_ind g y n (s+1) (by omega) (by omega),if_neg h];simp [Rat.zero_add]
theorem dsum_nIn (g:Int->Rat) (n:Nat):∀ (seg:List Int),(∀ y∈seg,0<=y/\y < n)->dsum g 0 ((List.range' 0 n).map fun x:Nat=>nIn (x:Int) seg)=segSum g seg
 | [],_=>dsum_zero g _ 0
 | y::r,h=>by
  have h1:=h y (List.mem_cons_self ..)
  rw [segSum,<- dsum_nIn g n r fun z hz=>h z (List.mem_cons_of_mem _ hz),<- dsum_ind g y n 0 (by omega) (by omega),<- dsum_add]
  rfl
theorem nIn_nn (seg:List Int):∀ x∈(List.range 1001).map fun s:Nat=>nIn (s:Int) seg,0<=x:=fun x hx=>by
 obtain ⟨s,_,rfl⟩:=List.mem_map.1 hx
 exact (nIn_bd _ seg).1
theorem wsum_tabT (g:Int->Rat) {seg:List Int} (h:∀ y∈seg,0<=y/\y<=1000):wsum g (tabT seg)=segSum g seg:=by
 rw [tabT,wsum_tabD g _ 0 (nIn_nn seg),List.range_eq_range']
 exact dsum_nIn g 1001 seg fun y hy=>by have:=h y hy;omega
theorem segSum_one:∀ seg:List Int,segSum (fun _=>1) seg=((seg.length:Int):Rat)
 | []=>rfl
 | y::r=>by rw [segSum,segSum_one r,List.length_cons,show ((r.length+1:Nat):Int)=1+(r.length:Int) from by omega,Rat.intCast_add];rfl
theorem wsum_one:∀ t:List (Int×Int),wsum (fun _=>1) t=((sumT t:Int):Rat)
 | []=>rfl
 | (x,n)::t=>by rw [wsum,wsum_one t,sumT,Rat.intCast_add];grind
theorem sumT_tabT {seg:List Int} (h:∀ y∈seg,0<=y/\y<=1000):sumT (tabT seg)=seg.length:=by
 have:=wsum_tabT (fun _=>1) h
 rw [wsum_one,segSum_one] at this
 exact Rat.intCast_inj.1 this
theorem tabD_mem:∀ (l:List Int) (s:Nat) {p:Int×Int},p∈tabD s l->(s:Int)<=p.1/\p.1 < s+l.length/\0 < p.2/\p.2∈l
 | [],_,p,h=>by cases h
 | n::r,s,p,h=>by
  rw [tabD] at h
  split at h
  ·rcases List.mem_cons.1 h with rfl|h
   ·rename_i h1
    exact ⟨Int.le_refl _,by rw [List.length_cons];dsimp only;omega,h1,List.mem_cons_self ..⟩
   ·have:=tabD_mem r (s+1) h
    exact ⟨by omega,by rw [List.length_cons];omega,this.2.2.1,List.mem_cons_of_mem _ this.2.2.2⟩
  ·have:=tabD_mem r (s+1) h
   exact ⟨by omega,by rw [List.length_cons];omega,this.2.2.1,List.mem_cons_of_mem _ this.2.2.2⟩
theorem sorted_tabD:∀ (l:List Int) (s:Nat) (p:Option (Int×Int)),(∀ q,p=some q->q.1 < (s:Int))->sortedT p (tabD s l)=true
 | [],_,p,_=>by rw [tabD];cases p<;>rfl
 | n::r,s,p,h=>by
  rw [tabD]
  split
  ·have ih:=sorted_tabD r (s+1) (some ((s:Int),n)) fun q hq=>by cases hq;dsimp only;omega
   cases p with
   | none=>show (true && sortedT (some ((s:Int),n)) (tabD (s+1) r))=true;rw [ih];rfl
   | some q=>show (decide (q.1 < (s:Int)) && sortedT (some ((s:Int),n)) (tabD (s+1) r))=true;rw [ih,decide_eq_true (h q rfl)];rfl
  ·exact sorted_tabD r (s+1) p fun q hq=>by have:=h q hq;omega
theorem goC_ok {lo hi:Int}:∀ (seg:List Int) (C:List (Int×Int)),(∀ x,cnt x C=nIn x seg)->goC false lo hi C seg=true
 | [],_,_=>rfl
 | s::r,C,h=>by
  have h1:=h s
  rw [nIn,if_pos rfl] at h1
  have h2:=nIn_bd s r
  rw [goC,badC,if_neg (by decide),decide_eq_false (by omega),Bool.not_false,Bool.true_and]
  refine goC_ok r _ fun x=>?_
  have h3:=h x
  rw [nIn] at h3
  rw [cnt_setC]
  by_cases hx:x=s
  ·subst hx;rw [if_pos rfl];omega
  ·rw [if_neg (by omega)] at h3;rw [if_neg hx];omega
theorem tabT_ne {seg:List Int} (h:∀ y∈seg,0<=y/\y<=1000) (h0:0 < seg.length):(tabT seg).length≠0:=fun hz=>by
 have:=sumT_tabT h
 rw [List.length_eq_zero_iff.1 hz,sumT] at this
 omega
theorem tabT_mem {seg:List Int}{p:Int×Int} (hp:p∈tabT seg):(0<=p.1/\p.1<=1000)/\1<=p.2/\p.2<=seg.length:=by
 have:=tabD_mem _ 0 hp
 rw [List.length_map,List.length_range] at this
 obtain ⟨s,_,h2⟩:=List.mem_map.1 this.2.2.2
 have:=nIn_bd s seg
 omega
theorem oneE_tabT {r:Rn}{seg:List Int} (h:∀ y∈seg,0<=y/\y<=1000) (h0:0 < seg.length) (hl:seg.length<=1402560) (ht:r.tab=tabT seg) (h1:r.to_=r.from_+seg.length) (h2:r.lo=0) (h3:r.hi=0):oneE r=0:=by
 rw [oneE,ht,if_neg (tabT_ne h h0),if_neg,if_pos]
 ·exact ⟨sorted_tabD _ 0 none (fun q hq=>by cases hq),by rw [sumT_tabT h];omega,h2,h3⟩
 ·intro hb
  obtain ⟨p,hp,hb⟩:=List.any_eq_true.1 hb
  have:=tabT_mem hp
  rw [badH,decide_eq_true (by omega),decide_eq_true (by omega)] at hb
  cases hb
def PtL:Int->List Int->List Rn->List Spn->Prop
 | _,hs,[],[]=>hs=[]
 | f,hs,r::L,s::l=>∃ n:Nat,0 < n/\n<=hs.length/\(r.from_=f/\r.to_=f+n/\r.tab=tabT (hs.take n)/\r.lo=0/\r.hi=0)/\(s.from_=f/\s.to_=f+n/\RightS s/\fewS s)/\PtL (f+n) (hs.drop n) L l
 | _,_,_,_=>False
theorem PtL.snoc:∀ {L:List Rn}{l:List Spn}{f:Int}{hs seg:List Int}{r:Rn}{s:Spn},PtL f hs L l->0 < seg.length ->
  (r.from_=f+hs.length/\r.to_=f+hs.length+seg.length/\r.tab=tabT seg/\r.lo=0/\r.hi=0)->(s.from_=f+hs.length/\s.to_=f+hs.length+seg.length/\RightS s/\fewS s)->PtL f (hs++seg) (L++[r]) (l++[s])
 | [],[],f,hs,seg,r,s,h,h0,h1,h2=>by
  obtain rfl:hs=[]:=h
  simp only [List.length_nil,Int.natCast_zero,Int.add_zero] at h1 h2
  exact ⟨seg.length,h0,by simp,by simpa using h1,h2,by simp [PtL]⟩
 | r0::L,s0::l,f,hs,seg,r,s,⟨n,k1,k2,k3,k4,k5⟩,h0,h1,h2=>by
  refine ⟨n,k1,by rw [List.length_append];omega,?_,k4,?_⟩
  ·rw [List.take_append_of_le_length k2];exact k3
  ·rw [List.drop_append_of_le_length k2]
   have hl:f+n+((hs.drop n).length:Int)=f+hs.length:=by rw [List.length_drop];omega
   exact PtL.snoc k5 h0 (by rw [hl];exact h1) (by rw [hl];exact h2)
 | [],_::_,_,_,_,_,_,h,_,_,_=>h.elim
 | _::_,[],_,_,_,_,_,h,_,_,_=>h.elim
def tabSum:List Rn->List Spn->Rat
 | r::L,s::l=>wsum (rateOf s) r.tab+tabSum L l
 | _,_=>0
theorem worth_late {l:List Spn}{x t st:Int} (h:InOrd x l) (ht:t < x):worthOf l t st=0:=by
 rw [worthOf,List.getElem?_eq_none (by rw [h.none ht];exact Nat.le_refl _)]
theorem volSum_part {s:Spn}{l:List Spn}{f:Int}{n:Nat} (hs:s.from_=f) (ht:s.to_=f+n) (h:InOrd f (s::l)):∀ (seg:List Int),seg.length=n->volSum (s::l) f seg=segSum (rateOf s) seg:=fun seg hn=>by
 rw [volSum_sep (s::l) (rateOf s) (fun _=>0) seg f fun t h1 h2 x _=>?_]
 ·rw [show tS (fun _=>(0:Rat)) f seg.length=0 from ?_,Rat.add_zero]
  generalize seg.length=m
  clear hn hs ht h
  induction m generalizing f with
  | zero=>rfl
  | succ m ih=>rw [tS,ih,Rat.add_zero]
 ·rw [worth_cons h,if_pos (by rw [inS,decide_eq_true (by omega),decide_eq_true (by omega)];rfl),worth_late h.2.2 (by omega)]
theorem volSum_skip {s:Spn}{l:List Spn}{x:Int} (h:InOrd x (s::l)):∀ (hs:List Int) (f:Int),s.to_<=f->volSum (s::l) f hs=volSum l f hs
 | [],_,_=>rfl
 | y::r,f,hf=>by
  rw [volSum,volSum,volSum_skip h r (f+1) (by omega),worth_cons h,if_neg (by rw [inS,decide_eq_false (show ¬ f < s.to_ by omega),Bool.and_false];decide),Rat.zero_add]
structure PtsOk (f:Int) (hs:List Int) (L:List Rn) (l:List Spn):Prop where
 ord:InOrd f l
 rng:∀ s∈l,(f<=s.from_/\s.to_<=f+hs.length)/\RightS s/\fewS s
 chn:Chn f L
 int:∀ r∈L,inT r=true
 one:∀ r∈L,oneE r=0
 len:L.length=l.length
 fin:∀ (h:0 < L.length),(L[L.length-1]).to_=f+hs.length
 nil:L.length=0->hs=[]
 sep:∀ r∈L,r.tab.length≠0/\f<=r.from_/\∃ s,∀ t,r.from_<=t->t < r.to_->∀ st,worthOf l t st=rateOf s st
 sum:volSum l f (firstS L)=tabSum L l/\volSum l f hs=tabSum L l
 tbl:∀ k (h1:k < L.length) (h2:k < l.length),L[k].from_=l[k].from_/\L[k].to_=l[k].to_
theorem PtL.ok:∀ {L:List Rn}{l:List Spn}{f:Int}{hs:List Int},PtL f hs L l->0<=f->f+hs.length<=1402560->(∀ y∈hs,0<=y/\y<=1000)->PtsOk f hs L l
 | [],[],f,hs,h,_,_,_=>by
  obtain rfl:hs=[]:=h
  exact { ord:=trivial,rng:=fun s h=>by (cases h),chn:=trivial,int:=fun s h=>by (cases h),one:=fun s h=>by (cases h),len:=rfl,fin:=fun h=>absurd h (Nat.lt_irrefl _),nil:=fun _=>rfl,sep:=fun s h=>by (cases h),sum:=⟨rfl,rfl⟩,tbl:=fun k h1=>absurd h1 (Nat.not_lt_zero _) }
 | r::L,s::l,f,hs,⟨n,k1,k2,⟨a1,a2,a3,a4,a5⟩,⟨b1,b2,b3,b4⟩,k5⟩,h0,h1,h2=>by
  have hd:((hs.drop n).length:Int)=hs.length-n:=by rw [List.length_drop];omega
  have ih:=PtL.ok k5 (by omega) (by omega) fun y hy=>h2 y (List.mem_of_mem_drop hy)
  have hseg:∀ y∈hs.take n,0<=y/\y<=1000:=fun y hy=>h2 y (List.mem_of_mem_take hy)
  have hlen:(hs.take n).length=n:=by rw [List.length_take];omega
  have ho:InOrd f (s::l):=⟨by omega,by omega,by rw [b2];exact ih.ord⟩
  have h1e:oneE r=0:=oneE_tabT hseg (by omega) (by omega) a3 (by rw [hlen];omega) a4 a5
  have hin:inT r=true:=decide_eq_true (by omega)
  have hne:r.tab.length≠0:=by rw [a3];exact tabT_ne hseg (by omega)
  have hst:stagesR r=tabS r.tab:=by rw [stagesR,if_neg hne]
  have hsl:(stagesR r).length=n:=by have:=stagesR_len hin h1e;omega
  have hpos:∀ x∈r.tab,1<=x.2:=fun x hx=>by rw [a3] at hx;exact (tabT_mem hx).2.1
  exact {
   ord:=ho
   rng:=fun x hx=>by
    rcases List.mem_cons.1 hx with rfl|hx
    ·exact ⟨⟨by omega,by omega⟩,b3,b4⟩
    ·have:=ih.rng x hx;exact ⟨⟨by omega,by omega⟩,this.2⟩
   chn:=⟨a1,by rw [a2];exact ih.chn⟩
   int:=fun x hx=>by
    rcases List.mem_cons.1 hx with rfl|hx
    ·exact hin
    ·exact ih.int x hx
   one:=fun x hx=>by
    rcases List.mem_cons.1 hx with rfl|hx
    ·exact h1e
    ·exact ih.one x hx
   len:=by rw [List.length_cons,List.length_cons,ih.len]
   fin:=fun h=>by
    rcases Nat.eq_zero_or_pos L.length with hz|hz
    ·have:=ih.nil hz
     have hd2:=hd
     rw [this,List.length_nil] at hd2
     obtain rfl:=List.length_eq_zero_iff.1 hz
     show r.to_=_
     omega
    ·have:=ih.fin hz
     have e:((r::L)[(r::L).length-1]'(by rw [List.length_cons];omega))=L[L.length-1]:=by
      simp only [List.length_cons,Nat.add_sub_cancel]
      rw [List.getElem_cons,dif_neg (by omega)]
     rw [e,this];omega
   nil:=fun h=>by rw [List.length_cons] at h;omega
   sep:=fun x hx=>by
    rcases List.mem_cons.1 hx with rfl|hx
    ·exact ⟨hne,by omega,s,fun t t1 t2 st=>by rw [worth_cons ho,if_pos (by rw [inS,decide_eq_true (by omega),decide_eq_true (by omega)];rfl),worth_late ho.2.2 (by omega),Rat.add_zero]⟩
    ·obtain ⟨c1,c2,s1,c3⟩:=ih.sep x hx
     exact ⟨c1,by omega,s1,fun t t1 t2 st=>by rw [worth_cons ho,if_neg (by rw [inS,decide_eq_false (show ¬ t < s.to_ by omega),Bool.and_false];decide),Rat.zero_add];exact c3 t t1 t2 st⟩
   sum:=by
    have e1:volSum (s::l) f (stagesR r)=wsum (rateOf s) r.tab:=by rw [volSum_part b1 b2 ho _ hsl,hst,segSum_tab _ _ hpos]
    have e2:volSum (s::l) f (hs.take n)=wsum (rateOf s) r.tab:=by rw [volSum_part b1 b2 ho _ hlen,a3,wsum_tabT _ hseg]
    constructor
    ·rw [firstS,volSum_app,e1,hsl,volSum_skip ho _ _ (by omega),ih.sum.1,tabSum]
    ·conv=>lhs;rw [<- List.take_append_drop n hs]
     rw [volSum_app,e2,hlen,volSum_skip ho _ _ (by omega),ih.sum.2,tabSum]
   tbl:=fun k q1 q2=>by
    cases k with
    | zero=>exact ⟨by show r.from_=s.from_;omega,by show r.to_=s.to_;omega⟩
    | succ k=>exact ih.tbl k (by simpa using q1) (by simpa using q2) }
 | [],_::_,_,_,h,_,_,_=>h.elim
 | _::_,[],_,_,h,_,_,_=>h.elim
section
variable {f:Int}{hs:List Int}{L:List Rn}{l:List Spn} (h:PtsOk f hs L l) (hf:0<=f) (hn:hs.length<=1000) (hb:f+hs.length<=1402560) (hL:L.length<=100)
include h hf hn hb hL
theorem PtsOk.runs:runsErr L=0:=by
 rw [runsErr,if_neg (by omega),rnErr_chn h.chn (fun q hq=>by cases hq) h.int h.one,if_neg (by decide),if_neg]
 rw [lenT]
 rcases Nat.eq_zero_or_pos L.length with hz|hz
 ·rw [List.getElem?_eq_none (by omega)];exact (by decide:¬ (40000:Int) < 0)
 ·rw [List.getElem?_eq_getElem hz,List.getElem?_eq_getElem (show L.length-1 < L.length by omega)]
  have:=(h.sep _ (List.getElem_mem hz)).2.1
  have:=h.fin hz
  dsimp only
  omega
theorem PtsOk.spans:spansErr l=0:=by
 rw [spansErr,if_neg (by have:=h.len;omega)]
 exact spErr_iff.2 ⟨fun s hs=>(h.rng s hs).2.1,h.ord.mono hf⟩
theorem PtsOk.fewS:∀ s∈l,Proofs.YtjcecdmbfmccoaaGreatDoor.fewS s:=fun s hs=>(h.rng s hs).2.2
theorem PtsOk.right:∀ s∈l,RightS s:=fun s hs=>(h.rng s hs).2.1
theorem PtsOk.takeB:∀ r∈L,takeB l r:=fun r hr=>by
 rw [takeB_iff (h.int r hr) h.ord (fun s hs=>(h.rng s hs).2.1)]
 obtain ⟨h1,_,s,h3⟩:=h.sep r hr
 have h4:=h.int r hr
 rw [inT,decide_eq_true_eq] at h4
 rintro (⟨h2,_⟩|⟨_,k,h0,hk,_,j,_,hj,hne⟩)
 ·exact h1 h2
 ·rw [h3 _ (Int.le_refl _) (by omega),h3 _ (by omega) hj,h3 _ (Int.le_refl _) (by omega),h3 _ (by omega) hj] at hne
  exact hne (Rat.add_comm _ _)
theorem PtsOk.exact:exE L l=(rQ (tabSum L l),0):=by
 rw [exE,h.runs hf hn hb hL,if_neg (by decide),h.spans hf hn hb hL,if_neg (by decide),if_neg,if_pos (h.takeB hf hn hb hL),takeS_eq h.ord (h.right hf hn hb hL) L f h.chn h.int h.one (h.takeB hf hn hb hL),h.sum.1]
 intro hx
 obtain ⟨s,hs1,hs2⟩:=List.any_eq_true.1 hx
 have h1:=(h.rng s hs1).1
 have hz:0 < L.length:=by rw [h.len];exact List.length_pos_of_mem hs1
 rw [outX,List.getElem?_eq_getElem hz,List.getElem?_eq_getElem (show L.length-1 < L.length by omega)] at hs2
 have h2:=h.fin hz
 have h3:L[0].from_=f:=by
  have:=h.chn
  cases L with
  | nil=>cases hz
  | cons r t=>exact this.1
 dsimp only at hs2
 rw [Bool.or_eq_true,decide_eq_true_eq,decide_eq_true_eq] at hs2
 omega
theorem PtsOk.value (hr:∀ y∈hs,0<=y/\y<=1000):volE f hs l=(rQ (tabSum L l),0):=by
 have h2:rightH f hs=true:=by
  rw [rightH,decide_eq_true (by omega),Bool.true_and]
  have h3:hs.any badSt=false:=List.any_eq_false.2 fun y hy=>by rw [badSt,decide_eq_true (hr y hy)];decide
  rw [h3];rfl
 rw [volE,h.spans hf hn hb hL,if_neg (by decide),h2,if_neg (by decide),if_neg,h.sum.2]
 intro hx
 obtain ⟨s,hs1,hs2⟩:=List.any_eq_true.1 hx
 have h1:=(h.rng s hs1).1
 rw [outH,Bool.or_eq_true,decide_eq_true_eq,decide_eq_true_eq] at hs2
 omega
theorem PtsOk.table (k:Nat) (h1:k < L.length) (h2:k < l.length):tableE L[k] l[k]=(rQ (wsum (rateOf l[k]) L[k].tab),0):=by
 have k1:=h.int _ (List.getElem_mem h1)
 have k2:=h.one _ (List.getElem_mem h1)
 have k3:=(h.sep _ (List.getElem_mem h1)).1
 have k4:=(h.rng _ (List.getElem_mem h2)).2.1
 have k5:=h.tbl k h1 h2
 have k8:=h.runs hf hn hb hL
 have k6:runsErr [L[k]]=0:=by
  rw [runsErr,if_neg (by simp),rnErr_chn (L:=[L[k]]) (p:=none) (f:=L[k].from_) ⟨rfl,trivial⟩ (fun q hq=>by cases hq) (fun r hr=>by rw [List.mem_singleton.1 hr];exact k1) (fun r hr=>by rw [List.mem_singleton.1 hr];exact k2),if_neg (by decide),if_neg]
  have k7:=(h.sep _ (List.getElem_mem h1)).2.1
  have k9:=(h.rng _ (List.getElem_mem h2)).1
  show ¬ 40000 < L[k].to_-L[k].from_
  omega
 rw [tableE,k6,if_neg (by decide),if_neg (fun h=>h k4),if_neg (by omega),if_neg k3]
end
theorem fewQ_seg {s:Spn} (hf:fewS s) (hR:RightS s):∀ (hs:List Int),(∀ x∈hs,0<=x/\x<=1000)->fewQ (1+141*hs.length) (rQ (segSum (rateOf s) hs))
 | [],_=>fewQ_zero
 | x::hs,h=>by
  have h1:=fewQ_seg hf hR hs fun y hy=>h y (List.mem_cons_of_mem _ hy)
  have h2:=h x (List.mem_cons_self ..)
  rw [segSum]
  exact fewQ_le (fewQ_add (fewQ_rate hf hR h2.1 h2.2) h1 (by decide) (by omega)) (by rw [List.length_cons];omega)
theorem PtL.few:∀ {L:List Rn}{l:List Spn}{f:Int}{hs:List Int},PtL f hs L l->(∀ y∈hs,0<=y/\y<=1000)->∀ k (h1:k < L.length) (h2:k < l.length),fewQ (1+141*hs.length) (rQ (wsum (rateOf l[k]) L[k].tab))/\L[k].tab.length<=hs.length
 | r::L,s::l,f,hs,⟨n,k1,k2,⟨a1,a2,a3,a4,a5⟩,⟨b1,b2,b3,b4⟩,k5⟩,h,k,h1,h2=>by
  cases k with
  | zero =>
   have hseg:∀ y∈hs.take n,0<=y/\y<=1000:=fun y hy=>h y (List.mem_of_mem_take hy)
   have:=fewQ_seg b4 b3 (hs.take n) hseg
   show fewQ _ (rQ (wsum (rateOf s) r.tab))/\r.tab.length<=_
   rw [a3]
   refine ⟨by rw [wsum_tabT _ hseg];exact fewQ_le this (by rw [List.length_take];omega),?_⟩
   have hq:∀ t:List (Int×Int),(∀ p∈t,1<=p.2)->(t.length:Int)<=sumT t:=fun t=>by
    induction t with
    | nil=>intro _;exact Int.le_refl _
    | cons p t ih =>
     intro hp
     have:=ih fun x hx=>hp x (List.mem_cons_of_mem _ hx)
     have:=hp p (List.mem_cons_self ..)
     rw [List.length_cons,sumT];omega
   have:=hq (tabT (hs.take n)) fun p hp=>(tabT_mem hp).2.1
   rw [sumT_tabT hseg,List.length_take] at this
   omega
  | succ k =>
   have:=PtL.few k5 (fun y hy=>h y (List.mem_of_mem_drop hy)) k (by simpa using h1) (by simpa using h2)
   rw [List.length_drop] at this
   exact ⟨fewQ_le this.1 (by omega),Nat.le_trans this.2 (Nat.sub_le _ _)⟩
 | [],_::_,_,_,h,_,_,_,_=>h.elim
 | _::_,[],_,_,h,_,_,_,_=>h.elim
end Go.Proofs.YtjcecdmbfmccoaaGreatDoor
/-
 Plain laws: histories that agree with runs,and what an exchange of stages changes.
-/
namespace Go.Proofs.YtjcecdmbfmccoaaGreatDoor
open Go.RowKit Go.Sl Go.Num
def segL (S:List Int) (p n:Nat):List Int:=(S.drop p).take n
theorem segL_len {S:List Int}{p n:Nat} (h:p+n<=S.length):(segL S p n).length=n:=by rw [segL,List.length_take,List.length_drop];omega
theorem segL_get {S:List Int}{p n i:Nat} (h:p+n<=S.length) (hi:i < n):(segL S p n)[i]'(by rw [segL_len h];exact hi)=S[p+i]'(by omega):=by
 simp [segL]
theorem segL_out {S:List Int}{p n x:Nat}{v:Int} (h:x < p∨p+n<=x):segL (S.set x v) p n=segL S p n:=by
 rw [segL,List.drop_set]
 split
 ·rfl
 ·rw [List.take_set,List.set_eq_of_length_le]
  ·rfl
  ·rw [List.length_take];omega
theorem segL_in {S:List Int}{p n x:Nat}{v:Int} (h:p<=x):segL (S.set x v) p n=(segL S p n).set (x-p) v:=by
 rw [segL,List.drop_set,if_neg (by omega),List.take_set];rfl
theorem nIn_perm {x:Int}{a b:List Int} (h:a.Perm b):nIn x a=nIn x b:=by
 induction h with
 | nil=>rfl
 | cons y _ ih=>rw [nIn,nIn,ih]
 | swap y z l=>rw [nIn,nIn,nIn,nIn];omega
 | trans _ _ h1 h2=>exact h1.trans h2
theorem nIn_app (x:Int):∀ a b:List Int,nIn x (a++b)=nIn x a+nIn x b
 | [],b=>by rw [List.nil_append,nIn,Int.zero_add]
 | y::a,b=>by rw [List.cons_append,nIn,nIn,nIn_app x a b,Int.add_assoc]
theorem nIn_rep (x y:Int):∀ n:Nat,nIn x (List.replicate n y)=if y=x then (n:Int) else 0
 | 0=>by simp [nIn]
 | n+1=>by
  rw [List.replicate_succ,nIn,nIn_rep x y n]
  split<;>omega
theorem nIn_pos {x:Int}:∀ {l:List Int},0 < nIn x l ↔ x∈l
 | []=>by simp [nIn]
 | y::l=>by
  have h1:=nIn_bd x l
  have h2:=nIn_pos (x:=x) (l:=l)
  rw [nIn,List.mem_cons,<- h2]
  by_cases h:y=x
  ·rw [if_pos h];exact ⟨fun _=>.inl h.symm,fun _=>by omega⟩
  ·rw [if_neg h];exact ⟨fun h3=>.inr (by omega),fun h3=>h3.elim (fun h4=>absurd h4.symm h) fun h4=>by omega⟩
theorem cnt_low:∀ (t:List (Int×Int)) (q:Int×Int) {x:Int},sortedT (some q) t=true->x<=q.1->cnt x t=0
 | [],_,_,_,_=>rfl
 | p::t,q,x,h,hx=>by
  rw [sortedT,Bool.and_eq_true,decide_eq_true_eq] at h
  obtain ⟨y,n⟩:=p
  rw [cnt,if_neg (by have:=h.1;dsimp only at this;omega)]
  exact cnt_low t (y,n) h.2 (by have:=h.1;dsimp only at this ⊢;omega)
theorem cnt_fillT:∀ (t:List (Int×Int)) (q:Int×Int) (L:List (Int×Int)),sortedT (some q) t=true->(∀ x,q.1 < x->cnt x L=0)->∀ x,cnt x (fillC L t)=if x<=q.1 then cnt x L else cnt x t
 | [],q,L,_,h,x=>by
  rw [fillC]
  split
  ·rfl
  ·exact h x (by omega)
 | (y,n)::t,q,L,hs,h,x=>by
  rw [sortedT,Bool.and_eq_true,decide_eq_true_eq] at hs
  have hy:=hs.1
  dsimp only at hy
  rw [fillC,cnt_fillT t (y,n) (setC y n L) hs.2 (fun z hz=>by dsimp only at hz;rw [cnt_setC,if_neg (by omega)];exact h z (by omega)) x,cnt_setC]
  dsimp only
  by_cases h1:x<=q.1
  ·rw [if_pos (by omega),if_neg (by omega),if_pos h1]
  ·rw [if_neg h1,cnt]
   by_cases h2:x=y
   ·rw [if_pos (by omega),if_pos h2,if_pos h2]
   ·rw [if_neg h2,if_neg h2]
    split
    ·rw [h x (by omega),cnt_low t (y,n) hs.2 (by dsimp only;omega)]
    ·rfl
theorem cnt_fill0 {t:List (Int×Int)} (hs:sortedT none t=true) (x:Int):cnt x (fillC [] t)=cnt x t:=by
 cases t with
 | nil=>rfl
 | cons p t =>
  obtain ⟨y,n⟩:=p
  rw [sortedT,Bool.and_eq_true] at hs
  rw [fillC,cnt_fillT t (y,n) (setC y n []) hs.2 (fun z hz=>by dsimp only at hz;rw [cnt_setC,if_neg (by omega)];rfl) x,cnt_setC]
  rw [show cnt x ((y,n)::t)=if x=y then n else cnt x t from rfl]
  dsimp only
  by_cases h2:x=y
  ·rw [if_pos (by omega),if_pos h2,if_pos h2]
  ·rw [if_neg h2,if_neg h2]
   split
   ·rw [cnt_low t (y,n) hs.2 (by dsimp only;omega)];rfl
   ·rfl
theorem nIn_tabS:∀ (t:List (Int×Int)) (q:Option (Int×Int)),sortedT q t=true->(∀ p∈t,1<=p.2)->∀ x,nIn x (tabS t)=cnt x t
 | [],_,_,_,_=>rfl
 | (y,n)::t,q,hs,hp,x=>by
  have h2:sortedT (some (y,n)) t=true:=by unfold sortedT at hs;rw [Bool.and_eq_true] at hs;exact hs.2
  have h3:=hp _ (List.mem_cons_self ..)
  have ih:=nIn_tabS t (some (y,n)) h2 (fun p h=>hp p (List.mem_cons_of_mem _ h)) x
  dsimp only at h3
  show nIn x (List.replicate n.toNat y++tabS t)=_
  rw [nIn_app,nIn_rep,ih,cnt]
  by_cases h:x=y
  ·rw [if_pos h.symm,if_pos h,cnt_low t (y,n) h2 (by dsimp only;omega)];omega
  ·rw [if_neg (fun e=>h e.symm),if_neg h,Int.zero_add]
def AgrP (r:Rn) (seg:List Int):Prop:=if r.tab.length=0 then (seg.length=(r.to_-r.from_).toNat/\∀ x∈seg,x=r.lo∨x=r.hi) else seg.Perm (tabS r.tab)
def AgrA (f:Int) (S:List Int) (rs:List Rn):Prop:=∀ k (hk:k < rs.length),AgrP rs[k] (segL S (rs[k].from_-f).toNat (rs[k].to_-rs[k].from_).toNat)
theorem chn_lt:∀ {L:List Rn}{f:Int},Chn f L->(∀ r∈L,inT r=true)->∀ i j (hij:i < j) (hj:j < L.length),f<=(L[i]'(by omega)).from_/\(L[i]'(by omega)).to_<=L[j].from_
 | r::t,f,h,h1,i,j,hij,hj=>by
  have h2:=h1 r (List.mem_cons_self ..)
  rw [inT,decide_eq_true_eq] at h2
  have h3:=h.1
  have hlow:∀ {M:List Rn}{g:Int},Chn g M->(∀ r∈M,inT r=true)->∀ k (hk:k < M.length),g<=M[k].from_:=fun {M}=>by
   induction M with
   | nil=>intro g _ _ k hk;exact absurd hk (Nat.not_lt_zero _)
   | cons x M ih =>
    intro g hg hM k hk
    have h5:=hM x (List.mem_cons_self ..)
    rw [inT,decide_eq_true_eq] at h5
    have h6:=hg.1
    cases k with
    | zero=>show g<=x.from_;omega
    | succ k =>
     have:=ih hg.2 (fun y hy=>hM y (List.mem_cons_of_mem _ hy)) k (by simpa using hk)
     simp only [List.getElem_cons_succ]
     omega
  cases j with
  | zero=>omega
  | succ j =>
   cases i with
   | zero =>
    have:=hlow h.2 (fun y hy=>h1 y (List.mem_cons_of_mem _ hy)) j (by simpa using hj)
    exact ⟨by show f<=r.from_;omega,this⟩
   | succ i =>
    have:=chn_lt h.2 (fun y hy=>h1 y (List.mem_cons_of_mem _ hy)) i j (by omega) (by simpa using hj)
    simp only [List.getElem_cons_succ]
    exact ⟨by omega,this.2⟩
def AgrS:Int->List Int->List Rn->Prop
 | _,S,[]=>S=[]
 | f,S,r::t=>∃ n:Nat,r.from_=f/\r.to_=f+n/\n<=S.length/\AgrP r (S.take n)/\AgrS (f+n) (S.drop n) t
theorem AgrA.step {f0:Int}{S0:List Int}:∀ {rs:List Rn}{d:Nat},Chn (f0+d) rs->(∀ r∈rs,inT r=true)->(∀ r∈rs,oneE r=0)->S0.length=d+(firstS rs).length->(∀ k (hk:k < rs.length),AgrP rs[k] (segL S0 (rs[k].from_-f0).toNat (rs[k].to_-rs[k].from_).toNat))->AgrS (f0+d) (S0.drop d) rs
 | [],d,_,_,_,hl,_=>by
  rw [firstS,List.length_nil] at hl
  exact List.drop_eq_nil_of_le (by omega)
 | r::t,d,hc,hT,hO,hl,h=>by
  have h1:=hT r (List.mem_cons_self ..)
  have h2:=stagesR_len h1 (hO r (List.mem_cons_self ..))
  rw [inT,decide_eq_true_eq] at h1
  have h3:=hc.1
  rw [firstS,List.length_append] at hl
  have h4:=h 0 (Nat.zero_lt_succ _)
  simp only [List.getElem_cons_zero] at h4
  have h5:r.to_=f0+((d+(r.to_-r.from_).toNat:Nat):Int):=by omega
  have h6:=hc.2
  rw [h5] at h6
  have ih:=AgrA.step (rs:=t) (d:=d+(r.to_-r.from_).toNat) h6 (fun x hx=>hT x (List.mem_cons_of_mem _ hx)) (fun x hx=>hO x (List.mem_cons_of_mem _ hx)) (by omega) fun k hk=>h (k+1) (by simpa using hk)
  refine ⟨(r.to_-r.from_).toNat,h3,by omega,by rw [List.length_drop];omega,?_,?_⟩
  ·rw [show (r.from_-f0).toNat=d by omega] at h4;exact h4
  ·rw [List.drop_drop,show f0+d+(((r.to_-r.from_).toNat:Nat):Int)=f0+((d+(r.to_-r.from_).toNat:Nat):Int) by omega]
   exact ih
theorem AgrP.first {r:Rn}:AgrP r (stagesR r):=by
 rw [AgrP,stagesR]
 split
 ·exact ⟨List.length_replicate,fun x hx=>.inl (List.eq_of_mem_replicate hx)⟩
 ·exact List.Perm.refl _
theorem goC_gap {lo hi:Int}:∀ (seg:List Int) (C:List (Int×Int)),(∀ x∈seg,lo<=x/\x<=hi)->goC true lo hi C seg=true
 | [],_,_=>rfl
 | s::r,C,h=>by
  rw [goC,badC,if_pos rfl,decide_eq_true (h s (List.mem_cons_self ..)),Bool.not_true,Bool.not_false,Bool.true_and]
  exact goC_gap r _ fun x hx=>h x (List.mem_cons_of_mem _ hx)
theorem AgrP.agr1 {r:Rn}{seg:List Int} (h1:oneE r=0) (h:AgrP r seg):agr1 r seg=true:=by
 rw [AgrP] at h
 rw [Proofs.YtjcecdmbfmccoaaGreatDoor.agr1]
 by_cases h0:r.tab.length=0
 ·have:=oneE_gap h1 h0
  rw [if_pos h0] at h
  rw [decide_eq_true h0]
  exact goC_gap seg _ fun x hx=>by rcases h.2 x hx with rfl|rfl<;>omega
 ·obtain ⟨t1,t2,t3,_⟩:=oneE_tab h1 h0
  rw [if_neg h0] at h
  rw [decide_eq_false h0]
  exact goC_ok seg _ fun x=>by rw [cnt_fill0 t2,nIn_perm h,nIn_tabS r.tab none t2 (fun p hp=>(t1 p hp).2.1)]
theorem AgrP.bd {r:Rn}{seg:List Int} (h1:oneE r=0) (h:AgrP r seg):∀ x∈seg,0<=x/\x<=1000:=by
 rw [AgrP] at h
 by_cases h0:r.tab.length=0
 ·have:=oneE_gap h1 h0
  rw [if_pos h0] at h
  intro x hx
  rcases h.2 x hx with rfl|rfl<;>omega
 ·rw [if_neg h0] at h
  have:=stagesR_bd h1
  rw [stagesR,if_neg h0] at this
  exact fun x hx=>this x (h.mem_iff.1 hx)
theorem AgrS.agrL {f0:Int}{S0:List Int}:∀ {rs:List Rn}{d:Nat},(∀ r∈rs,oneE r=0)->AgrS (f0+d) (S0.drop d) rs->agrL f0 S0 rs=true
 | [],_,_,_=>rfl
 | r::t,d,hO,⟨n,h1,h2,h3,h4,h5⟩=>by
  rw [Proofs.YtjcecdmbfmccoaaGreatDoor.agrL,show (r.from_-f0).toNat=d by omega,show (r.to_-r.from_).toNat=n by omega,h4.agr1 (hO r (List.mem_cons_self ..)),Bool.true_and]
  rw [List.drop_drop,show f0+d+(n:Int)=f0+((d+n:Nat):Int) by omega] at h5
  exact AgrS.agrL (fun x hx=>hO x (List.mem_cons_of_mem _ hx)) h5
theorem AgrS.bd:∀ {rs:List Rn}{f:Int}{S:List Int},(∀ r∈rs,oneE r=0)->AgrS f S rs->∀ x∈S,0<=x/\x<=1000
 | [],_,S,_,h,x,hx=>by rw [show S=[] from h] at hx;cases hx
 | r::t,f,S,hO,⟨n,h1,h2,h3,h4,h5⟩,x,hx=>by
  rw [<- List.take_append_drop n S] at hx
  rcases List.mem_append.1 hx with hx|hx
  ·exact h4.bd (hO r (List.mem_cons_self ..)) x hx
  ·exact AgrS.bd (fun x hx=>hO x (List.mem_cons_of_mem _ hx)) h5 x hx
section
variable {f:Int}{S:List Int}{rs:List Rn} (hc:Chn f rs) (hT:∀ r∈rs,inT r=true)
include hc hT
theorem AgrA.set {p:Nat}{v:Int}{k:Nat} (hk:k < rs.length) (h:AgrA f S rs) (hp1:(rs[k].from_-f).toNat<=p) (hp2:p < (rs[k].to_-f).toNat) (hn:AgrP rs[k] (segL (S.set p v) (rs[k].from_-f).toNat (rs[k].to_-rs[k].from_).toNat)):AgrA f (S.set p v) rs:=fun j hj=>by
 rcases Nat.lt_trichotomy j k with hlt|rfl|hlt
 ·have:=chn_lt hc hT j k hlt hk
  have hin:=hT _ (List.getElem_mem hj)
  rw [inT,decide_eq_true_eq] at hin
  rw [segL_out (by omega)];exact h j hj
 ·exact hn
 ·have:=chn_lt hc hT k j hlt hj
  have hin:=hT _ (List.getElem_mem hk)
  rw [inT,decide_eq_true_eq] at hin
  rw [segL_out (by omega)];exact h j hj
theorem AgrA.swap {b n i j:Nat}{k:Nat} (hk:k < rs.length) (hb:rs[k].from_=f+b) (hn:rs[k].to_=rs[k].from_+n) (hS:b+n<=S.length) (h:AgrA f S rs) (hi:i < n) (hj:j < n) (h0:rs[k].tab.length≠0):AgrA f ((S.set (b+i) (S[b+j]'(by omega))).set (b+j) (S[b+i]'(by omega))) rs:=fun z hz=>by
 rcases Nat.lt_trichotomy z k with hlt|rfl|hlt
 ·have:=chn_lt hc hT z k hlt hk
  have hin:=hT _ (List.getElem_mem hz)
  rw [inT,decide_eq_true_eq] at hin
  rw [segL_out (by omega),segL_out (by omega)];exact h z hz
 ·have h1:=h z hz
  rw [AgrP,if_neg h0] at h1 ⊢
  have e1:(rs[z].from_-f).toNat=b:=by omega
  have e2:(rs[z].to_-rs[z].from_).toNat=n:=by omega
  rw [e1,e2] at h1 ⊢
  rw [segL_in (by omega),segL_in (by omega),show b+i-b=i by omega,show b+j-b=j by omega,<- segL_get hS hi,<- segL_get hS hj]
  exact (swap_perm _ i j (by rw [segL_len hS];exact hi) (by rw [segL_len hS];exact hj)).trans h1
 ·have:=chn_lt hc hT k z hlt hz
  have hin:=hT _ (List.getElem_mem hk)
  rw [inT,decide_eq_true_eq] at hin
  rw [segL_out (by omega),segL_out (by omega)];exact h z hz
end
end Go.Proofs.YtjcecdmbfmccoaaGreatDoor
/-
 Ranges over functions inside a round of another one.
-/
namespace Go.Sl
open Go.RowKit
variable {C:Ctx}{st:List (Nat×Value)}{M:List Row}{k:List Item}{q q':Md}{all rest:List Oper}{d:Nat}{ty:TypeId}{pos:String}{after:Array Edge}{gd:Option (Nat×Bool)}
theorem Splt.pre (T:List Row):∀ K:List Row,Splt T (K++T) K
 | []=>.nil
 | _::K=>.cons (Splt.pre T K)
theorem G.sA {T n:TypeId}{x y:Operand}{vs:List Value}{b j tot:Nat}{e:TypeId}{cs out:List Value}{F:Row->List Row} (hs:wqB all st gd q.res=some q')
  (hx:evS st x=some (.pointer (some ⟨b,j,none⟩))) (hy:evS st y=some (.agg vs.toArray)) (hm:RAt (.blk b e cs tot) M F) [hT:TSize C.P T n] (hn:vs.length=n) (h1:vs.all (·.oneCell')=true) (hj:j+vs.length<=cs.length) (ho:setL cs j vs=out)
  (h:G q' C all st (F (.blk b e out tot)) rest k) :
  G q C all st M ({ dst:=none,op:=.store T x y,type:=ty,pos,after,guard:=gd }::rest) k:=by
 obtain ⟨g1,g2⟩:=wqB_ok hs
 obtain ⟨i,h5,h6⟩:=hm.idx
 subst ho
 rw [<- h6] at h
 exact G.storeI (vs:=vs) g1 g2 hx h5 hy rfl h1 hj hn h
end Go.Sl
/-
 Plain: runs that are joined,cut,summarized and compared.
-/
namespace Go.Proofs.YtjcecdmbfmccoaaGreatDoor
open Go.RowKit Go.Sl Go.Num
def mkR (f t s:Int):Rn:=⟨f,t,[(s,t-f)],none,0,0,0⟩
def jblB (a b:Rn):Bool:=if a.tab.length=1/\b.tab.length=1 then decide (stg a=stg b) else decide (a.tab.length=0/\b.tab.length=0/\a.lo=b.lo/\a.hi=b.hi)
def jnR (a b:Rn):Rn:=⟨a.from_,b.to_,if b.tab.length=0 then [] else [(stg b,b.to_-a.from_)],none,0,b.lo,b.hi⟩
def putL (l:List Rn) (x:Rn):List Rn:=match l.getLast? with
 | none=>[x]
 | some y=>if jblB y x=true then l.dropLast++[jnR y x] else l++[x]
def joinF (o l:List Rn):List Rn:=l.foldl putL o
def joinL (l:List Rn):List Rn:=joinF [] l
theorem putL_snoc (l:List Rn) (y x:Rn):putL (l++[y]) x=if jblB y x=true then l++[jnR y x] else l++[y]++[x]:=by
 rw [putL,List.getLast?_concat]
 dsimp only
 rw [List.dropLast_concat]
theorem joinF_nil (o:List Rn):joinF o []=o:=rfl
theorem joinF_cons (o:List Rn) (x:Rn) (l:List Rn):joinF o (x::l)=joinF (putL o x) l:=rfl
theorem joinF_app (o a b:List Rn):joinF o (a++b)=joinF (joinF o a) b:=List.foldl_append
theorem jblB_bare (a b:Rn):jblB (rbare a) (rbare b)=jblB a b:=rfl
theorem jnR_bare (a b:Rn):jnR (rbare a) (rbare b)=rbare (jnR a b):=rfl
theorem putL_bare (l:List Rn) (x:Rn):putL (l.map rbare) (rbare x)=(putL l x).map rbare:=by
 rcases nil_or_snoc l with rfl|⟨o,y,rfl⟩
 ·rfl
 ·rw [List.map_append,List.map_cons,List.map_nil,putL_snoc,putL_snoc,jblB_bare,jnR_bare]
  split<;>simp
theorem joinF_bare:∀ (l o:List Rn),joinF (o.map rbare) (l.map rbare)=(joinF o l).map rbare
 | [],_=>rfl
 | x::l,o=>by rw [List.map_cons,joinF_cons,joinF_cons,putL_bare,joinF_bare l]
theorem putL_len (l:List Rn) (x:Rn):(putL l x).length<=l.length+1:=by
 rcases nil_or_snoc l with rfl|⟨o,y,rfl⟩
 ·exact Nat.le_refl _
 ·rw [putL_snoc];split<;>simp
theorem joinF_len:∀ (l o:List Rn),(joinF o l).length<=o.length+l.length
 | [],_=>Nat.le_refl _
 | x::l,o=>by
  have:=joinF_len l (putL o x)
  have:=putL_len o x
  rw [joinF_cons,List.length_cons];omega
theorem joinL_len (l:List Rn):(joinL l).length<=l.length:=by have:=joinF_len l [];simpa [joinL] using this
def totC (l:List Rn) (s:Int):Int:=match l with
 | []=>0
 | r::t=>cnt s r.tab+totC t s
theorem totC_app (s:Int):∀ a b:List Rn,totC (a++b) s=totC a s+totC b s
 | [],b=>by rw [List.nil_append,totC,Int.zero_add]
 | r::a,b=>by rw [List.cons_append,totC,totC,totC_app s a b,Int.add_assoc]
def lastD (l:List Rn):Rn:=(l.getLast?).getD (mkR 0 0 0)
def headD' (l:List Rn):Rn:=l.headD (mkR 0 0 0)
def rowS (g:Nat->Nat):Nat->Nat
 | 0=>1
 | k+1=>g (k+1)+rowS g k
def OkR (r:Rn):Prop:=inT r=true/\oneE r=0
def AgP (r:Rn) (A:List Int):Prop:=if r.tab.length=0 then A.length=(r.to_-r.from_).toNat/\∀ x∈A,r.lo<=x/\x<=r.hi else A.Perm (tabS r.tab)
def AgS:List Rn->List Int->Prop
 | [],S=>S=[]
 | r::t,S=>∃ A B,S=A++B/\AgP r A/\AgS t B
theorem AgS_app:∀ {a b:List Rn}{S:List Int},AgS (a++b) S ↔ ∃ A B,S=A++B/\AgS a A/\AgS b B
 | [],b,S=>⟨fun h=>⟨[],S,rfl,rfl,h⟩,fun ⟨A,B,h1,h2,h3⟩=>by rw [AgS] at h2;subst h2 h1;exact h3⟩
 | r::a,b,S=>by
  rw [List.cons_append,AgS]
  constructor
  ·rintro ⟨A,B,rfl,h2,h3⟩
   obtain ⟨A2,B2,rfl,h4,h5⟩:=AgS_app.1 h3
   exact ⟨A++A2,B2,(List.append_assoc ..).symm,⟨A,A2,rfl,h2,h4⟩,h5⟩
  ·rintro ⟨_,B,rfl,⟨A,A2,rfl,h2,h4⟩,h5⟩
   exact ⟨A,A2++B,List.append_assoc ..,h2,AgS_app.2 ⟨A2,B,rfl,h4,h5⟩⟩
theorem AgS_one {r:Rn}{S:List Int}:AgS [r] S ↔ AgP r S:=by
 constructor
 ·rintro ⟨A,B,rfl,h2,h3⟩
  rw [AgS] at h3;subst h3
  rw [List.append_nil];exact h2
 ·exact fun h=>⟨S,[],(List.append_nil _).symm,h,rfl⟩
theorem OkR.rng {r:Rn} (h:OkR r):0<=r.from_/\r.from_ < r.to_/\r.to_<=1402560:=by have:=h.1;rw [inT,decide_eq_true_eq] at this;exact this
theorem OkR.gap {r:Rn} (h:OkR r) (h0:r.tab.length=0):0<=r.lo/\r.lo<=r.hi/\r.hi<=1000:=by
 have:=h.2
 rw [oneE,if_pos h0] at this
 split at this
 ·cases this
 ·omega
theorem OkR.raw {r:Rn} (h:OkR r) (h1:r.tab.length=1):rawR r (stg r)/\0<=stg r/\stg r<=1000:=by
 obtain ⟨h2,_,h4,h5,h6⟩:=oneE_tab h.2 (by omega)
 obtain ⟨f,t,tab,ad,cp,lo,hi⟩:=r
 match tab,h1 with
 | [(s,n)],_ =>
  have:=(h2 (s,n) (List.mem_cons_self ..)).1
  dsimp only at h4 h5 h6 this
  rw [sumT,sumT,Int.add_zero] at h4
  dsimp only at h4
  subst h4 h5 h6
  exact ⟨⟨rfl,rfl,rfl⟩,this⟩
theorem AgP.len {r:Rn}{A:List Int} (h:OkR r) (ha:AgP r A):(A.length:Int)=r.to_-r.from_:=by
 have hr:=h.rng
 rw [AgP] at ha
 split at ha
 ·rw [ha.1];omega
 ·rename_i h0
  obtain ⟨h2,_,h4,_⟩:=oneE_tab h.2 h0
  rw [ha.length_eq,tabS_len _ fun x hx=>(h2 x hx).2.1,h4]
theorem AgP.bd {r:Rn}{A:List Int} (h:OkR r) (ha:AgP r A):∀ x∈A,0<=x/\x<=1000:=by
 intro x hx
 rw [AgP] at ha
 split at ha
 ·rename_i h0
  have:=h.gap h0
  have:=ha.2 x hx
  omega
 ·rename_i h0
  obtain ⟨m,hm⟩:=tabS_mem (ha.mem_iff.1 hx)
  exact ((oneE_tab h.2 h0).1 _ hm).1
theorem AgP.first' {r:Rn} (h:OkR r):AgP r (stagesR r):=by
 rw [AgP,stagesR]
 split
 ·rename_i h0
  have:=h.gap h0
  exact ⟨List.length_replicate,fun x hx=>by rw [List.eq_of_mem_replicate hx];omega⟩
 ·exact List.Perm.refl _
theorem AgS.first:∀ {l:List Rn},(∀ r∈l,OkR r)->AgS l (firstS l)
 | [],_=>rfl
 | r::t,h=>⟨_,_,rfl,AgP.first' (h r (List.mem_cons_self ..)),AgS.first fun x hx=>h x (List.mem_cons_of_mem _ hx)⟩
theorem AgS.bd':∀ {l:List Rn}{S:List Int},(∀ r∈l,OkR r)->AgS l S->∀ x∈S,0<=x/\x<=1000
 | [],S,_,h,x,hx=>by rw [AgS] at h;subst h;cases hx
 | r::t,S,h,⟨A,B,e,h1,h2⟩,x,hx=>by
  subst e
  rcases List.mem_append.1 hx with hx|hx
  ·exact AgP.bd (h r (List.mem_cons_self ..)) h1 x hx
  ·exact AgS.bd' (fun y hy=>h y (List.mem_cons_of_mem _ hy)) h2 x hx
theorem AgP.raw {r:Rn}{A:List Int}{s:Int} (h:rawR r s):AgP r A ↔ A=List.replicate (r.to_-r.from_).toNat s:=by
 rw [AgP,h.1]
 simp only [List.length_cons,List.length_nil,Nat.zero_add,Nat.one_ne_zero,if_false]
 rw [show tabS [(s,r.to_-r.from_)]=List.replicate (r.to_-r.from_).toNat s by rw [tabS_cons,show tabS []=[] from rfl,List.append_nil]]
 exact List.perm_replicate
def Cn:Int->List Rn->Int->Prop
 | f,[],t=>f=t
 | f,r::l,t=>r.from_=f/\Cn r.to_ l t
theorem Cn.app:∀ {a b:List Rn}{f t:Int},Cn f (a++b) t ↔ ∃ m,Cn f a m/\Cn m b t
 | [],b,f,t=>⟨fun h=>⟨f,rfl,h⟩,fun ⟨m,h1,h2⟩=>by rw [Cn] at h1;subst h1;exact h2⟩
 | r::a,b,f,t=>by
  rw [List.cons_append,Cn,Cn.app]
  exact ⟨fun ⟨h1,m,h2,h3⟩=>⟨m,⟨h1,h2⟩,h3⟩,fun ⟨m,⟨h1,h2⟩,h3⟩=>⟨h1,m,h2,h3⟩⟩
theorem Cn.one {r:Rn}{f t:Int}:Cn f [r] t ↔ r.from_=f/\r.to_=t:=Iff.rfl
theorem Cn.le:∀ {l:List Rn}{f t:Int},Cn f l t->(∀ r∈l,OkR r)->f+l.length<=t
 | [],f,t,h,_=>by rw [Cn] at h;rw [List.length_nil];omega
 | r::l,f,t,h,ho=>by
  have h1:=(ho r (List.mem_cons_self ..)).rng
  have h2:=h.2.le fun x hx=>ho x (List.mem_cons_of_mem _ hx)
  have:=h.1
  rw [List.length_cons];omega
theorem lastD_snoc (l:List Rn) (x:Rn):lastD (l++[x])=x:=by rw [lastD,List.getLast?_concat];rfl
theorem Cn.last {l:List Rn}{f t:Int} (h:Cn f l t) (h0:l≠[]):(lastD l).to_=t:=by
 rcases nil_or_snoc l with rfl|⟨o,y,rfl⟩
 ·exact absurd rfl h0
 ·obtain ⟨m,_,h2⟩:=Cn.app.1 h
  rw [lastD_snoc];exact h2.2
theorem Cn.first {l:List Rn}{f t:Int} (h:Cn f l t) (h0:l≠[]):(headD' l).from_=f/\firstF l=f:=by
 cases l with
 | nil=>exact absurd rfl h0
 | cons r l=>exact ⟨h.1,h.1⟩
theorem lenT_eq {l:List Rn} (h0:l≠[]):lenT l=(lastD l).to_-(headD' l).from_:=by
 cases l with
 | nil=>exact absurd rfl h0
 | cons r t =>
  unfold lenT
  rw [<- List.getLast?_eq_getElem?]
  have:(r::t).getLast?=some (lastD (r::t)):=by rw [lastD,List.getLast?_eq_some_getLast h0];rfl
  rw [this]
  rfl
theorem cn_of:∀ {l:List Rn}{f:Int},Chn f l->l≠[]->Cn f l (lastD l).to_
 | [r],f,h,_=>⟨h.1,rfl⟩
 | r::s::l,f,h,_=>by
  have:=cn_of (l:=s::l) h.2 (List.cons_ne_nil _ _)
  refine ⟨h.1,?_⟩
  rw [show lastD (r::s::l)=lastD (s::l) by rw [lastD,lastD,List.getLast?_cons_cons]]
  exact this
theorem runs_ok {l:List Rn} (h:runsErr l=0):(∀ r∈l,OkR r)/\l.length<=2000/\(l≠[]->Cn (headD' l).from_ l (lastD l).to_/\(lastD l).to_-(headD' l).from_<=40000):=by
 obtain ⟨h1,h2,h3⟩:=runsErr_ok h
 refine ⟨fun r hr=>⟨h2 r hr,runsErr_one h r hr⟩,h1,fun h0=>⟨?_,by rw [<- lenT_eq h0];exact h3⟩⟩
 have h4:Chn (firstF l) l:=chn_of (p:=none) (runsErr_rn h)
 have h5:=cn_of h4 h0
 have h6:=h5.first h0
 rw [h6.1];exact h5
theorem AgS.len:∀ {l:List Rn}{S:List Int}{f t:Int},Cn f l t->(∀ r∈l,OkR r)->AgS l S->f+S.length=t
 | [],S,f,t,h,_,ha=>by rw [Cn] at h;rw [AgS] at ha;subst ha h;rw [List.length_nil];omega
 | r::l,S,f,t,h,ho,⟨A,B,e,h1,h2⟩=>by
  subst e
  have h3:=AgP.len (ho r (List.mem_cons_self ..)) h1
  have h4:=AgS.len h.2 (fun x hx=>ho x (List.mem_cons_of_mem _ hx)) h2
  have:=h.1
  rw [List.length_append];omega
theorem jbl_ok {a b:Rn} (ha:OkR a) (hb:OkR b) (hj:jblB a b=true) (h:b.from_=a.to_):OkR (jnR a b)/\(∀ A B,AgP a A->AgP b B->AgP (jnR a b) (A++B))/\(∀ s,cnt s (jnR a b).tab=cnt s a.tab+cnt s b.tab)/\(jnR a b).tab.length=a.tab.length:=by
 have r1:=ha.rng
 have r2:=hb.rng
 rw [jblB] at hj
 split at hj
 ·rename_i h1
  rw [decide_eq_true_eq] at hj
  obtain ⟨⟨a1,a2,a3⟩,a4⟩:=ha.raw h1.1
  obtain ⟨⟨b1,b2,b3⟩,b4⟩:=hb.raw h1.2
  rw [hj] at a1
  have e1:(jnR a b).tab=[(stg b,(jnR a b).to_-(jnR a b).from_)]:=by rw [jnR,if_neg (by omega)]
  have e2:rawR (jnR a b) (stg b):=⟨e1,b2,b3⟩
  have e3:stg (jnR a b)=stg b:=by rw [stg,e1];rfl
  refine ⟨⟨?_,oneE_raw (by rw [e3];exact e2) (by rw [e3];exact b4) ?_⟩,fun A B hA hB=>?_,fun s=>?_,by rw [e1,h1.1];rfl⟩
  ·rw [inT,decide_eq_true_eq];show 0<=a.from_/\a.from_ < b.to_/\b.to_<=1402560;omega
  ·show 0<=a.from_/\a.from_ < b.to_/\b.to_<=1402560;omega
  ·rw [AgP.raw ⟨a1,a2,a3⟩] at hA
   rw [AgP.raw ⟨b1,b2,b3⟩] at hB
   subst hA hB
   rw [AgP.raw e2,List.replicate_append_replicate]
   congr 1
   show _=(b.to_-a.from_).toNat
   omega
  ·rw [e1,a1,b1]
   simp only [cnt]
   show (if s=stg b then b.to_-a.from_ else 0)=_
   split<;>omega
 ·rw [decide_eq_true_eq] at hj
  obtain ⟨h1,h2,h3,h4⟩:=hj
  have g1:=hb.gap h2
  have e1:(jnR a b).tab=[]:=by rw [jnR,if_pos h2]
  have e0:(jnR a b).tab.length=0:=by rw [e1];rfl
  refine ⟨⟨?_,?_⟩,fun A B hA hB=>?_,fun s=>?_,by rw [e0,h1]⟩
  ·rw [inT,decide_eq_true_eq];show 0<=a.from_/\a.from_ < b.to_/\b.to_<=1402560;omega
  ·rw [oneE,if_pos e0,if_neg]
   show ¬ (b.lo < 0∨b.hi < b.lo∨1000 < b.hi)
   omega
  ·rw [AgP,if_pos h1] at hA
   rw [AgP,if_pos h2] at hB
   rw [AgP,if_pos e0]
   refine ⟨?_,fun x hx=>?_⟩
   ·rw [List.length_append,hA.1,hB.1]
    show _=(b.to_-a.from_).toNat
    omega
   ·show b.lo<=x/\x<=b.hi
    rcases List.mem_append.1 hx with hx|hx
    ·have:=hA.2 x hx;omega
    ·exact hB.2 x hx
  ·rw [e1,List.length_eq_zero_iff.1 h1,List.length_eq_zero_iff.1 h2];rfl
structure Jnd (f t:Int) (o:List Rn) (S:List Int->Prop) (c:Int->Int) (g:Prop):Prop where
 cn:Cn f o t
 ok:∀ r∈o,OkR r
 ag:∀ A,S A->AgS o A
 tot:∀ s,totC o s=c s
 gp:g->∀ r∈o,r.tab.length≠0
theorem putL_ok {f m:Int}{o:List Rn}{x:Rn} (h1:Cn f o m) (h2:∀ r∈o,OkR r) (h3:OkR x) (h4:x.from_=m) :
  Cn f (putL o x) x.to_/\(∀ r∈putL o x,OkR r)/\(∀ S A,AgS o S->AgP x A->AgS (putL o x) (S++A))/\(∀ s,totC (putL o x) s=totC o s+cnt s x.tab)/\((∀ r∈o,r.tab.length≠0)->x.tab.length≠0->∀ r∈putL o x,r.tab.length≠0):=by
 have key:Cn f (o++[x]) x.to_/\(∀ r∈o++[x],OkR r)/\(∀ S A,AgS o S->AgP x A->AgS (o++[x]) (S++A))/\(∀ s,totC (o++[x]) s=totC o s+cnt s x.tab)/\((∀ r∈o,r.tab.length≠0)->x.tab.length≠0->∀ r∈o++[x],r.tab.length≠0):=by
  refine ⟨Cn.app.2 ⟨m,h1,h4,rfl⟩,fun r hr=>?_,fun S A hS hA=>AgS_app.2 ⟨S,A,rfl,hS,AgS_one.2 hA⟩,fun s=>?_,fun q1 q2 r hr=>?_⟩
  ·rcases List.mem_append.1 hr with hr|hr
   ·exact h2 r hr
   ·rw [List.mem_singleton.1 hr];exact h3
  ·rw [totC_app,totC,totC,Int.add_zero]
  ·rcases List.mem_append.1 hr with hr|hr
   ·exact q1 r hr
   ·rw [List.mem_singleton.1 hr];exact q2
 rcases nil_or_snoc o with rfl|⟨o,y,rfl⟩
 ·exact key
 rw [putL_snoc]
 split
 ·rename_i hj
  obtain ⟨n,e1,e2,e3⟩:=Cn.app.1 h1
  rw [Cn] at e3
  have hy:=h2 y (by simp)
  obtain ⟨j1,j2,j3,j4⟩:=jbl_ok hy h3 hj (by omega)
  refine ⟨Cn.app.2 ⟨n,e1,e2,rfl⟩,fun r hr=>?_,fun S A hS hA=>?_,fun s=>?_,fun q1 _ r hr=>?_⟩
  ·rcases List.mem_append.1 hr with hr|hr
   ·exact h2 r (List.mem_append_left _ hr)
   ·rw [List.mem_singleton.1 hr];exact j1
  ·obtain ⟨S1,S2,rfl,e4,e5⟩:=AgS_app.1 hS
   exact AgS_app.2 ⟨S1,S2++A,List.append_assoc ..,e4,AgS_one.2 (j2 _ _ (AgS_one.1 e5) hA)⟩
  ·rw [totC_app,totC_app,totC,totC,totC,totC,Int.add_zero,Int.add_zero,j3];omega
  ·rcases List.mem_append.1 hr with hr|hr
   ·exact q1 r (List.mem_append_left _ hr)
   ·rw [List.mem_singleton.1 hr,j4];exact q1 y (by simp)
 ·exact key
theorem joinF_ok:∀ {l o:List Rn}{f m t:Int},Cn f o m->(∀ r∈o,OkR r)->Cn m l t->(∀ r∈l,OkR r) ->
  Cn f (joinF o l) t/\(∀ r∈joinF o l,OkR r)/\(∀ S A,AgS o S->AgS l A->AgS (joinF o l) (S++A))/\(∀ s,totC (joinF o l) s=totC o s+totC l s)/\((∀ r∈o,r.tab.length≠0)->(∀ r∈l,r.tab.length≠0)->∀ r∈joinF o l,r.tab.length≠0)
 | [],o,f,m,t,h1,h2,h3,_=>by
  rw [Cn] at h3;subst h3
  rw [joinF_nil]
  exact ⟨h1,h2,fun S A hS hA=>by rw [AgS] at hA;subst hA;rw [List.append_nil];exact hS,fun s=>by rw [totC,Int.add_zero],fun q _=>q⟩
 | x::l,o,f,m,t,h1,h2,h3,h4=>by
  have hx:=h4 x (List.mem_cons_self ..)
  obtain ⟨p1,p2,p3,p4,p5⟩:=putL_ok h1 h2 hx h3.1
  obtain ⟨q1,q2,q3,q4,q5⟩:=joinF_ok p1 p2 h3.2 fun r hr=>h4 r (List.mem_cons_of_mem _ hr)
  rw [joinF_cons]
  refine ⟨q1,q2,fun S A hS hA=>?_,fun s=>?_,fun g1 g2=>q5 (p5 g1 (g2 x (List.mem_cons_self ..))) fun r hr=>g2 r (List.mem_cons_of_mem _ hr)⟩
  ·obtain ⟨A1,A2,rfl,e1,e2⟩:=hA
   rw [<- List.append_assoc]
   exact q3 _ _ (p3 _ _ hS e1) e2
  ·rw [q4,p4,totC,Int.add_assoc]
theorem joinL_ok {l:List Rn}{f t:Int} (h1:Cn f l t) (h2:∀ r∈l,OkR r):Cn f (joinL l) t/\(∀ r∈joinL l,OkR r)/\(∀ A,AgS l A->AgS (joinL l) A)/\(∀ s,totC (joinL l) s=totC l s)/\((∀ r∈l,r.tab.length≠0)->∀ r∈joinL l,r.tab.length≠0):=by
 obtain ⟨q1,q2,q3,q4,q5⟩:=joinF_ok (o:=[]) (f:=f) rfl (fun r hr=>by cases hr) h1 h2
 exact ⟨q1,q2,fun A hA=>q3 [] A rfl hA,fun s=>by rw [joinL,q4,totC,Int.zero_add],q5 fun r hr=>by cases hr⟩
end Go.Proofs.YtjcecdmbfmccoaaGreatDoor
