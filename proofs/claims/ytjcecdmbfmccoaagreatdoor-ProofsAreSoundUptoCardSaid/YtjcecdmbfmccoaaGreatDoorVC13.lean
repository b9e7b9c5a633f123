/-
  Contract: the law's examples hold.
-/
import Derived.Test.YtjcecdmbfmccoaaGreatDoorVC12
set_option linter.unusedVariables false
set_option linter.unusedSimpArgs false
set_option linter.unusedSectionVars false
namespace Go.Proofs.YtjcecdmbfmccoaaGreatDoor
open Go.RowKit Go.Sl Go.Num
theorem best_agr {t:Bool}{rs:List Rn}{l:List Spn}{S:List Int} (h0:chkE rs l=0) (hb:BestS t l rs S):agreeB rs (f0R rs) S=true:=by
 by_cases hne:rs=[]
 ·subst hne
  rw [show S=[] from hb.ag,agreeB_nil]
  decide +kernel
 ·exact (agreeB_iff (chk_ok h0).1 hne).2 ⟨rfl,hb.ag⟩
theorem few22_vol {l:List Spn} (hf:∀ s∈l,fewS s) (hR:∀ s∈l,RightS s):∀ (hs:List Int) (f:Int),(∀ x∈hs,0<=x/\x<=1000)->fewQ (1+141*hs.length) (rQ (volSum l f hs))
 | [],_,_=>fewQ_zero
 | x::hs,f,h=>by
  have h1:=few22_vol hf hR hs (f+1) fun y hy=>h y (List.mem_cons_of_mem _ hy)
  have h2:=h x (List.mem_cons_self ..)
  rw [volSum]
  exact fewQ_le (fewQ_add (fewQ_worth hf hR h2.1 h2.2) h1 (by decide) (by omega)) (by rw [List.length_cons];omega)
theorem prv_few {t:Bool}{rs:List Rn}{l:List Spn}{n:Nat} (h0:chkE rs l=0) (hM:Mod rs l) (h1:fewR 12 n rs) (hn:n<=1000) (x:EndT t rs l):fewQ 60000000 (endQ x)/\x.1.1.length<=1000:=by
 have hl:=few_ticks h1 h0 x.2.ag
 obtain ⟨_,_,hR,_,hok⟩:=chk_facts h0
 refine ⟨?_,by omega⟩
 exact fewQ_le (few22_vol hM.few hR x.1.1 _ fun y hy=>x.2.ag.bd' hok y hy) (by omega)
theorem acc_whole {rs:List Rn}{l:List Spn} (h0:chkE rs l=0) (x:PrvT false rs l) (y:PrvT true rs l):accB rs l (shpOf x y)=true :=
 acc_of h0 x.1.1.2 y.1.1.2 (best_agr h0 x.1.1.2) (best_agr h0 y.1.1.2) (prv_val h0 x.1.1.2 x.2.1 x.2.2) (prv_val h0 y.1.1.2 y.2.1 y.2.2) rfl rfl
theorem att_whole {rs:List Rn}{l:List Spn} (h0:chkE rs l=0) (x:PrvT false rs l) (y:PrvT true rs l):attB rs l (shpOf x y)=true:=by
 have h:=acc_whole h0 x y
 unfold accB at h
 rw [Bool.and_eq_true] at h
 exact h.2
theorem whole_ok {rs:List Rn}{l:List Spn}{n:Nat} (h0:chkE rs l=0) (hM:Mod rs l) (h1:fewR 12 n rs) (hn:n<=1000) (x:PrvT false rs l) (y:PrvT true rs l):ShOk rs l (shpOf x y) :=
 ⟨smp_prv hM h0 x.2.1 x.2.2,smp_prv hM h0 y.2.1 y.2.2,(prv_few h0 hM h1 hn x.1.1).1,(prv_few h0 hM h1 hn y.1.1).1⟩
theorem whole_at {w0 w:World}{M:List Row}{N:Nat}{rs:List Rn}{l:List Spn}{n:Nat} (h0:chkE rs l=0) (hM:Mod rs l) (h1:fewR 12 n rs) (hn:n<=1000) (x:PrvT false rs l) (y:PrvT true rs l) (hw:Sat w0 M w) (r1:slRow N x.1.1.1.2 1 (x.1.1.1.1.map isV)∈M) (r2:prfsRow N x.1.2.2.1 x.1.2.1∈M) (r3:slRow N y.1.1.1.2 1 (y.1.1.1.1.map isV)∈M) (r4:prfsRow N y.1.2.2.1 y.1.2.1∈M):ShAt w (shpOf x y) (shmOf x y) :=
 ⟨hw.sl r1,Nat.le_refl _,(prv_few h0 hM h1 hn x.1.1).2,hw.sl r3,Nat.le_refl _,(prv_few h0 hM h1 hn y.1.1).2,Sat.prfs hw r2,Sat.prfs hw r4⟩
section
variable {a1:Option Addr}{c1:Nat}{x:Option Addr}{y:Nat}
theorem x22_few:fewR 12 100 (x22R a1 c1):=of_decide_eq_true (by kernel_rfl)
theorem x22_fewS:fewL 8 (x22S x y):=of_decide_eq_true (by kernel_rfl)
theorem x22_mod:Mod (x22R a1 c1) (x22S x y):=few_mod x22_few x22_fewS
theorem x22_ag {S:List Int} (h:agreeB (x22R a1 c1) 0 S=true):AgS (x22R a1 c1) S:=(agr_ok (chk_ok (ex22_c a1 c1 none 0)).1 h).1
theorem x22_lo (z:EndT false (x22R a1 c1) (x22S x y)):endQ z=i22 12:=by
 have h1:=best_le (ex22_c a1 c1 x y) z.2 (x22_ag (ex22_a a1 c1))
 have hv:=ex22_1 a1 c1 x y none 0 none 0
 have h2:=sound (ps:=x22P 1 5 5 0 1 (-5) none 0 none 0) (by rw [hv]) z.2.ag
 have h3:=(val_ok (t:=false) (rs:=x22R a1 c1) (l:=x22S x y) (ps:=x22P 1 5 5 0 1 (-5) none 0 none 0) (by rw [hv])).2.2.2.2
 rw [hv] at h3
 have h4:valL false (x22S x y) (x22R a1 c1) (x22P 1 5 5 0 1 (-5) none 0 none 0)=((12:Int):Rat):=by
  have:=congrArg (fun q=>qR q.1) h3
  dsimp only at this
  unfold i22 at this
  rw [qR_rQ,qR_rQ] at this
  exact this.symm
 rw [h4] at h2
 rw [show f0R (x22R a1 c1)=0 from rfl,ex22_5] at h1
 simp only [sgR,Bool.false_eq_true,if_false] at h1 h2
 unfold endQ i22
 rw [show f0R (x22R a1 c1)=0 from rfl] at h2 ⊢
 exact congrArg rQ (Rat.le_antisymm h1 h2)
theorem x22_hi (z:EndT true (x22R a1 c1) (x22S x y)):endQ z=i22 30:=by
 have h1:=best_le (ex22_c a1 c1 x y) z.2 (x22_ag (ex22_b a1 c1))
 have hv:=ex22_4 a1 c1 x y none 0 none 0
 have h2:=sound (ps:=x22P 0 4 8 1 10 0 none 0 none 0) (by rw [hv]) z.2.ag
 have h3:=(val_ok (t:=true) (rs:=x22R a1 c1) (l:=x22S x y) (ps:=x22P 0 4 8 1 10 0 none 0 none 0) (by rw [hv])).2.2.2.2
 rw [hv] at h3
 have h4:valL true (x22S x y) (x22R a1 c1) (x22P 0 4 8 1 10 0 none 0 none 0)=((30:Int):Rat):=by
  have:=congrArg (fun q=>qR q.1) h3
  dsimp only at this
  unfold i22 at this
  rw [qR_rQ,qR_rQ] at this
  exact this.symm
 rw [h4] at h2
 rw [show f0R (x22R a1 c1)=0 from rfl,ex22_6] at h1
 simp only [sgR,if_true] at h1 h2
 unfold endQ i22
 rw [show f0R (x22R a1 c1)=0 from rfl] at h2 ⊢
 exact congrArg rQ (by grind)
theorem x22_shrt {u1 u2 u3 v1 v2 v3:Int}{sa:Option Addr}{sc:Nat}{ca:Option Addr}{cc:Nat} (h:([i22 u1,i22 u2,i22 u3,i22 v1,i22 v2,i22 v3].all fun q=>decide (fewQ 40 q))=true):shrt 40 (x22P u1 u2 u3 v1 v2 v3 sa sc ca cc):=fun p hp=>by
 simp only [x22P,List.mem_cons,List.not_mem_nil,or_false] at hp
 rcases hp with rfl|rfl
 ·exact ⟨(show (6:Nat)<=30 by decide),fun q hq=>of_decide_eq_true (List.all_eq_true.1 h q hq)⟩
 ·exact ⟨Nat.zero_le _,fun q hq=>absurd hq List.not_mem_nil⟩
theorem x22A {w0 w:World}{M:List Row}{N b1 b2:Nat} (hw:Sat w0 M w) (h1:slRow N (some ⟨b2,0,none⟩) 5 ((x22R (some ⟨b1,0,none⟩) 3).map rnV)∈M) (h2:slRow N (some ⟨b1,0,none⟩) 2 ([((1:Int),(2:Int)),(5,1),(9,1)].map hoV)∈M):RunsAt w (some ⟨b2,0,none⟩) (x22R (some ⟨b1,0,none⟩) 3):=by
 refine ⟨hw.sl h1,fun r hr=>?_⟩
 simp only [x22R,List.mem_cons,List.not_mem_nil,or_false] at hr
 rcases hr with rfl|rfl
 ·exact hw.sl h2
 ·exact SlAt.nil
theorem x22B {w0 w:World}{M:List Row}{N b3 bl:Nat} (hw:Sat w0 M w) (h1:slRow N (some ⟨b3,0,none⟩) 7 ((x22S (some ⟨bl,0,none⟩) 2).map spV)∈M) (h2:slRow N (some ⟨bl,0,none⟩) 4 (x22Q.map ptV)∈M):SpansAt w (some ⟨b3,0,none⟩) (x22S (some ⟨bl,0,none⟩) 2):=by
 refine ⟨hw.sl h1,fun s hs=>?_⟩
 simp only [x22S,List.mem_cons,List.not_mem_nil,or_false] at hs
 rcases hs with rfl|rfl
 ·exact hw.sl h2
 ·exact hw.sl h2
theorem x22C {w0 w:World}{M:List Row}{N Bp E tot:Nat}{cs:List Value}{u1 u2 u3 v1 v2 v3:Int}{sa:Option Addr}{sc:Nat}{ca:Option Addr}{cc:Nat} (hw:Sat w0 M w) (h1:Row.blk Bp E cs tot∈M) (hcs:cs=flat prV (x22P u1 u2 u3 v1 v2 v3 sa sc ca cc)) (h2:slRow N sa 3 (([u1,u2,u3].map i22).map qV)∈M) (h3:slRow N ca 3 (([v1,v2,v3].map i22).map qV)∈M):PrfsAt w (some ⟨Bp,0,none⟩) (x22P u1 u2 u3 v1 v2 v3 sa sc ca cc):=by
 refine ⟨(blkSlD (f:=prV) hw (fun _=>rfl) h1 hcs).1,fun p hp=>?_⟩
 simp only [x22P,List.mem_cons,List.not_mem_nil,or_false] at hp
 rcases hp with rfl|rfl
 ·exact ⟨hw.sl h2,hw.sl h3⟩
 ·exact ⟨SlAt.nil,SlAt.nil⟩
theorem x22_take {t:Bool}{a1:Option Addr}{c1:Nat}{x:Option Addr}{y:Nat}{p:Prf}:valE t (x22R a1 c1) (x22S x y) [p]=(zero3,1):=by
 unfold valE
 rw [if_neg (by rw [ex22_c];decide),if_pos (by unfold x22R;simp)]
end
variable {C:Ctx}{st:List (Nat×Value)}{M:List Row}{k:List Item}{q q':Md}{all rest:List Oper}{d:Nat}{ty:TypeId}{pos:String}{after:Array Edge}{gd:Option (Nat×Bool)}
theorem G.exm {args:List Operand}{at_:Array TypeId}
  (h:∀ b1 b2 b3 bl:Nat,G q' C all ((d,.tuple #[.slice (some ⟨b2,0,none⟩) 2 2,.slice (some ⟨b3,0,none⟩) 2 2])::st) (slRow C.w0.heap.size (some ⟨b2,0,none⟩) 5 ((x22R (some ⟨b1,0,none⟩) 3).map rnV)::slRow C.w0.heap.size (some ⟨b1,0,none⟩) 2 ([((1:Int),(2:Int)),(5,1),(9,1)].map hoV)::slRow C.w0.heap.size (some ⟨b3,0,none⟩) 7 ((x22S (some ⟨bl,0,none⟩) 2).map spV)::slRow C.w0.heap.size (some ⟨bl,0,none⟩) 4 (x22Q.map ptV)::M) rest k)
  (hP:C.P=Tryz.prog:=by rfl) (ha:evL st args=some []:=by rfl) (hs:sideB all st gd d C.N q.ext=some q':=by rfl) :
  G q C all st M ({ dst:=some d,op:=.call { callee:=.value (.func 33),args:=args.toArray,argTypes:=at_ },type:=ty,pos,after,guard:=gd }::rest) k:=by
 obtain ⟨P,b,PHI,N0,w0,D⟩:=C
 dsimp only at hP;subst hP
 obtain ⟨g1,g2,g3⟩:=sideB_ok hs
 refine G.call0 (X:=(Nat×Nat)×(Nat×Nat)) (v:=fun x=>.tuple #[.slice (some ⟨x.1.2,0,none⟩) 2 2,.slice (some ⟨x.2.1,0,none⟩) 2 2]) (Mn:=fun x=>[slRow w0.heap.size (some ⟨x.1.2,0,none⟩) 5 ((x22R (some ⟨x.1.1,0,none⟩) 3).map rnV),slRow w0.heap.size (some ⟨x.1.1,0,none⟩) 2 ([((1:Int),(2:Int)),(5,1),(9,1)].map hoV),slRow w0.heap.size (some ⟨x.2.1,0,none⟩) 7 ((x22S (some ⟨x.2.2,0,none⟩) 2).map spV),slRow w0.heap.size (some ⟨x.2.2,0,none⟩) 4 (x22Q.map ptV)]) g1 g2 g3 ha (fun w hw=>(ex22_holds w).mono fun e w' he=>?_) fun x=>h x.1.1 x.1.2 x.2.1 x.2.2
 obtain ⟨x,rfl,⟨h1,h2⟩,⟨h3,h4⟩,⟨f1,f2,f3,f4⟩,h5⟩:=he
 have nl:∀ {b:Nat},w.heap.size<=b->∀ p,some (⟨b,0,none⟩:Addr)=some p->∀ r∈M,¬ r.lock p.block:=fun hf p hp r hr hl=>by
  cases hp
  have:=((hw.old r hr).2 _ (Row.lock_sup hl)).2
  dsimp only at this
  omega
 have k1:=(hw.ext h5).addSl (h4 _ (List.mem_cons_self ..)) (nl f4)
 have k2:=k1.addSl h3 fun p hp r hr=>by
  rcases List.mem_cons.1 hr with rfl|hr
  ·exact fun h=>h
  ·exact nl f3 p hp r hr
 have k3:=k2.addSl (h2 _ (List.mem_cons_self ..)) fun p hp r hr=>by
  rcases List.mem_cons.1 hr with rfl|hr
  ·exact fun h=>h
  rcases List.mem_cons.1 hr with rfl|hr
  ·exact fun h=>h
  ·exact nl f1 p hp r hr
 refine ⟨x,rfl,k3.addSl h1 fun p hp r hr=>?_⟩
 rcases List.mem_cons.1 hr with rfl|hr
 ·exact fun h=>h
 rcases List.mem_cons.1 hr with rfl|hr
 ·exact fun h=>h
 rcases List.mem_cons.1 hr with rfl|hr
 ·exact fun h=>h
 ·exact nl f2 p hp r hr
theorem x22W {a1:Option Addr}{c1:Nat}{x':Option Addr}{y':Nat} (x:PrvT false (x22R a1 c1) (x22S x' y')) (y:PrvT true (x22R a1 c1) (x22S x' y')):shA (shpOf x y) (shmOf x y)=.agg #[.bool (i22 12).neg,.string (bs (i22 12).num),.string (bs (i22 12).den),.bool (i22 30).neg,.string (bs (i22 30).num),.string (bs (i22 30).den),.int .i64 0,.slice x.1.1.1.2 x.1.1.1.1.length x.1.1.1.1.length,.int .i64 0,.slice y.1.1.1.2 y.1.1.1.1.length y.1.1.1.1.length,.slice x.1.2.2.1 2 x.1.2.2.2,.slice y.1.2.2.1 2 y.1.2.2.2]:=by
 unfold shA shpOf shmOf
 dsimp only
 rw [x22_lo,x22_hi,x.2.1,y.2.1];rfl
attribute [local irreducible] i22
theorem PrfsAt.take {w:World}{a:Option Addr}{ps:List Prf} (h:PrfsAt w a ps) (n:Nat):PrfsAt w a (ps.take n):=by
 refine ⟨fun h0=>?_,fun r hr=>h.2 r (List.mem_of_mem_take hr)⟩
 rw [List.length_map,List.length_take] at h0
 obtain ⟨b,off,e,hr⟩:=h.1 (by rw [List.length_map];omega)
 refine ⟨b,off,e,fun i cs hi=>hr i cs ?_⟩
 rw [List.map_take,List.getElem?_take] at hi
 split at hi
 ·exact hi
 ·cases hi
section
variable {w:World}{b1 b2 b3 bl Bp:Nat}{u1 u2 u3 v1 v2 v3:Int}{sa:Option Addr}{sc:Nat}{ca:Option Addr}{cc:Nat}
theorem x22V {Q:Q3}{E:Int} (hA:RunsAt w (some ⟨b2,0,none⟩) (x22R (some ⟨b1,0,none⟩) 3)) (hB:SpansAt w (some ⟨b3,0,none⟩) (x22S (some ⟨bl,0,none⟩) 2)) (hP:PrfsAt w (some ⟨Bp,0,none⟩) (x22P u1 u2 u3 v1 v2 v3 sa sc ca cc)) (hv:valE false (x22R (some ⟨b1,0,none⟩) 3) (x22S (some ⟨bl,0,none⟩) 2) (x22P u1 u2 u3 v1 v2 v3 sa sc ca cc)=(Q,E)) (hf:([i22 u1,i22 u2,i22 u3,i22 v1,i22 v2,i22 v3].all fun q=>decide (fewQ 40 q))=true) :
  Calls Tryz.prog 11 #[.slice (some ⟨b2,0,none⟩) 2 2,.slice (some ⟨b3,0,none⟩) 2 2,.slice (some ⟨Bp,0,none⟩) 2 2,.bool false] w fun e w'=>e=.returned (.tuple #[qA Q,.int .i64 E])/\Below w.heap.size w w':=by
 have h:=vval false (some ⟨b2,0,none⟩) 2 (some ⟨b3,0,none⟩) 2 (some ⟨Bp,0,none⟩) 2 w hA hB x22_mod hP (smp_short (by decide) x22_mod (x22_shrt hf))
 rw [hv] at h
 exact h
theorem x22V1 (hA:RunsAt w (some ⟨b2,0,none⟩) (x22R (some ⟨b1,0,none⟩) 3)) (hB:SpansAt w (some ⟨b3,0,none⟩) (x22S (some ⟨bl,0,none⟩) 2)) (hP:PrfsAt w (some ⟨Bp,0,none⟩) (x22P u1 u2 u3 v1 v2 v3 sa sc ca cc)) (hf:([i22 u1,i22 u2,i22 u3,i22 v1,i22 v2,i22 v3].all fun q=>decide (fewQ 40 q))=true) :
  Calls Tryz.prog 11 #[.slice (some ⟨b2,0,none⟩) 2 2,.slice (some ⟨b3,0,none⟩) 2 2,.slice (some ⟨Bp,0,none⟩) 1 2,.bool false] w fun e w'=>e=.returned (.tuple #[qA zero3,.int .i64 1])/\Below w.heap.size w w':=by
 have h:=vval false (some ⟨b2,0,none⟩) 2 (some ⟨b3,0,none⟩) 2 (some ⟨Bp,0,none⟩) 2 w hA hB x22_mod (hP.take 1) (smp_short (by decide) x22_mod fun p hp=>x22_shrt hf p (List.mem_of_mem_take hp))
 rw [show (x22P u1 u2 u3 v1 v2 v3 sa sc ca cc).take 1=[⟨[i22 u1,i22 u2,i22 u3],[i22 v1,i22 v2,i22 v3],sa,sc,ca,cc⟩] from rfl,x22_take] at h
 exact h
end
section
variable {w:World}{b1 b2 b3 bl Bp:Nat}{sa:Option Addr}{sc:Nat}{ca:Option Addr}{cc:Nat}
def x22s (n:Int) (sa:Option Addr) (sc:Nat) (ca:Option Addr) (cc:Nat) (ps:List Prf):Shp:=⟨i22 n,i22 30,0,[],0,[],x22P 1 5 5 0 1 (-5) sa sc ca cc,ps⟩
def x22m (Bp:Nat) (pa:Option Addr) (pc:Nat):ShM:=⟨none,0,none,0,some ⟨Bp,0,none⟩,2,pa,pc⟩
theorem x22At {ps:List Prf}{pa:Option Addr}{pc:Nat}{n:Int} (hP:PrfsAt w (some ⟨Bp,0,none⟩) (x22P 1 5 5 0 1 (-5) sa sc ca cc)) (hQ:PrfsAt w pa ps):ShAt w (x22s n sa sc ca cc ps) (x22m Bp pa pc):=⟨SlAt.nil,Nat.le_refl _,Nat.zero_le _,SlAt.nil,Nat.le_refl _,Nat.zero_le _,hP,hQ⟩
theorem x22H {n:Int}{B:Bool} (x:PrvT true (x22R (some ⟨b1,0,none⟩) 3) (x22S (some ⟨bl,0,none⟩) 2)) (hA:RunsAt w (some ⟨b2,0,none⟩) (x22R (some ⟨b1,0,none⟩) 3)) (hB:SpansAt w (some ⟨b3,0,none⟩) (x22S (some ⟨bl,0,none⟩) 2)) (hP:PrfsAt w (some ⟨Bp,0,none⟩) (x22P 1 5 5 0 1 (-5) sa sc ca cc)) (hQ:PrfsAt w x.1.2.2.1 x.1.2.1) (hn:decide (fewQ 40 (i22 n))=true) (hv:(decide (0<=sgnR (qR (i22 12)-qR (i22 n))) && decide (sgnR (qR (i22 30)-qR (i22 30))<=0))=B) :
  Calls Tryz.prog 13 #[.slice (some ⟨b2,0,none⟩) 2 2,.slice (some ⟨b3,0,none⟩) 2 2,.agg #[.bool (i22 n).neg,.string (bs (i22 n).num),.string (bs (i22 n).den),.bool (i22 30).neg,.string (bs (i22 30).num),.string (bs (i22 30).den),.int .i64 0,.slice none 0 0,.int .i64 0,.slice none 0 0,.slice (some ⟨Bp,0,none⟩) 2 2,.slice x.1.2.2.1 2 x.1.2.2.2]] w fun e w'=>e=.returned (.bool B)/\Below w.heap.size w w':=by
 have h:=vhold (s:=x22s n sa sc ca cc x.1.2.1) (m:=x22m Bp x.1.2.2.1 x.1.2.2.2) (some ⟨b2,0,none⟩) 2 (some ⟨b3,0,none⟩) 2 w hA hB x22_mod (x22At hP hQ) ⟨smp_short (k:=40) (by decide) x22_mod (x22_shrt (by kernel_rfl)),smp_prv x22_mod (ex22_c ..) x.2.1 x.2.2,fewQ_le (of_decide_eq_true hn) (by decide),fewQ_le (k:=60000000) (j:=40) (of_decide_eq_true (by kernel_rfl)) (by decide)⟩
 have e:holdB (x22R (some ⟨b1,0,none⟩) 3) (x22S (some ⟨bl,0,none⟩) 2) (x22s n sa sc ca cc x.1.2.1)=B:=by
  unfold holdB x22s
  dsimp only
  have h2:=prv_val (ex22_c ..) x.1.1.2 x.2.1 x.2.2
  have h3:=x22_hi x.1.1
  unfold endQ at h3
  rw [h3] at h2
  rw [ex22_1,h2,<- hv]
  simp
 rw [e] at h
 unfold shA x22s x22m at h
 dsimp only at h
 rw [x.2.1] at h
 exact h
theorem x22T (x:PrvT true (x22R (some ⟨b1,0,none⟩) 3) (x22S (some ⟨bl,0,none⟩) 2)) (hA:RunsAt w (some ⟨b2,0,none⟩) (x22R (some ⟨b1,0,none⟩) 3)) (hB:SpansAt w (some ⟨b3,0,none⟩) (x22S (some ⟨bl,0,none⟩) 2)) (hP:PrfsAt w (some ⟨Bp,0,none⟩) (x22P 1 5 5 0 1 (-5) sa sc ca cc)) (hQ:PrfsAt w x.1.2.2.1 x.1.2.1) :
  Calls Tryz.prog 15 #[.slice (some ⟨b2,0,none⟩) 2 2,.slice (some ⟨b3,0,none⟩) 2 2,.agg #[.bool (i22 11).neg,.string (bs (i22 11).num),.string (bs (i22 11).den),.bool (i22 30).neg,.string (bs (i22 30).num),.string (bs (i22 30).den),.int .i64 0,.slice none 0 0,.int .i64 0,.slice none 0 0,.slice (some ⟨Bp,0,none⟩) 2 2,.slice x.1.2.2.1 2 x.1.2.2.2]] w fun e w'=>e=.returned (.bool false)/\Below w.heap.size w w':=by
 have h:=vatt (s:=x22s 11 sa sc ca cc x.1.2.1) (m:=x22m Bp x.1.2.2.1 x.1.2.2.2) (some ⟨b2,0,none⟩) 2 (some ⟨b3,0,none⟩) 2 w hA hB x22_mod (x22At hP hQ)
 have e:attB (x22R (some ⟨b1,0,none⟩) 3) (x22S (some ⟨bl,0,none⟩) 2) (x22s 11 sa sc ca cc x.1.2.1)=false:=by
  unfold attB x22s
  dsimp only
  rw [show agreeB (x22R (some ⟨b1,0,none⟩) 3) 0 []=false from by kernel_rfl]
  simp
 rw [e] at h
 unfold shA x22s x22m at h
 dsimp only at h
 rw [x.2.1] at h
 exact h
theorem x22Acc (x:PrvT false (x22R (some ⟨b1,0,none⟩) 3) (x22S (some ⟨bl,0,none⟩) 2)) (y:PrvT true (x22R (some ⟨b1,0,none⟩) 3) (x22S (some ⟨bl,0,none⟩) 2)) (hA:RunsAt w (some ⟨b2,0,none⟩) (x22R (some ⟨b1,0,none⟩) 3)) (hB:SpansAt w (some ⟨b3,0,none⟩) (x22S (some ⟨bl,0,none⟩) 2)) (hS:ShAt w (shpOf x y) (shmOf x y)) (v:Value) (hv:shA (shpOf x y) (shmOf x y)=v) :
  (Calls Tryz.prog 17 #[.slice (some ⟨b2,0,none⟩) 2 2,.slice (some ⟨b3,0,none⟩) 2 2,v] w fun e w'=>e=.returned (.bool true)/\Below w.heap.size w w')/\(Calls Tryz.prog 15 #[.slice (some ⟨b2,0,none⟩) 2 2,.slice (some ⟨b3,0,none⟩) 2 2,v] w fun e w'=>e=.returned (.bool true)/\Below w.heap.size w w'):=by
 subst hv
 have hc:=ex22_c (some ⟨b1,0,none⟩) 3 (some ⟨bl,0,none⟩) 2
 have h1:=vacc (some ⟨b2,0,none⟩) 2 (some ⟨b3,0,none⟩) 2 w hA hB x22_mod hS (whole_ok hc x22_mod x22_few (by decide) x y)
 have h2:=vatt (some ⟨b2,0,none⟩) 2 (some ⟨b3,0,none⟩) 2 w hA hB x22_mod hS
 rw [acc_whole hc] at h1
 rw [att_whole hc] at h2
 exact ⟨h1,h2⟩
end
set_option maxHeartbeats 8000000 in
theorem sanity22_holds (w:World):Calls Tryz.prog 10 #[] w fun e w'=>e=.returned (.bool true)/\Below w.heap.size w w':=by
 refine enterA [] Tryz.func10 Tryz.ntmps10 ?_
 repeat' first|(refine gp ?_;and_intros<;>first|exact trivial|repeat first|intro(Bk:Nat)|intro h)|(refine G.exm ?_;intro b1 b2 b3 bl)|(apply G.sliceL (d:=30);rfl;rfl;rfl;rfl;rfl;rfl;rfl;rfl;intro Bp)|(apply G.sliceL;rfl;rfl;rfl;rfl;rfl;rfl;rfl;rfl;intro Bs)|(refine G.cL (g:=34) (d:=25) (sz:=3) (f:=qV) (fun v=>v) ([1,5,5].map i22) rfl rfl (fun w' hw'=>nums_holds (some ⟨Bs,0,none⟩) [1,5,5] 3 w' (blkSlD (f:=isV) (l:=[1,5,5]) hw' isV_len mm (by kernel_rfl)).1 (by decide) (by decide)) ?_;intro s1 k1 _ _)|(refine G.cL (g:=34) (d:=27) (sz:=3) (f:=qV) (fun v=>v) ([0,1,-5].map i22) rfl rfl (fun w' hw'=>nums_holds (some ⟨Bs,0,none⟩) [0,1,-5] 3 w' (blkSlD (f:=isV) (l:=[0,1,-5]) hw' isV_len mm (by kernel_rfl)).1 (by decide) (by decide)) ?_;intro s2 k2 _ _)|(refine G.cL (g:=34) (d:=42) (sz:=3) (f:=qV) (fun v=>v) ([1,6,5].map i22) rfl rfl (fun w' hw'=>nums_holds (some ⟨Bs,0,none⟩) [1,6,5] 3 w' (blkSlD (f:=isV) (l:=[1,6,5]) hw' isV_len mm (by kernel_rfl)).1 (by decide) (by decide)) ?_;intro s3 k3 _ _)|(refine G.cL (g:=34) (d:=44) (sz:=3) (f:=qV) (fun v=>v) ([0,1,-5].map i22) rfl rfl (fun w' hw'=>nums_holds (some ⟨Bs,0,none⟩) [0,1,-5] 3 w' (blkSlD (f:=isV) (l:=[0,1,-5]) hw' isV_len mm (by kernel_rfl)).1 (by decide) (by decide)) ?_;intro s4 k4 _ _)|(refine G.cL (g:=34) (d:=55) (sz:=3) (f:=qV) (fun v=>v) ([0,0,0].map i22) rfl rfl (fun w' hw'=>nums_holds (some ⟨Bs,0,none⟩) [0,0,0] 3 w' (blkSlD (f:=isV) (l:=[0,0,0]) hw' isV_len mm (by kernel_rfl)).1 (by decide) (by decide)) ?_;intro s5 k5 _ _)|(refine G.cL (g:=34) (d:=57) (sz:=3) (f:=qV) (fun v=>v) ([1,2,0].map i22) rfl rfl (fun w' hw'=>nums_holds (some ⟨Bs,0,none⟩) [1,2,0] 3 w' (blkSlD (f:=isV) (l:=[1,2,0]) hw' isV_len mm (by kernel_rfl)).1 (by decide) (by decide)) ?_;intro s6 k6 _ _)|(apply G.cV (g:=11) (d:=35);rfl;rfl;exact fun w' hw'=>x22V (x22A hw' mm mm) (x22B hw' mm mm) (x22C (u1:=1) (u2:=5) (u3:=5) (v1:=0) (v2:=1) (v3:=-5) (sa:=s1) (sc:=k1) (ca:=s2) (cc:=k2) hw' mm (by kernel_rfl) mm mm) (ex22_1 ..) (by kernel_rfl))|(apply G.cV (g:=11) (d:=48);rfl;rfl;exact fun w' hw'=>x22V (x22A hw' mm mm) (x22B hw' mm mm) (x22C (u1:=1) (u2:=6) (u3:=5) (v1:=0) (v2:=1) (v3:=-5) (sa:=s3) (sc:=k3) (ca:=s4) (cc:=k4) hw' mm (by kernel_rfl) mm mm) (ex22_2 ..) (by kernel_rfl))|(apply G.cV (g:=11) (d:=61);rfl;rfl;exact fun w' hw'=>x22V (x22A hw' mm mm) (x22B hw' mm mm) (x22C (u1:=0) (u2:=0) (u3:=0) (v1:=1) (v2:=2) (v3:=0) (sa:=s5) (sc:=k5) (ca:=s6) (cc:=k6) hw' mm (by kernel_rfl) mm mm) (ex22_3 ..) (by kernel_rfl))|(apply G.sliceTo (h:=1);rfl;rfl;rfl;decide;rfl;rfl;rfl)|(apply G.cV (g:=11) (d:=69);rfl;rfl;exact fun w' hw'=>x22V1 (x22A hw' mm mm) (x22B hw' mm mm) (x22C (u1:=1) (u2:=5) (u3:=5) (v1:=0) (v2:=1) (v3:=-5) (sa:=s1) (sc:=k1) (ca:=s2) (cc:=k2) (Bp:=Bp) hw' mm (by kernel_rfl) mm mm) (by kernel_rfl))|(refine G.cPvT (t:=true) (rs:=x22R (some ⟨b1,0,none⟩) 3) (l:=x22S (some ⟨bl,0,none⟩) 2) (g:=24) (fun x=>.tuple #[qA (endQ x.1.1),.slice x.1.2.2.1 2 x.1.2.2.2,.int .i64 0]) rfl rfl (fun w' hw'=>Prove_ok true (some ⟨b2,0,none⟩) _ 2 (some ⟨b3,0,none⟩) _ 2 w' (x22A hw' mm mm) (x22B hw' mm mm) x22_mod (ex22_c ..)) ?_;intro x;dsimp only;rw [x22_hi x.1.1])|(refine G.cWh (rs:=x22R (some ⟨b1,0,none⟩) 3) (l:=x22S (some ⟨bl,0,none⟩) 2) (g:=25) (fun z=>.tuple #[shA (shpOf z.1 z.2) (shmOf z.1 z.2),.int .i64 0]) rfl rfl (fun w' hw'=>Whole_ok (some ⟨b2,0,none⟩) _ 2 (some ⟨b3,0,none⟩) _ 2 w' (x22A hw' mm mm) (x22B hw' mm mm) x22_mod (ex22_c ..)) ?_;intro z1 z2;dsimp only;rw [x22W z1 z2])|(apply G.cV (g:=35) (d:=79);rfl;rfl;exact fun w' _=>vI 11 (by decide) (by decide) w')|(apply G.cV (g:=35) (d:=86);rfl;rfl;exact fun w' _=>vI 13 (by decide) (by decide) w')|(apply G.cV (g:=35) (d:=120);rfl;rfl;exact fun w' _=>vI 12 (by decide) (by decide) w')|(apply G.cV (g:=35) (d:=125);rfl;rfl;exact fun w' _=>vI 8 (by decide) (by decide) w')|(apply G.cV (g:=35) (d:=130);rfl;rfl;exact fun w' _=>vI 30 (by decide) (by decide) w')|(apply J.regA (.q 0 <| .q 1 <| .q 2 <| .q 3 <| .q 4 <| .q 5 <| .e 6 <| .r 7 <| .nil);exact Tryz.mixed;decide +kernel)|(refine G.cV (g:=13) (d:=137) (v:=.bool true) (vs:=[.slice (some ⟨b2,0,none⟩) 2 2,.slice (some ⟨b3,0,none⟩) 2 2,.agg #[.bool (i22 11).neg,.string (bs (i22 11).num),.string (bs (i22 11).den),.bool (i22 30).neg,.string (bs (i22 30).num),.string (bs (i22 30).den),.int .i64 0,.slice none 0 0,.int .i64 0,.slice none 0 0,.slice (some ⟨Bp,0,none⟩) 2 2,.slice x.1.2.2.1 2 x.1.2.2.2]]) ?_ rfl ?_ ?_;kernel_rfl;exact fun w' hw'=>x22H (n:=11) x (x22A hw' mm mm) (x22B hw' mm mm) (x22C (u1:=1) (u2:=5) (u3:=5) (v1:=0) (v2:=1) (v3:=-5) (sa:=s1) (sc:=k1) (ca:=s2) (cc:=k2) (Bp:=Bp) hw' mm (by kernel_rfl) mm mm) (Sat.prfs hw' mm) (by kernel_rfl) (by kernel_rfl))|(refine G.cV (g:=13) (d:=143) (v:=.bool false) (vs:=[.slice (some ⟨b2,0,none⟩) 2 2,.slice (some ⟨b3,0,none⟩) 2 2,.agg #[.bool (i22 13).neg,.string (bs (i22 13).num),.string (bs (i22 13).den),.bool (i22 30).neg,.string (bs (i22 30).num),.string (bs (i22 30).den),.int .i64 0,.slice none 0 0,.int .i64 0,.slice none 0 0,.slice (some ⟨Bp,0,none⟩) 2 2,.slice x.1.2.2.1 2 x.1.2.2.2]]) ?_ rfl ?_ ?_;kernel_rfl;exact fun w' hw'=>x22H (n:=13) x (x22A hw' mm mm) (x22B hw' mm mm) (x22C (u1:=1) (u2:=5) (u3:=5) (v1:=0) (v2:=1) (v3:=-5) (sa:=s1) (sc:=k1) (ca:=s2) (cc:=k2) (Bp:=Bp) hw' mm (by kernel_rfl) mm mm) (Sat.prfs hw' mm) (by kernel_rfl) (by kernel_rfl))|(refine G.cV (g:=15) (d:=150) (v:=.bool false) (vs:=[.slice (some ⟨b2,0,none⟩) 2 2,.slice (some ⟨b3,0,none⟩) 2 2,.agg #[.bool (i22 11).neg,.string (bs (i22 11).num),.string (bs (i22 11).den),.bool (i22 30).neg,.string (bs (i22 30).num),.string (bs (i22 30).den),.int .i64 0,.slice none 0 0,.int .i64 0,.slice none 0 0,.slice (some ⟨Bp,0,none⟩) 2 2,.slice x.1.2.2.1 2 x.1.2.2.2]]) ?_ rfl ?_ ?_;kernel_rfl;exact fun w' hw'=>x22T x (x22A hw' mm mm) (x22B hw' mm mm) (x22C (u1:=1) (u2:=5) (u3:=5) (v1:=0) (v2:=1) (v3:=-5) (sa:=s1) (sc:=k1) (ca:=s2) (cc:=k2) (Bp:=Bp) hw' mm (by kernel_rfl) mm mm) (Sat.prfs hw' mm))|(refine G.cV (g:=17) (d:=165) (v:=.bool true) (vs:=[.slice (some ⟨b2,0,none⟩) 2 2,.slice (some ⟨b3,0,none⟩) 2 2,.agg #[.bool (i22 12).neg,.string (bs (i22 12).num),.string (bs (i22 12).den),.bool (i22 30).neg,.string (bs (i22 30).num),.string (bs (i22 30).den),.int .i64 0,.slice z1.1.1.1.2 z1.1.1.1.1.length z1.1.1.1.1.length,.int .i64 0,.slice z2.1.1.1.2 z2.1.1.1.1.length z2.1.1.1.1.length,.slice z1.1.2.2.1 2 z1.1.2.2.2,.slice z2.1.2.2.1 2 z2.1.2.2.2]]) ?_ rfl ?_ ?_;kernel_rfl;exact fun w' hw'=>(x22Acc z1 z2 (x22A hw' mm mm) (x22B hw' mm mm) (whole_at (ex22_c ..) x22_mod x22_few (by decide) z1 z2 hw' mm mm mm mm) _ (x22W z1 z2)).1)|(refine G.cV (g:=15) (d:=171) (v:=.bool true) (vs:=[.slice (some ⟨b2,0,none⟩) 2 2,.slice (some ⟨b3,0,none⟩) 2 2,.agg #[.bool (i22 12).neg,.string (bs (i22 12).num),.string (bs (i22 12).den),.bool (i22 30).neg,.string (bs (i22 30).num),.string (bs (i22 30).den),.int .i64 0,.slice z1.1.1.1.2 z1.1.1.1.1.length z1.1.1.1.1.length,.int .i64 0,.slice z2.1.1.1.2 z2.1.1.1.1.length z2.1.1.1.1.length,.slice z1.1.2.2.1 2 z1.1.2.2.2,.slice z2.1.2.2.1 2 z2.1.2.2.2]]) ?_ rfl ?_ ?_;kernel_rfl;exact fun w' hw'=>(x22Acc z1 z2 (x22A hw' mm mm) (x22B hw' mm mm) (whole_at (ex22_c ..) x22_mod x22_few (by decide) z1 z2 hw' mm mm mm mm) _ (x22W z1 z2)).2)|(refine G.eqR (i22 12) (i22 12) (d:=121) rfl rfl rfl (fun _=>?_) (fun hne=>absurd rfl hne))|(refine G.eqR (i22 8) (i22 8) (d:=126) rfl rfl rfl (fun _=>?_) (fun hne=>absurd rfl hne))|(refine G.eqR (i22 30) (i22 30) (d:=131) rfl rfl rfl (fun _=>?_) (fun hne=>absurd rfl hne))|(refine G.eqB (i22 12) (i22 30) (i22 12) (i22 30) (d:=159) ?_ ?_ rfl (fun _=>?_) (fun hne=>absurd ⟨rfl,rfl⟩ hne);kernel_rfl;kernel_rfl)|fail
 all_goals refine ret1b Tryz.func10 Tryz.results10 ?_
 all_goals rfl
end Go.Proofs.YtjcecdmbfmccoaaGreatDoor
/-
 The law ProofsAreComplete.
-/
namespace Go.Proofs.YtjcecdmbfmccoaaGreatDoor
open Go.RowKit Go.Sl Go.Num
section
variable {rs:List Rn}{l:List Spn}
theorem endQ_uni {t:Bool} (h0:chkE rs l=0) (x y:EndT t rs l):endQ x=endQ y:=by
 unfold endQ
 rw [best_uni h0 x.2 y.2]
theorem whole_W (h0:chkE rs l=0) (x:EndT false rs l) (y:EndT true rs l) (z1:PrvT false rs l) (z2:PrvT true rs l):shA (shpOf z1 z2) (shmOf z1 z2)=.agg #[.bool (endQ x).neg,.string (bs (endQ x).num),.string (bs (endQ x).den),.bool (endQ y).neg,.string (bs (endQ y).num),.string (bs (endQ y).den),.int .i64 (f0R rs),.slice z1.1.1.1.2 z1.1.1.1.1.length z1.1.1.1.1.length,.int .i64 (f0R rs),.slice z2.1.1.1.2 z2.1.1.1.1.length z2.1.1.1.1.length,.slice z1.1.2.2.1 rs.length z1.1.2.2.2,.slice z2.1.2.2.1 rs.length z2.1.2.2.2]:=by
 unfold shA shpOf shmOf
 dsimp only
 rw [endQ_uni h0 z1.1.1 x,endQ_uni h0 z2.1.1 y,z1.2.1,z2.2.1]
theorem prv_vval {w:World} (t:Bool) (a:Option Addr) (c:Nat) (b:Option Addr) (d:Nat) (h0:chkE rs l=0) (hM:Mod rs l) (x:EndT t rs l) (x1:PrvT t rs l) (hA:RunsAt w a rs) (hB:SpansAt w b l) (hP:PrfsAt w x1.1.2.2.1 x1.1.2.1) :
  Calls Tryz.prog 11 #[.slice a rs.length c,.slice b l.length d,.slice x1.1.2.2.1 rs.length x1.1.2.2.2,.bool t] w fun e w'=>e=.returned (.tuple #[qA (endQ x),.int .i64 0])/\Below w.heap.size w w':=by
 have h:=vval t a c b d x1.1.2.2.1 x1.1.2.2.2 w hA hB hM hP (smp_prv hM h0 x1.2.1 x1.2.2)
 have h2:=prv_val h0 x1.1.1.2 x1.2.1 x1.2.2
 have h3:=endQ_uni h0 x1.1.1 x
 unfold endQ at h3
 rw [h3] at h2
 rw [h2,x1.2.1] at h
 exact h
theorem whole_acc {w:World}{n:Nat} (a:Option Addr) (c:Nat) (b:Option Addr) (d:Nat) (h0:chkE rs l=0) (hM:Mod rs l) (h1:fewR 12 n rs) (hn:n<=1000) (z1:PrvT false rs l) (z2:PrvT true rs l) (hA:RunsAt w a rs) (hB:SpansAt w b l) (hS:ShAt w (shpOf z1 z2) (shmOf z1 z2)) (v:Value) (hv:shA (shpOf z1 z2) (shmOf z1 z2)=v) :
  Calls Tryz.prog 17 #[.slice a rs.length c,.slice b l.length d,v] w fun e w'=>e=.returned (.bool true)/\Below w.heap.size w w':=by
 subst hv
 have h:=vacc a c b d w hA hB hM hS (whole_ok h0 hM h1 hn z1 z2)
 rw [acc_whole h0] at h
 exact h
end
attribute [local irreducible] endQ
set_option maxHeartbeats 8000000 in
theorem law22c_holds (w:World) (a:Option Addr) (rs:List Rn) (c:Nat) (b:Option Addr) (l:List Spn) (d:Nat) (hA:RunsAt w a rs) (hB:SpansAt w b l) :
  Calls Tryz.prog 5 #[.slice a rs.length c,.slice b l.length d] w fun e w'=>e=.returned (.bool true)/\Below w.heap.size w w':=by
 have hfw:=fun w' (hb:Below w.heap.size w w')=>few22_holds a rs c b l d 100 w' (hA.below hb) (hB.below hb)
 by_cases hfe:fewR 12 100 rs/\fewL 8 l
 case neg =>
  have e:(decide (fewR 12 100 rs) && decide (fewL 8 l))=false:=by
   rw [<- Bool.decide_and];exact decide_eq_false hfe
  rw [e] at hfw
  clear e hfe hA hB
  refine enterA [(0,.slice a rs.length c),(1,.slice b l.length d)] Tryz.func5 Tryz.ntmps5 ?_
  repeat' first|(refine gp ?_;and_intros<;>first|exact trivial|repeat first|intro(Bk:Nat)|intro h)|(apply G.cV (g:=9);rfl;rfl;exact fun w' hw'=>hfw w' hw'.below)|(apply G.cV (g:=10);rfl;rfl;exact fun w' _=>sanity22_holds w')|fail
  all_goals refine ret1b Tryz.func5 Tryz.results5 ?_
  all_goals rfl
 obtain ⟨hf1,hf2⟩:=hfe
 rw [decide_eq_true hf1,decide_eq_true hf2] at hfw
 have hM:=few_mod hf1 hf2
 by_cases h0:chkE rs l=0
 ·have hI:=fun w' (hb:Below w.heap.size w w')=>(int_ok a rs c b l d w' (hA.below hb) (hB.below hb) hM h0).mono fun e w2 ⟨⟨x,y,h1⟩,h2⟩=>(⟨(x,y),h1,h2⟩:∃ z:EndT false rs l×EndT true rs l,e=Ending.returned (.tuple #[bndA (endQ z.1) (endQ z.2),.int .i64 0])/\Below w'.heap.size w' w2)
  have hacc:=acc_whole h0
  refine enterA [(0,.slice a rs.length c),(1,.slice b l.length d)] Tryz.func5 Tryz.ntmps5 ?_
  repeat' first|(refine gp ?_;and_intros<;>first|exact trivial|repeat first|intro(Bk:Nat)|intro h)|(apply G.cV (g:=9);rfl;rfl;exact fun w' hw'=>hfw w' hw'.below)|(apply G.cV (g:=10);rfl;rfl;exact fun w' _=>sanity22_holds w')|(refine G.cX (g:=23) (X:=EndT false rs l×EndT true rs l) hI ?_;rintro ⟨x,y⟩;dsimp only [bndA])|(refine G.cPvT (t:=false) (rs:=rs) (l:=l) (g:=24) (d:=33) (fun x=>.tuple #[qA (endQ x.1.1),.slice x.1.2.2.1 rs.length x.1.2.2.2,.int .i64 0]) rfl rfl (fun w' hw'=>Prove_ok false a rs c b l d w' (hA.below hw'.below) (hB.below hw'.below) hM h0) ?_;intro x1;dsimp only;rw [endQ_uni h0 x1.1.1 x])|(refine G.cPvT (t:=true) (rs:=rs) (l:=l) (g:=24) (d:=40) (fun x=>.tuple #[qA (endQ x.1.1),.slice x.1.2.2.1 rs.length x.1.2.2.2,.int .i64 0]) rfl rfl (fun w' hw'=>Prove_ok true a rs c b l d w' (hA.below hw'.below) (hB.below hw'.below) hM h0) ?_;intro y1;dsimp only;rw [endQ_uni h0 y1.1.1 y])|(refine G.cWh (rs:=rs) (l:=l) (g:=25) (fun z=>.tuple #[shA (shpOf z.1 z.2) (shmOf z.1 z.2),.int .i64 0]) rfl rfl (fun w' hw'=>Whole_ok a rs c b l d w' (hA.below hw'.below) (hB.below hw'.below) hM h0) ?_;intro z1 z2;dsimp only;rw [whole_W h0 x y z1 z2])|(apply G.cV (g:=11) (d:=84);rfl;rfl;exact fun w' hw'=>prv_vval false a c b d h0 hM x x1 (hA.below hw'.below) (hB.below hw'.below) (Sat.prfs hw' mm))|(apply G.cV (g:=11) (d:=91);rfl;rfl;exact fun w' hw'=>prv_vval true a c b d h0 hM y y1 (hA.below hw'.below) (hB.below hw'.below) (Sat.prfs hw' mm))|(refine G.eqR (endQ x) (endQ x) (d:=106) rfl rfl rfl (fun _=>?_) (fun hne=>absurd rfl hne))|(refine G.eqR (endQ y) (endQ y) (d:=111) rfl rfl rfl (fun _=>?_) (fun hne=>absurd rfl hne))|(refine G.eqB (endQ x) (endQ y) (endQ x) (endQ y) (d:=118) ?_ ?_ rfl (fun _=>?_) (fun hne=>absurd ⟨rfl,rfl⟩ hne);kernel_rfl;kernel_rfl)|(refine G.eqB (endQ x) (endQ y) (endQ x) (endQ y) (d:=124) ?_ ?_ rfl (fun _=>?_) (fun hne=>absurd ⟨rfl,rfl⟩ hne);kernel_rfl;kernel_rfl)|(refine G.cV (g:=17) (v:=.bool true) (vs:=[.slice a rs.length c,.slice b l.length d,.agg #[.bool (endQ x).neg,.string (bs (endQ x).num),.string (bs (endQ x).den),.bool (endQ y).neg,.string (bs (endQ y).num),.string (bs (endQ y).den),.int .i64 (f0R rs),.slice z1.1.1.1.2 z1.1.1.1.1.length z1.1.1.1.1.length,.int .i64 (f0R rs),.slice z2.1.1.1.2 z2.1.1.1.1.length z2.1.1.1.1.length,.slice z1.1.2.2.1 rs.length z1.1.2.2.2,.slice z2.1.2.2.1 rs.length z2.1.2.2.2]]) ?_ rfl ?_ ?_;kernel_rfl;exact fun w' hw'=>whole_acc a c b d h0 hM hf1 (by decide) z1 z2 (hA.below hw'.below) (hB.below hw'.below) (whole_at h0 hM hf1 (by decide) z1 z2 hw' mm mm mm mm) _ (whole_W h0 x y z1 z2))|fail
  all_goals refine ret1b Tryz.func5 Tryz.results5 ?_
  all_goals rfl
 ·have hI:=fun w' (hb:Below w.heap.size w w')=>int_bad a rs c b l d w' (hA.below hb) (hB.below hb) hM h0
  have hp:=fun t w' (hb:Below w.heap.size w w')=>Prove_bad t a rs c b l d w' (hA.below hb) (hB.below hb) hM h0
  have hh:=fun w' (hb:Below w.heap.size w w')=>Whole_bad a rs c b l d w' (hA.below hb) (hB.below hb) hM h0
  generalize chkE rs l=E at *
  clear hA hB hM hf1 hf2
  refine enterA [(0,.slice a rs.length c),(1,.slice b l.length d)] Tryz.func5 Tryz.ntmps5 ?_
  repeat' first|(refine gp ?_;and_intros<;>first|exact trivial|repeat first|intro(Bk:Nat)|intro h)|(apply G.cV (g:=9);rfl;rfl;exact fun w' hw'=>hfw w' hw'.below)|(apply G.cV (g:=10);rfl;rfl;exact fun w' _=>sanity22_holds w')|(apply G.cV (g:=23);rfl;rfl;exact fun w' hw'=>hI w' hw'.below)|(apply G.cV (g:=24) (d:=33);rfl;rfl;exact fun w' hw'=>hp false w' hw'.below)|(apply G.cV (g:=24) (d:=40);rfl;rfl;exact fun w' hw'=>hp true w' hw'.below)|(apply G.cV (g:=25);rfl;rfl;exact fun w' hw'=>hh w' hw'.below)|(refine G.eqB zero3 zero3 zero3 zero3 ?_ ?_ rfl (fun _=>?_) (fun hne=>absurd ⟨rfl,rfl⟩ hne);kernel_rfl;kernel_rfl)|fail
  all_goals refine ret1b Tryz.func5 Tryz.results5 ?_
  all_goals rfl
end Go.Proofs.YtjcecdmbfmccoaaGreatDoor
