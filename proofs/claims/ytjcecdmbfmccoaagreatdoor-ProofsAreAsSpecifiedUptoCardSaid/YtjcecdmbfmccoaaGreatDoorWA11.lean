/-
  Plain: sums of numbers over one denominator are of moderate size.
-/
import Derived.Test.YtjcecdmbfmccoaaGreatDoorWA10
set_option linter.unusedVariables false
set_option linter.unusedSimpArgs false
set_option linter.unusedSectionVars false
namespace Go.Proofs.YtjcecdmbfmccoaaGreatDoor
open Go.RowKit Go.Sl Go.Num
def bD (D B n:Nat) (x:Rat):Prop:=∃ N:Int,x*((D:Int):Rat)=(N:Rat)/\N.natAbs<=n*B
theorem bD.zero (D B:Nat):bD D B 0 0:=⟨0,by rw [Rat.zero_mul];rfl,Nat.zero_le _⟩
theorem bD.le {D B n m:Nat}{x:Rat} (h:bD D B n x) (hm:n<=m):bD D B m x:=by
 obtain ⟨N,h1,h2⟩:=h;exact ⟨N,h1,Nat.le_trans h2 (Nat.mul_le_mul_right _ hm)⟩
theorem bD.add {D B n m:Nat}{x y:Rat} (h:bD D B n x) (h2:bD D B m y):bD D B (n+m) (x+y):=by
 obtain ⟨N,a1,a2⟩:=h;obtain ⟨M,b1,b2⟩:=h2;refine ⟨N+M,by rw [Rat.add_mul,a1,b1,Rat.intCast_add],?_⟩
 rw [Nat.add_mul];have:=Int.natAbs_add_le N M;omega
theorem bD.mulN {D B:Nat}{x:Rat} (h:bD D B 1 x) (m:Nat):bD D B m (((m:Int):Rat)*x):=by
 obtain ⟨N,a1,a2⟩:=h;refine ⟨(m:Int)*N,by rw [Rat.mul_assoc,a1,Rat.intCast_mul],?_⟩
 rw [Int.natAbs_mul,Int.natAbs_natCast];exact Nat.mul_le_mul_left _ om
theorem bD.few {D B n k:Nat}{x:Rat} (h:bD D B n x) (h0:0 < D) (hD:D < 256 ^ k) (hB:n*B < 256 ^ k):aH k (rQ x):=by
 obtain ⟨N,h1,h2⟩:=h;exact Kj h1 h0 hD (Nat.lt_of_le_of_lt h2 hB)
structure sO (t:Bool) (l:List Spn) (D B:Nat) (r:Rn) (p:Prf):Prop where
 u:r.tab.length≠0->∀ s,s < r.tab.length->bD D B 1 (uP p s)
 v:r.tab.length≠0->∀ c,c < (aD r l).length->bD D B 1 (vP p c)
 g:r.tab.length=0->∀ c,c < (aD r l).length->bD D B 1 (gV t l r c)
 f:EV 20000000 p
structure Bc (D B k:Nat):Prop where
 pos:0 < D
 den:D < 256 ^ k
 num:100000*B < 256 ^ k
 le:k<=50000000
theorem Bc.few {D B k n:Nat}{x:Rat} (h:Bc D B k) (hx:bD D B n x) (hn:n<=100000):aH k (rQ x) :=
 hx.few h.pos h.den (Nat.lt_of_le_of_lt (Nat.mul_le_mul_right _ hn) h.num)
theorem Bc.big {D B k n:Nat}{x:Rat} (h:Bc D B k) (hx:bD D B n x) (hn:n<=100000):big x:=aH.big (h.few hx hn) (Nat.le_trans h.le dc)
theorem bD.sum {D B:Nat}{T:Nat->Int}{f:Nat->Rat}:∀ {n:Nat},(∀ c,c < n->0<=T c)->(∀ c,c < n->bD D B 1 (f c))->bD D B (iS T n).toNat (rS' (fun c=>(T c:Rat)*f c) n)
 | 0,_,_=>bD.zero D B
 | n+1,hT,hf=>by
  have ih:=bD.sum (D:=D) (B:=B) (n:=n) (fun c hc=>hT c om) fun c hc=>hf c om
  have h0:=hT n om;have h1:=(hf n om).mulN (T n).toNat;rw [Int.toNat_of_nonneg h0] at h1;have h2:=qI (f:=T) (n:=n) fun c hc=>hT c om
  rw [iS,rS',Int.toNat_add h2 h0];exact ih.add h1
theorem Bg {D B:Nat}{x:Rat} (h:bD D B 1 x) {T:Int} (hT:0<=T):bD D B T.toNat ((T:Rat)*x):=by
 have h1:=h.mulN T.toNat
 rwa [Int.toNat_of_nonneg hT] at h1
def fC:List Rn->Nat
 | []=>0
 | r::rs=>(r.to_-r.from_).toNat+fC rs
theorem sE:∀ a b:List Rn,fC (a++b)=fC a+fC b
 | [],b=>by rw [List.nil_append,fC,Nat.zero_add]
 | r::a,b=>by rw [List.cons_append,fC,fC,sE a b,Nat.add_assoc]
theorem vK:∀ {rs:List Rn}{f e:Int},Cn f rs e->(∀ r∈rs,OkR r)->(fC rs:Int)=e-f
 | [],f,e,h,_=>by have:f=e:=h;rw [fC];omega
 | r::rs,f,e,⟨h1,h2⟩,ho=>by
  have ih:=vK h2 fun x hx=>ho x (mC _ hx)
  have hr:=(ho r (List.mem_cons_self ..)).rng;rw [fC];omega
theorem Bj (rs:List Rn) (k:Nat):fC (rs.take k)<=fC rs:=by
 have h:=sE (rs.take k) (rs.drop k);rw [List.take_append_drop] at h
 omega
theorem qT {rs:List Rn} (h:aX rs=0):fC rs<=40000:=by
 by_cases h0:rs=[]
 ·subst h0;exact Nat.zero_le _
 ·obtain ⟨h1,_,h2⟩:=gK h
  obtain ⟨h3,h4⟩:=h2 h0;have:=vK h3 h1;omega
theorem C6 {t:Bool}{l:List Spn}{rs:List Rn}{ps:List Prf} (hl:ps.length=rs.length) {k:Nat} (hk:k < rs.length):eQ t l (rs.take (k+1)) (ps.take (k+1))=eQ t l (rs.take k) (ps.take k)+kC t l rs[k] (ps[k]'om):=by
 rw [List.take_add_one,List.take_add_one,gE hk,gE om,AG (by rw [List.length_take,List.length_take];omega)]
 rw [show eQ t l (some rs[k]).toList (some (ps[k]'om)).toList=kC t l rs[k] (ps[k]'om)+0 from rfl,Rat.add_zero]
theorem mP {α β:Type}{a:List α}{b:List β}{f:α×β->Bool} (hl:b.length=a.length) (h:∀ i (h1:i < a.length) (h2:i < b.length),f (a[i],b[i])=true):∀ y∈a.zip b,f y=true:=fun y hy=>by
 obtain ⟨i,hi,e⟩:=List.mem_iff_getElem.1 hy;rw [List.length_zip] at hi;rw [List.getElem_zip] at e;rw [<- e];exact h i om om
theorem yX {α β:Type}{a:List α}{b:List β}{f:α×β->Bool}{i:Nat} (h1:i < a.length) (h2:i < b.length) (h:f (a[i],b[i])=false):((a.zip b).all f)=false:=by
 cases hb:(a.zip b).all f with
 | false=>rfl
 | true =>
  have hm:(a[i],b[i])∈a.zip b:=List.mem_iff_getElem.2 ⟨i,by rw [List.length_zip];omega,List.getElem_zip⟩
  have:=List.all_eq_true.1 hb _ hm;rw [h] at this;cases this
theorem wW {f:Nat->Int}:∀ {n:Nat},(∀ i,i < n->0<=f i)->∀ {u},u < n->iS f (u+1)<=iS f n
 | 0,_,u,h=>absurd h (Nat.not_lt_zero _)
 | n+1,hf,u,h=>by
  by_cases e:u=n
  ·subst e;exact Int.le_refl _
  ·have ih:=wW (f:=f) (n:=n) (fun i hi=>hf i om) (u:=u) om
   have:=hf n om;rw [show iS f (n+1)=iS f n+f n from rfl];omega
theorem DD {t:Bool}{l:List Spn}{D B:Nat}{r:Rn}{p:Prf} (hr:OkR r) (hl:aR 0 l) (h:sO t l D B r p):bD D B (2*(r.to_-r.from_).toNat) (kC t l r p):=by
 have hrg:=hr.rng;have hc:∀ c,c < (aD r l).length->0<=aT r l c:=fun c hc=>Int.le_of_lt (vD _ (List.mem_of_getElem? (iH hc)))
 have hcs:iS (aT r l) (aD r l).length=r.to_-r.from_:=by rw [mN,kB hl hrg.2.1]
 unfold kC;split
 ·rename_i h0
  have h1:=bD.sum (D:=D) (B:=B) hc (h.g h0);rw [hcs] at h1;exact h1.le om
 ·rename_i h0
  have ht:=hr.tab h0;have hs:∀ s,s < r.tab.length->0<=tbT r s:=fun s hs=>by have:=ht.2.1 _ (eZ hs);dsimp only at this;omega
  have h1:=bD.sum (D:=D) (B:=B) hs (h.u h0);have h2:=bD.sum (D:=D) (B:=B) hc (h.v h0);rw [kY,ht.2.2.1] at h1;rw [hcs] at h2;exact (h1.add h2).le om
abbrev ClT:=Nat×Nat×Nat×List (Int×Int)
def clF (N:Nat) (e:ClT):Row:=aL N (some ⟨e.1,e.2.1,none⟩) 2 (e.2.2.2.map hoV)
def clS (e:ClT):List Value:=[.slice (some ⟨e.1,e.2.1,none⟩) e.2.2.2.length e.2.2.1]
set_option maxHeartbeats 8000000 in
theorem Gn (t:Bool) (a:Option Addr) (rs:List Rn) (c:Nat) (b:Option Addr) (l:List Spn) (d:Nat) (pa:Option Addr) (ps:List Prf) (pc:Nat) (w:World) (hA:aW w a rs) (hB:aN w b l) (hM:Mod rs l) (hP:bK w pa ps) (hfp:∀ p∈ps,EV 20000000 p/\p.st.length<=1000000/\p.cl.length<=1000000) (D B K:Nat) (hD:cU rs l=0->ps.length=rs.length->(∀ x∈rs.zip ps,bP l x.1 x.2=true)->Bc D B K/\∀ y∈rs.zip ps,sO t l D B y.1 y.2) :
  CR 11 #[.slice a rs.length c,.slice b l.length d,.slice pa ps.length pc,.bool t] w (.tuple #[qA (bF t rs l ps).1,.int .i64 (bF t rs l ps).2]):=by
 have hck:=fun w' (hb:Below w.heap.size w w')=>oR a rs c b l d w' (hA.below hb) hM.tab (hB.below hb) hM.few
 by_cases h0:cU rs l=0
 ·by_cases hne:ps.length=rs.length
  ·obtain ⟨hio,hl4,hR,hrl,hok⟩:=dY h0
   have hcl:=fun k (hk:k < rs.length) w' (hb:Below w.heap.size w w')=>lW a rs c b l d k w' (hA.below hb) hM.tab (hB.below hb) hM.few h0 hk
   have hvf:∀ i (h1:i < rs.length) (h2:i < ps.length),bP l rs[i] ps[i]=false->bF t rs l ps=(aY,1):=fun i h1 h2 hf=>by
    unfold bF;rw [if_neg (fun h=>h h0),if_neg (fun h=>h hne),if_pos (yX (f:=fun x=>bP l x.1 x.2) h1 h2 hf)]
   have hcf:(∀ i (h1:i < rs.length) (h2:i < ps.length),bP l rs[i] ps[i]=true)->∀ i (h1:i < rs.length) (h2:i < ps.length),dJ t l rs[i] ps[i]=false->bF t rs l ps=(aY,22):=fun hw i h1 h2 hf=>by
    unfold bF;rw [if_neg (fun h=>h h0),if_neg (fun h=>h hne),if_neg (by rw [List.all_eq_true.2 (mP (f:=fun x=>bP l x.1 x.2) hne hw)];decide),if_pos (yX (f:=fun x=>dJ t l x.1 x.2) h1 h2 hf)]
   have hvo:(∀ i (h1:i < rs.length) (h2:i < ps.length),bP l rs[i] ps[i]=true)->(∀ i (h1:i < rs.length) (h2:i < ps.length),dJ t l rs[i] ps[i]=true)->bF t rs l ps=(rQ (eQ t l rs ps),0):=fun hw hc =>
    AC h0 hne (mP (f:=fun x=>bP l x.1 x.2) hne hw) (mP (f:=fun x=>dJ t l x.1 x.2) hne hc)
   rw [h0] at hck;refine aB [(0,.slice a rs.length c),(1,.slice b l.length d),(2,.slice pa ps.length pc),(3,.bool t)] Tryz.func11 Tryz.ntmps11 ?_;repeat' first|(refine gp ?_;and_intros<;>first|exact trivial|repeat first|intro(Bk:Nat)|intro h)|(apply G.cV (g:=36);rfl;rfl;exact fun w' hw=>hck w' hw.below)
   obtain ⟨B8,rfl⟩:∃ x,x=Bk:=⟨_,rfl⟩;apply J.nilOwn (E:=82) (size:=1);refine J.loop (c:=_) ((0,.slice none 0 0,[]):Nat×Value×List ClT) (fun x=>rs.length-x.1) (fun x=>[(0,.slice a rs.length c),(1,.slice b l.length d),(2,.slice pa ps.length pc),(3,.bool t),(8,.pointer (some ⟨B8,0,none⟩)),(11,x.2.1),(39,.slice a rs.length c),(40,.int .i64 rs.length),(41,.int .i64 x.1)]) (fun x=>.own 0 x.2.1 82 1 x.1 (flat clS x.2.2)::.blk B8 25 [.bool false,.string (bs []),.string (bs [])] 3::(rws (clF w.heap.size) x.2.2++[])) (fun x=>x.1<=rs.length/\x.2.2.length=x.1/\(∀ i (h1:i < rs.length) (h2:i < x.2.2.length),x.2.2[i].2.2.2=aD rs[i] l)/\∀ i (h1:i < rs.length) (h2:i < ps.length),i < x.1->bP l rs[i] ps[i]=true) ?_ sbT sbL ?_
   ·exact ⟨Nat.zero_le _,rfl,fun i _ h=>absurd h (Nat.not_lt_zero _),fun i _ _ h=>absurd h (Nat.not_lt_zero _)⟩
   intro ⟨k,v,T⟩ ⟨hkn,hTl,hTc,hwk⟩ ihk;dsimp only at hkn hTl hTc hwk ⊢;by_cases hkk:k < rs.length
   ·have hkp:k < ps.length:=by omega
    obtain ⟨ba,oa,rfl,hra⟩:=aE.all hA.1 om;obtain ⟨bp,op,rfl,hrp⟩:=aE.all hP.1 om;have hrk:=hra k hkk;have hpk:=hrp k hkp;have hm:=gM hkp;have hPk:=hP.2 _ hm;obtain ⟨hfk,hl1,hl2⟩:=hfp _ hm;have hcn0:=iB hio (hok _ (gM hkk)).rng.2.1;have hwe:=fun ka kc w' (hb:Below w.heap.size w w')=>Gm rs[k] l ps[k] ka kc w' (hPk.below hb) hfk hl1 hl2
    have hcl:=hcl k hkk;have hvf:=hvf k hkk hkp;have ihk:=fun (h:bP l rs[k] (ps[k]'hkp)=true) v' kb ko kc=>ihk (k+1,v',T++[(kb,ko,kc,aD rs[k] l)]) ⟨hkk,by simp [hTl],fun i h1 h2=>by
     dsimp only at h2 ⊢;by_cases e:i < T.length
     ·rw [List.getElem_append_left e];exact hTc i h1 e
     ·rw [List.length_append,List.length_singleton] at h2
      obtain rfl:i=T.length:=by omega
      rw [List.getElem_concat_length rfl];simp only [hTl],fun i h1 h2 h3=>by
     dsimp only at h3;by_cases e:i=k
     ·subst e;exact h
     ·exact hwk i h1 h2 om⟩ (by dsimp only;omega)
    dsimp only at ihk;clear hra hrp hwk hPk hfk hA hB hM hP hfp hD hcf hvo hm hTc;generalize rs[k]=r at *;generalize ps[k]=p at *;dsimp only [rnV,prV] at hrk hpk;unfold rnA prA at hwe;generalize hwb:bP l r p=wb at *;cases wb with
    | false =>
     rw [hvf rfl];clear ihk hvf;repeat' first|(refine gp ?_;and_intros<;>first|exact trivial|repeat first|intro(Bk:Nat)|intro h)|(refine G.cL (g:=37) (sz:=2) (f:=hoV) (fun v=>.tuple #[v,.int .i64 0]) (aD r l) rfl rfl (fun w' hw=>(hcl w' hw.below).mono fun e w2 hh=>?_) ?_;exact hh;intro ka kc hp1 hp2;clear hp2;obtain ⟨kb,ko,rfl⟩:=hp1 hcn0)|(apply G.cV (g:=38);rfl;rfl;exact fun w' hw=>hwe _ _ w' hw.below)
     all_goals exact hU Tryz.func11 Tryz.results11 rfl
    | true =>
     have ihk:=ihk rfl;clear hvf;repeat' first|(refine gp ?_;and_intros<;>first|exact trivial|repeat first|intro(Bk:Nat)|intro h)|(refine G.cL (g:=37) (sz:=2) (f:=hoV) (fun v=>.tuple #[v,.int .i64 0]) (aD r l) rfl rfl (fun w' hw=>(hcl w' hw.below).mono fun e w2 hh=>?_) ?_;exact hh;intro ka kc hp1 hp2;clear hp2;obtain ⟨kb,ko,rfl⟩:=hp1 hcn0)|(apply G.cV (g:=38);rfl;rfl;exact fun w' hw=>hwe _ _ w' hw.below)|(apply G.Pu;rfl;rfl;rfl;rfl;rfl;rfl;rfl;rfl;intro Bs)|(apply G.ap;rfl;rfl;rfl;(repeat (first|exact RAt.head|apply RAt.tail));exact cB.blk (by exact mm) rfl rfl;exact (eJ (f:=clS) T (kb,ko,kc,aD r l)).symm;omega;omega;intro v2)
     refine J.sel (T:=clF w.heap.size (kb,ko,kc,aD r l)::(.own 0 v2 82 1 (k+1) (flat clS (T++[(kb,ko,kc,aD r l)]))::.blk B8 25 [.bool false,.string (bs []),.string (bs [])] 3::(rws (clF w.heap.size) T++[]))) ?_;refine J.P7 (F:=clF w.heap.size) (T:=T) [.own 0 v2 82 1 (k+1) (flat clS (T++[(kb,ko,kc,aD r l)])),.blk B8 25 [.bool false,.string (bs []),.string (bs [])] 3] (kb,ko,kc,aD r l) ?_;exact J.fin (ihk v2 kb ko kc)
   ·obtain rfl:k=rs.length:=by omega
    clear ihk;have hwk:=fun i h1 h2=>hwk i h1 h2 h1
    obtain ⟨hDK,hDR⟩:=hD h0 hne (mP (f:=fun x=>bP l x.1 x.2) hne hwk)
    have hcf:=hcf hwk;have hvo:=hvo hwk;have htk:=qT (fB h0).1;clear hvf hD;by_cases hz:rs.length=0
    ·have hz2:rs=[]:=List.length_eq_zero_iff.1 hz
     have hz3:ps=[]:=List.length_eq_zero_iff.1 om;rw [hvo fun i h1 h2=>by omega]
     subst hz2 hz3;clear hcf hvo hDR hwk hA hB hM hP hfp hTc hcl;rw [show eQ t l [] []=0 from rfl]
     repeat' first|(refine gp ?_;and_intros<;>first|exact trivial|repeat first|intro(Bk:Nat)|intro h)|(apply G.cV (g:=39);rfl;rfl;exact fun w' _=>rW t w')
     obtain ⟨B17,rfl⟩:∃ x,x=Bk:=⟨_,rfl⟩;refine J.loop (c:=_) (0:Nat) (fun x=>0) (fun x=>[(8,.pointer (some ⟨B8,0,none⟩)),(17,.pointer (some ⟨B17,0,none⟩)),(70,.int .i64 0),(71,.int .i64 0)]) (fun x=>.blk B17 25 [.bool false,.string (bs []),.string (bs [])] 3::.blk B8 25 [.bool false,.string (bs []),.string (bs [])] 3::(rws (clF w.heap.size) T++[])) (fun x=>True) ?_ sbT sbL ?_
     ·trivial
     intro _ _ ih;clear ih;all_goals (refine go ?_;and_intros<;>first|exact trivial|repeat first|intro(Bk:Nat)|intro h)
     all_goals exact hU Tryz.func11 Tryz.results11 rfl
    refine J.ownOpen RAt.head om ?_;intro gv kv hkv1 hkv2 ev;subst ev
    try dsimp only
    repeat' first|(refine gp ?_;and_intros<;>first|exact trivial|repeat first|intro(Bk:Nat)|intro h)|(apply G.cV (g:=39);rfl;rfl;exact fun w' _=>rW t w')
    obtain ⟨B17,rfl⟩:∃ x,x=Bk:=⟨_,rfl⟩;refine J.loop (c:=_) ((0,0):Nat×Rat) (fun x=>rs.length-x.1) (fun x=>[(1,.slice b l.length d),(2,.slice pa ps.length pc),(8,.pointer (some ⟨B8,0,none⟩)),(11,.slice (some ⟨gv,0,none⟩) rs.length kv),(16,.func (.func (isF t)) #[] #[]),(17,.pointer (some ⟨B17,0,none⟩)),(69,.slice a rs.length c),(70,.int .i64 rs.length),(71,.int .i64 x.1)]) (fun x=>.blk B17 25 (qW x.2) 3::.blk gv 82 (flat clS T) (kv*1)::.blk B8 25 [.bool false,.string (bs []),.string (bs [])] 3::(rws (clF w.heap.size) T++[])) (fun x=>x.1<=rs.length/\x.2=eQ t l (rs.take x.1) (ps.take x.1)/\bD D B (2*fC (rs.take x.1)) x.2/\∀ i (h1:i < rs.length) (h2:i < ps.length),i < x.1->dJ t l rs[i] ps[i]=true) ?_ sbT sbL ?_
    ·exact ⟨Nat.zero_le _,rfl,bD.zero D B,fun i _ _ h=>absurd h (Nat.not_lt_zero _)⟩
    intro ⟨k,s⟩ ⟨hkn,hsv,hso,hcw⟩ ihk;dsimp only at hkn hsv hso hcw ⊢;by_cases hkk:k < rs.length
    ·have hkp:k < ps.length:=by omega
     have hkT:k < T.length:=by omega
     obtain ⟨ba,oa,rfl,hra⟩:=aE.all hA.1 om;obtain ⟨bp,op,rfl,hrp⟩:=aE.all hP.1 om;have hrk:=hra k hkk;have hpk:=hrp k hkp;have hm:=gM hkp;have hmr:=gM hkk;have hPk:=hP.2 _ hm;have hTk:=hA.2 _ hmr;have hr:=hok _ hmr;have hdr:=hDR (rs[k],ps[k]) (List.mem_iff_getElem.2 ⟨k,by rw [List.length_zip];omega,List.getElem_zip⟩)
     dsimp only at hdr;have hvr:=DD hr hio hdr;have hwl:=hwk k hkk hkp;have hcf:=hcf k hkk hkp;have htl0:=hM.tab _ hmr;have hnc:=hM.cls h0 _ hmr;have hTck:=hTc k hkk hkT;have hmT:=fun R=>iG (F:=clF w.heap.size) (T:=T) (M0:=R) hkT
     have hdT:(flat clS T)[0+k*1]?=some (.slice (some ⟨T[k].1,T[k].2.1,none⟩) T[k].2.2.2.length T[k].2.2.1):=gA (f:=clS) (fun _=>rfl) hkT rfl
     have htk1:=Bj rs (k+1);have htke:fC (rs.take (k+1))=fC (rs.take k)+(rs[k].to_-rs[k].from_).toNat:=by rw [sB hkk,sE,fC,fC,Nat.add_zero]
     have ihk:=fun (h:dJ t l rs[k] (ps[k]'hkp)=true)=>ihk (k+1,s+kC t l rs[k] (ps[k]'hkp)) ⟨hkk,by dsimp only;rw [C6 hne hkk,hsv],by dsimp only;rw [htke];exact (hso.add hvr).le om,fun i h1 h2 h3=>by
      by_cases e:i=k
      ·subst e;exact h
      ·exact hcw i h1 h2 (by dsimp only at h3;omega)⟩ (by dsimp only;omega)
     dsimp only at ihk;have hf:=hM.few;clear hra hrp hP hfp hvo hm hmr hDR hok hwk hcw hsv hA hM hTc;generalize rs[k]=r at *;generalize ps[k]=p at *;generalize T[k]=te at *;generalize fC (rs.take k)=tk at *;obtain ⟨kb,ko,kc,Lk⟩:=te;dsimp only at hTck;subst hTck;dsimp only [clF] at hmT hdT;rw [htke] at htk1;clear htke;have hrg:=hr.rng;have hTc:∀ c,c < (aD r l).length->0 < aT r l c:=fun c hc=>vD _ (List.mem_of_getElem? (iH hc))
     have hTs:iS (aT r l) (aD r l).length=r.to_-r.from_:=by rw [mN,kB hio hrg.2.1]
     have hTb:∀ c,c < (aD r l).length->0 < aT r l c/\aT r l c<=1402560:=fun c hc=>⟨hTc c hc,by
      have h1:=fZ (f:=aT r l) (n:=(aD r l).length) (fun i hi=>Int.le_of_lt (hTc i hi)) c hc
      rw [hTs] at h1;omega⟩
     dsimp only [rnV,prV] at hrk hpk;by_cases h0t:r.tab.length=0
     ·have hgp:=hr.gap h0t
      have hg1:=hdr.g h0t;have hbs:=fun c (hc:c < (aD r l).length) w' (hb:Below w.heap.size w w')=>Gi t r (aG r l c) (aT r l c) b l d w' (hB.below hb) hf hR (sC hc) ⟨hgp.1,by omega⟩ ⟨by omega,hgp.2.2⟩
      have hgc:∀ c,gV t l r c=qL t (aS l (aG r l c) r.lo) (aS l (aG r l c) r.hi):=fun _=>rfl
      have hvg:kC t l r p=rS' (fun c=>(aT r l c:Rat)*gV t l r c) (aD r l).length:=by unfold kC;rw [if_pos h0t];rfl
      have ihk:=ihk (by unfold dJ;rw [dT h0t,Bool.true_or])
      rw [hvg] at ihk;clear hf hB hdr hvr hvg hcf hwl hPk hTk;unfold rnA at hbs;repeat' first|(refine gp ?_;and_intros<;>first|exact trivial|repeat first|intro(Bk:Nat)|intro h)|(apply G.ld;rfl;(apply LdV.one;apply aC.blk;exact mm;exact hdT);rfl)
      obtain ⟨B19,rfl⟩:∃ x,x=Bk:=⟨_,rfl⟩;refine J.loop (c:=_) ((0,s):Nat×Rat) (fun x=>(aD r l).length-x.1) (fun x=>[(1,.slice b l.length d),(2,.slice (some ⟨bp,op,none⟩) ps.length pc),(8,.pointer (some ⟨B8,0,none⟩)),(11,.slice (some ⟨gv,0,none⟩) rs.length kv),(16,.func (.func (isF t)) #[] #[]),(17,.pointer (some ⟨B17,0,none⟩)),(18,.int .i64 k),(19,.pointer (some ⟨B19,0,none⟩)),(69,.slice (some ⟨ba,oa,none⟩) rs.length c),(70,.int .i64 rs.length),(71,.int .i64 k),(79,.slice (some ⟨kb,ko,none⟩) (aD r l).length kc),(80,.int .i64 (aD r l).length),(81,.int .i64 x.1)]) (fun x=>.blk B19 67 [.int .i64 r.from_,.int .i64 r.to_,.slice r.adr r.tab.length r.cap,.int .i64 r.lo,.int .i64 r.hi] 5::.blk B17 25 (qW x.2) 3::.blk gv 82 (flat clS T) (kv*1)::.blk B8 25 [.bool false,.string (bs []),.string (bs [])] 3::(rws (clF w.heap.size) T++[])) (fun x=>x.1<=(aD r l).length/\x.2=s+rS' (fun c=>(aT r l c:Rat)*gV t l r c) x.1/\bD D B (2*tk+(iS (aT r l) x.1).toNat) x.2) ?_ sbT sbL ?_
      ·exact ⟨Nat.zero_le _,(Rat.add_zero s).symm,hso⟩
      clear hso;intro ⟨v,s3⟩ ⟨hvn,hs3,hso3⟩ ihv;dsimp only at hvn hs3 hso3 ⊢;by_cases hvv:v < (aD r l).length
      ·clear ihk
       have hT0:=Int.le_of_lt (hTc v hvv);have hT2:=(hTb v hvv).2;have hnn:=qI (f:=aT r l) (n:=v) fun i hi=>Int.le_of_lt (hTc i om)
       have hle:iS (aT r l) (v+1)<=r.to_-r.from_:=by
        rw [<- hTs];exact wW (fun i hi=>Int.le_of_lt (hTc i hi)) hvv
       have hok1:=Bg (hg1 v hvv) hT0;have hok2:=hso3.add hok1;have hst:iS (aT r l) (v+1)=iS (aT r l) v+aT r l v:=rfl;have hto:(iS (aT r l) (v+1)).toNat=(iS (aT r l) v).toNat+(aT r l v).toNat:=by rw [hst,Int.toNat_add hnn hT0]
       have htm:=wT (n:=aT r l v) (x:=gV t l r v) om om (hDK.big (hg1 v hvv) dc);have b1:=hDK.big hso3 om;have b2:=hDK.big hok1 om;have b3:=hDK.big hok2 om;have ihv:=ihv (v+1,s3+(aT r l v:Rat)*gV t l r v) ⟨hvv,by dsimp only;rw [hs3,rS',Rat.add_assoc],by dsimp only;rw [hto];exact hok2.le om⟩ (by dsimp only;omega)
       dsimp only at ihv;have hx:=iH hvv;have hbs:=hbs v hvv;rw [<- hgc] at hbs;clear hok1 hok2 hso3 hs3 hg1 hgc hTs hTb hTc hto hst hle hnn;have hpl:=fun (M:List Row) w' (hw':Sat w M w') Bq Eq tq hm=>Mc (B:=Bq) (E:=Eq) (tot:=tq) hw' rfl rfl b1 b2 b3 hm
       clear b1 b2 b3;dsimp only [qW,qV] at ihv ⊢;generalize rQ (s3+(aT r l v:Rat)*gV t l r v)=q1 at *;generalize rQ ((aT r l v:Rat)*gV t l r v)=q2 at *;generalize rQ s3=q3 at *;generalize rQ (gV t l r v)=q4 at *;obtain ⟨n1,u1,d1⟩:=q1;obtain ⟨n2,u2,d2⟩:=q2;obtain ⟨n3,u3,d3⟩:=q3;obtain ⟨n4,u4,d4⟩:=q4;dsimp only [qA] at htm hbs hpl ihv ⊢;repeat' first|(refine gp ?_;and_intros<;>first|exact trivial|repeat first|intro(Bk:Nat)|intro h)|(apply G.ld;rfl;exact LdV.Qw (f:=hoV) (N:=w.heap.size) (.agg #[.int .i64 (aG r l v),.int .i64 (aT r l v)]) hx (by (repeat (first|exact hmT _|apply List.Mem.tail))) rfl rfl;rfl)|(apply J.Py (.q 0 <| .q 1 <| .q 2 <| .q 3 <| .q 4 <| .q 5 <| .q 6 <| .q 7 <| .q 8 <| .r 9 <| .q 10 <| .r 11 <| .nil);exact Tryz.Pr;decide +kernel)|(apply G.cV (g:=42);rfl;rfl;exact fun w' hw=>hbs w' hw.below)|(apply G.cV (g:=41);rfl;rfl;exact fun w' _=>htm w')|(apply G.Pu;rfl;rfl;rfl;rfl;rfl;rfl;rfl;rfl;intro Bs)|(apply G.cV (g:=40);rfl;rfl;exact fun w' hw'=>hpl _ w' hw' _ _ _ (by exact mm))
       exact J.P1 ihv
      ·obtain rfl:v=(aD r l).length:=by omega
       rw [<- hs3] at ihk;clear ihv;all_goals (refine go ?_;and_intros<;>first|exact trivial|repeat first|intro(Bk:Nat)|intro h)
       refine J.loop (c:=_) (0:Nat) (fun x=>0) (fun x=>[(1,.slice b l.length d),(2,.slice (some ⟨bp,op,none⟩) ps.length pc),(8,.pointer (some ⟨B8,0,none⟩)),(11,.slice (some ⟨gv,0,none⟩) rs.length kv),(16,.func (.func (isF t)) #[] #[]),(17,.pointer (some ⟨B17,0,none⟩)),(18,.int .i64 k),(69,.slice (some ⟨ba,oa,none⟩) rs.length c),(70,.int .i64 rs.length),(71,.int .i64 k),(153,.int .i64 r.tab.length),(154,.int .i64 0)]) (fun x=>.blk B17 25 (qW s3) 3::.blk gv 82 (flat clS T) (kv*1)::.blk B8 25 [.bool false,.string (bs []),.string (bs [])] 3::(rws (clF w.heap.size) T++[])) (fun x=>True) ?_ sbT sbL ?_
       ·trivial
       intro _ _ ih;clear ih;all_goals (refine go ?_;and_intros<;>first|exact trivial|repeat first|intro(Bk:Nat)|intro h)
       exact J.P1 ihk
     ·obtain ⟨hw1,hw2,hw3,hw4⟩:=(nT h0t).1 hwl
      have htb:=hr.tab h0t;have hts:∀ s,s < r.tab.length->0<=tbS r s/\tbS r s<=1000:=fun s hs=>htb.2.2.2 _ (eZ hs)
      have htT:∀ s,s < r.tab.length->0<=tbT r s:=fun s hs=>by have:=htb.2.1 _ (eZ hs);dsimp only at this;omega
      have htT2:∀ s,s < r.tab.length->tbT r s<=1402560:=fun s hs=>by
       have h1:=fZ (f:=tbT r) (n:=r.tab.length) (fun i hi=>htT i hi) s hs
       rw [kY,htb.2.2.1] at h1;omega
      have htS:iS (tbT r) r.tab.length=r.to_-r.from_:=by rw [kY,htb.2.2.1]
      have hci:=nQ (t:=t) (l:=l) (r:=r) (p:=p);have hra:=fun c (hc:c < (aD r l).length) s (hs:s < r.tab.length) w' (hb:Below w.heap.size w w')=>mO (aG r l c) (aT r l c) (tbS r s) b l d w' (hB.below hb) hf hR (sC hc) (hts s hs)
      have hgf:=fun c s (hs:s < r.tab.length)=>dH (l:=l) (p:=aG r l c) hf hR (hts s hs)
      have hgt:∀ s c,gT l r s c=aS l (aG r l c) (tbS r s):=fun _ _=>rfl
      have hvg:kC t l r p=rS' (fun i=>(tbT r i:Rat)*uP p i) r.tab.length+rS' (fun i=>(aT r l i:Rat)*vP p i) (aD r l).length:=by unfold kC;rw [if_neg h0t];rfl
      have hdu:=hdr.u h0t;have hdv:=hdr.v h0t;obtain ⟨bt,ot,hadr,hrT⟩:=aE.all hTk om;obtain ⟨sb,so,hsa,hrS⟩:=aE.all hPk.1 om;have hcn0:=iB hio hrg.2.1;obtain ⟨cb,co,hca,hrC⟩:=aE.all hPk.2 om;have hrT2:∀ s,s < r.tab.length->bG w bt (ot+s*2) [.int .i64 (tbS r s),.int .i64 (tbT r s)]:=fun s h=>by
       have h1:=hrT s h;rw [show r.tab[s]=(tbS r s,tbT r s) from by rw [tbS,tbT,gD,gE h];rfl] at h1
       exact h1
      have hrS2:∀ s,s < p.st.length->bG w sb (so+s*3) (qV (rQ (uP p s))):=fun s h=>by
       have h1:=hrS s h;rw [EX h hw3] at h1;exact h1
      have hrC2:∀ s,s < p.cl.length->bG w cb (co+s*3) (qV (rQ (vP p s))):=fun s h=>by
       have h1:=hrC s h;rw [EY h hw4] at h1;exact h1
      rw [hadr] at hrk;rw [hsa,hca] at hpk;have ihk:=fun h=>ihk h
      rw [hvg] at ihk;clear hB hf hTk hPk hwl hdr hvr hrT hrS hrC hw3 hw4 htb hts hvg;repeat' first|(refine gp ?_;and_intros<;>first|exact trivial|repeat first|intro(Bk:Nat)|intro h)|(apply G.ld;rfl;(apply LdV.one;apply aC.blk;exact mm;exact hdT);rfl)
      obtain ⟨B19,rfl⟩:∃ x,x=Bk:=⟨_,rfl⟩;refine J.loop (c:=_) ((0,s):Nat×Rat) (fun x=>(aD r l).length-x.1) (fun x=>[(1,.slice b l.length d),(2,.slice (some ⟨bp,op,none⟩) ps.length pc),(8,.pointer (some ⟨B8,0,none⟩)),(11,.slice (some ⟨gv,0,none⟩) rs.length kv),(16,.func (.func (isF t)) #[] #[]),(17,.pointer (some ⟨B17,0,none⟩)),(18,.int .i64 k),(19,.pointer (some ⟨B19,0,none⟩)),(69,.slice (some ⟨ba,oa,none⟩) rs.length c),(70,.int .i64 rs.length),(71,.int .i64 k),(79,.slice (some ⟨kb,ko,none⟩) (aD r l).length kc),(80,.int .i64 (aD r l).length),(81,.int .i64 x.1)]) (fun x=>.blk B19 67 [.int .i64 r.from_,.int .i64 r.to_,.slice (some ⟨bt,ot,none⟩) r.tab.length r.cap,.int .i64 r.lo,.int .i64 r.hi] 5::.blk B17 25 (qW x.2) 3::.blk gv 82 (flat clS T) (kv*1)::.blk B8 25 [.bool false,.string (bs []),.string (bs [])] 3::(rws (clF w.heap.size) T++[])) (fun x=>x.1<=(aD r l).length/\x.2=s+rS' (fun c=>(aT r l c:Rat)*vP p c) x.1/\bD D B (2*tk+(iS (aT r l) x.1).toNat) x.2/\∀ i j,i < r.tab.length->j < x.1->sgR t (uP p i+vP p j)<=sgR t (gT l r i j)) ?_ sbT sbL ?_
      ·exact ⟨Nat.zero_le _,(Rat.add_zero s).symm,hso,fun i j _ h=>absurd h (Nat.not_lt_zero _)⟩
      clear hso;intro ⟨v,s3⟩ ⟨hvn,hs3,hso3,hce⟩ ihv;dsimp only at hvn hs3 hso3 hce ⊢;by_cases hvv:v < (aD r l).length
      ·clear ihk
       have hx:=iH hvv;have hT0:=Int.le_of_lt (hTc v hvv);have hT2:=(hTb v hvv).2;have hnn:=qI (f:=aT r l) (n:=v) fun i hi=>Int.le_of_lt (hTc i om)
       have hle:iS (aT r l) (v+1)<=r.to_-r.from_:=by
        rw [<- hTs];exact wW (fun i hi=>Int.le_of_lt (hTc i hi)) hvv
       have hst:iS (aT r l) (v+1)=iS (aT r l) v+aT r l v:=rfl;have hto:(iS (aT r l) (v+1)).toNat=(iS (aT r l) v).toNat+(aT r l v).toNat:=by rw [hst,Int.toNat_add hnn hT0]
       have hok1:=Bg (hdv v hvv) hT0;have hok2:=hso3.add hok1;have hrv:=hrC2 v om;have ihv:=fun (h:∀ i,i < r.tab.length->sgR t (uP p i+vP p v)<=sgR t (gT l r i v))=>ihv (v+1,s3+(aT r l v:Rat)*vP p v) ⟨hvv,by dsimp only;rw [hs3,rS',Rat.add_assoc],by dsimp only;rw [hto];exact hok2.le om,fun i j hi hj=>by
        dsimp only at hj;by_cases e:j=v
        ·subst e;exact h i hi
        ·exact hce i j hi om⟩ (by dsimp only;omega)
       dsimp only at ihv;clear hs3 hce;repeat' first|(refine gp ?_;and_intros<;>first|exact trivial|repeat first|intro(Bk:Nat)|intro h)|(apply G.ld;rfl;exact LdV.Qw (f:=hoV) (N:=w.heap.size) (.agg #[.int .i64 (aG r l v),.int .i64 (aT r l v)]) hx (by (repeat (first|exact hmT _|apply List.Mem.tail))) rfl rfl;rfl)
       obtain ⟨B21,rfl⟩:∃ x,x=Bk:=⟨_,rfl⟩;refine J.loop (c:=_) (0:Nat) (fun x=>r.tab.length-x) (fun x=>[(1,.slice b l.length d),(2,.slice (some ⟨bp,op,none⟩) ps.length pc),(8,.pointer (some ⟨B8,0,none⟩)),(11,.slice (some ⟨gv,0,none⟩) rs.length kv),(16,.func (.func (isF t)) #[] #[]),(17,.pointer (some ⟨B17,0,none⟩)),(18,.int .i64 k),(19,.pointer (some ⟨B19,0,none⟩)),(20,.int .i64 v),(21,.pointer (some ⟨B21,0,none⟩)),(69,.slice (some ⟨ba,oa,none⟩) rs.length c),(70,.int .i64 rs.length),(71,.int .i64 k),(79,.slice (some ⟨kb,ko,none⟩) (aD r l).length kc),(80,.int .i64 (aD r l).length),(81,.int .i64 v),(102,.slice (some ⟨bt,ot,none⟩) r.tab.length r.cap),(103,.int .i64 r.tab.length),(104,.int .i64 x)]) (fun x=>.blk B21 90 [.int .i64 (aG r l v),.int .i64 (aT r l v)] 2::.blk B19 67 [.int .i64 r.from_,.int .i64 r.to_,.slice (some ⟨bt,ot,none⟩) r.tab.length r.cap,.int .i64 r.lo,.int .i64 r.hi] 5::.blk B17 25 (qW s3) 3::.blk gv 82 (flat clS T) (kv*1)::.blk B8 25 [.bool false,.string (bs []),.string (bs [])] 3::(rws (clF w.heap.size) T++[])) (fun x=>x<=r.tab.length/\∀ i,i < x->sgR t (uP p i+vP p v)<=sgR t (gT l r i v)) ?_ sbT sbL ?_
       ·exact ⟨Nat.zero_le _,fun i h=>absurd h (Nat.not_lt_zero _)⟩
       intro u ⟨hun,hcu⟩ ihu;by_cases huu:u < r.tab.length
       ·clear ihv
        have hrt:=hrT2 u huu;have hru:=hrS2 u om;have hra:=hra v hvv u huu;rw [<- hgt] at hra;have b1:=hDK.big (hdu u huu) dc;have b2:=hDK.big (hdv v hvv) dc;have b3:=hDK.big ((hdu u huu).add (hdv v hvv)) dc;have hpl:=fun (M:List Row) w' (hw':Sat w M w') Bq Eq tq hm=>Mc (B:=Bq) (E:=Eq) (tot:=tq) hw' rfl rfl b1 b2 b3 hm
        have b4:big (gT l r u v):=by rw [hgt];exact aH.big (hgf v u huu) dc
        have his:=yW t b4 b3;have ihu:=fun h=>ihu (u+1) ⟨huu,fun i hi=>by
         by_cases e:i=u
         ·subst e;exact h
         ·exact hcu i om⟩ om
        have hbad:sgR t (gT l r u v) < sgR t (uP p u+vP p v)->bF t rs l ps=(aY,22):=fun h=>hcf (by
         cases hb:dJ t l r p with
         | false=>rfl
         | true=>exact absurd (hci.1 hb h0t u v huu hvv) (Rat.not_le.2 h))
        clear b1 b2 b3 b4 hok1 hok2 hso3 hdu hdv hrT2 hrS2 hrC2 hgf hgt hcu hci hcf htT htT2 hDK;by_cases hlt:sgR t (gT l r u v) < sgR t (uP p u+vP p v)
        ·rw [hbad hlt]
         rw [dT hlt] at his;clear ihu hbad hlt;dsimp only [qV,qW] at hru hrv ⊢;generalize rQ (uP p u+vP p v)=q1 at *;generalize rQ (uP p u)=q2 at *;generalize rQ (vP p v)=q3 at *;generalize rQ (gT l r u v)=q4 at *;generalize rQ s3=q5 at *;obtain ⟨n1,u1,d1⟩:=q1;obtain ⟨n2,u2,d2⟩:=q2;obtain ⟨n3,u3,d3⟩:=q3;obtain ⟨n4,u4,d4⟩:=q4;dsimp only [qA] at hra his hpl hru hrv ⊢;repeat' first|(refine gp ?_;and_intros<;>first|exact trivial|repeat first|intro(Bk:Nat)|intro h)|(apply J.Py (.q 0 <| .q 1 <| .q 2 <| .q 3 <| .q 4 <| .q 5 <| .q 6 <| .q 7 <| .q 8 <| .q 9 <| .q 10 <| .q 11 <| .q 12 <| .q 13 <| .q 14 <| .q 15 <| .q 16 <| .q 17 <| .q 18 <| .q 19 <| .q 20 <| .q 21 <| .e 22 <| .q 23 <| .q 24 <| .nil);exact Tryz.Pr;decide +kernel)|(apply G.cV (g:=43);rfl;rfl;exact fun w' hw=>hra w' hw.below)|(apply G.Pu;rfl;rfl;rfl;rfl;rfl;rfl;rfl;rfl;intro Bs)|(apply G.cV (g:=40);rfl;rfl;exact fun w' hw'=>hpl _ w' hw' _ _ _ (by exact mm))|(apply G.cF (g:=isF t);rfl;rfl;rfl;exact fun w' _=>his w')
         all_goals exact hU Tryz.func11 Tryz.results11 rfl
        ·have ihu:=ihu (Rat.not_lt.1 hlt)
         rw [dF hlt] at his;clear hbad hlt;dsimp only [qV,qW] at hru hrv ihu ⊢;generalize rQ (uP p u+vP p v)=q1 at *;generalize rQ (uP p u)=q2 at *;generalize rQ (vP p v)=q3 at *;generalize rQ (gT l r u v)=q4 at *;generalize rQ s3=q5 at *;obtain ⟨n1,u1,d1⟩:=q1;obtain ⟨n2,u2,d2⟩:=q2;obtain ⟨n3,u3,d3⟩:=q3;obtain ⟨n4,u4,d4⟩:=q4;dsimp only [qA] at hra his hpl hru hrv ihu ⊢;repeat' first|(refine gp ?_;and_intros<;>first|exact trivial|repeat first|intro(Bk:Nat)|intro h)|(apply J.Py (.q 0 <| .q 1 <| .q 2 <| .q 3 <| .q 4 <| .q 5 <| .q 6 <| .q 7 <| .q 8 <| .q 9 <| .q 10 <| .q 11 <| .q 12 <| .q 13 <| .q 14 <| .q 15 <| .q 16 <| .q 17 <| .q 18 <| .q 19 <| .q 20 <| .q 21 <| .e 22 <| .q 23 <| .q 24 <| .nil);exact Tryz.Pr;decide +kernel)|(apply G.cV (g:=43);rfl;rfl;exact fun w' hw=>hra w' hw.below)|(apply G.Pu;rfl;rfl;rfl;rfl;rfl;rfl;rfl;rfl;intro Bs)|(apply G.cV (g:=40);rfl;rfl;exact fun w' hw'=>hpl _ w' hw' _ _ _ (by exact mm))|(apply G.cF (g:=isF t);rfl;rfl;rfl;exact fun w' _=>his w')
         exact J.P1 ihu
       ·obtain rfl:u=r.tab.length:=by omega
        have ihv:=ihv hcu;clear ihu hcu;have htm:=wT (n:=aT r l v) (x:=vP p v) om om (hDK.big (hdv v hvv) dc);have b1:=hDK.big hso3 om;have b2:=hDK.big hok1 om;have b3:=hDK.big hok2 om;have hpl:=fun (M:List Row) w' (hw':Sat w M w') Bq Eq tq hm=>Mc (B:=Bq) (E:=Eq) (tot:=tq) hw' rfl rfl b1 b2 b3 hm
        clear b1 b2 b3 hok1 hok2 hso3 hdu hdv hrT2 hrS2 hrC2 hgf hgt hci hcf htT htT2 hDK hra;dsimp only [qV,qW] at hrv ihv ⊢;generalize rQ (s3+(aT r l v:Rat)*vP p v)=q1 at *;generalize rQ ((aT r l v:Rat)*vP p v)=q2 at *;generalize rQ s3=q3 at *;generalize rQ (vP p v)=q4 at *;obtain ⟨n1,u1,d1⟩:=q1;obtain ⟨n2,u2,d2⟩:=q2;obtain ⟨n3,u3,d3⟩:=q3;obtain ⟨n4,u4,d4⟩:=q4;dsimp only [qA] at htm hpl hrv ihv ⊢;repeat' first|(refine gp ?_;and_intros<;>first|exact trivial|repeat first|intro(Bk:Nat)|intro h)|(apply J.Py (.q 0 <| .q 1 <| .q 2 <| .q 3 <| .q 4 <| .q 5 <| .q 6 <| .q 7 <| .q 8 <| .q 9 <| .q 10 <| .q 11 <| .r 12 <| .q 13 <| .r 14 <| .nil);exact Tryz.Pr;decide +kernel)|(apply G.cV (g:=41);rfl;rfl;exact fun w' _=>htm w')|(apply G.Pu;rfl;rfl;rfl;rfl;rfl;rfl;rfl;rfl;intro Bs)|(apply G.cV (g:=40);rfl;rfl;exact fun w' hw'=>hpl _ w' hw' _ _ _ (by exact mm))
        exact J.P1 ihv
      ·obtain rfl:v=(aD r l).length:=by omega
       clear ihv;have ihk:=ihk (hci.2 fun _ s c h1 h2=>hce s c h1 h2)
       rw [hTs] at hso3;clear hce hcf hci hra hgf hgt;all_goals (refine go ?_;and_intros<;>first|exact trivial|repeat first|intro(Bk:Nat)|intro h)
       refine J.loop (c:=_) ((0,s3):Nat×Rat) (fun x=>r.tab.length-x.1) (fun x=>[(1,.slice b l.length d),(2,.slice (some ⟨bp,op,none⟩) ps.length pc),(8,.pointer (some ⟨B8,0,none⟩)),(11,.slice (some ⟨gv,0,none⟩) rs.length kv),(16,.func (.func (isF t)) #[] #[]),(17,.pointer (some ⟨B17,0,none⟩)),(18,.int .i64 k),(69,.slice (some ⟨ba,oa,none⟩) rs.length c),(70,.int .i64 rs.length),(71,.int .i64 k),(152,.slice (some ⟨bt,ot,none⟩) r.tab.length r.cap),(153,.int .i64 r.tab.length),(154,.int .i64 x.1)]) (fun x=>.blk B17 25 (qW x.2) 3::.blk gv 82 (flat clS T) (kv*1)::.blk B8 25 [.bool false,.string (bs []),.string (bs [])] 3::(rws (clF w.heap.size) T++[])) (fun x=>x.1<=r.tab.length/\x.2=s3+rS' (fun i=>(tbT r i:Rat)*uP p i) x.1/\bD D B (2*tk+(r.to_-r.from_).toNat+(iS (tbT r) x.1).toNat) x.2) ?_ sbT sbL ?_
       ·exact ⟨Nat.zero_le _,(Rat.add_zero s3).symm,hso3⟩
       clear hso3;intro ⟨u,s4⟩ ⟨hun,hs4,hso4⟩ ihu;dsimp only at hun hs4 hso4 ⊢;by_cases huu:u < r.tab.length
       ·clear ihk
        have hrt:=hrT2 u huu;have hrs:=hrS2 u om;have hT0:=htT u huu;have hT2:=htT2 u huu;have hnn:=qI (f:=tbT r) (n:=u) fun i hi=>htT i om
        have hle:iS (tbT r) (u+1)<=r.to_-r.from_:=by
         rw [<- htS];exact wW htT huu
        have hok1:=Bg (hdu u huu) hT0;have hok2:=hso4.add hok1;have hst:iS (tbT r) (u+1)=iS (tbT r) u+tbT r u:=rfl;have hto:(iS (tbT r) (u+1)).toNat=(iS (tbT r) u).toNat+(tbT r u).toNat:=by rw [hst,Int.toNat_add hnn hT0]
        have htm:=wT (n:=tbT r u) (x:=uP p u) om om (hDK.big (hdu u huu) dc);have b1:=hDK.big hso4 om;have b2:=hDK.big hok1 om;have b3:=hDK.big hok2 om;have hpl:=fun (M:List Row) w' (hw':Sat w M w') Bq Eq tq hm=>Mc (B:=Bq) (E:=Eq) (tot:=tq) hw' rfl rfl b1 b2 b3 hm
        have ihu:=ihu (u+1,s4+(tbT r u:Rat)*uP p u) ⟨huu,by dsimp only;rw [hs4,rS',Rat.add_assoc],by dsimp only;rw [hto];exact hok2.le om⟩ (by dsimp only;omega)
        dsimp only at ihu;clear b1 b2 b3 hok1 hok2 hso4 hs4 hs3 hdu hdv hrT2 hrS2 hrC2 htT htT2 hDK;dsimp only [qW,qV] at hrs ihu ⊢;generalize rQ (s4+(tbT r u:Rat)*uP p u)=q1 at *;generalize rQ ((tbT r u:Rat)*uP p u)=q2 at *;generalize rQ s4=q3 at *;generalize rQ (uP p u)=q4 at *;obtain ⟨n1,u1,d1⟩:=q1;obtain ⟨n2,u2,d2⟩:=q2;obtain ⟨n3,u3,d3⟩:=q3;obtain ⟨n4,u4,d4⟩:=q4;dsimp only [qA] at htm hpl hrs ihu ⊢;repeat' first|(refine gp ?_;and_intros<;>first|exact trivial|repeat first|intro(Bk:Nat)|intro h)|(apply J.Py (.q 0 <| .q 1 <| .q 2 <| .q 3 <| .q 4 <| .q 5 <| .q 6 <| .q 7 <| .q 8 <| .q 9 <| .q 10 <| .q 11 <| .r 12 <| .q 13 <| .r 14 <| .nil);exact Tryz.Pr;decide +kernel)|(apply G.cV (g:=41);rfl;rfl;exact fun w' _=>htm w')|(apply G.Pu;rfl;rfl;rfl;rfl;rfl;rfl;rfl;rfl;intro Bs)|(apply G.cV (g:=40);rfl;rfl;exact fun w' hw'=>hpl _ w' hw' _ _ _ (by exact mm))
        exact J.P1 ihu
       ·obtain rfl:u=r.tab.length:=by omega
        clear ihu;rw [Rat.add_comm (rS' _ r.tab.length),<- Rat.add_assoc,<- hs3,<- hs4] at ihk;all_goals (refine go ?_;and_intros<;>first|exact trivial|repeat first|intro(Bk:Nat)|intro h)
        exact J.P1 ihk
    ·obtain rfl:k=rs.length:=by omega
     rw [List.take_length,List.take_of_length_le om] at hsv;rw [hvo fun i h1 h2=>hcw i h1 h2 h1,<- hsv]
     clear ihk hvo hcf hcw hsv hso;dsimp only [qW,qV];generalize rQ s=q1;obtain ⟨n1,u1,d1⟩:=q1;all_goals (refine go ?_;and_intros<;>first|exact trivial|repeat first|intro(Bk:Nat)|intro h)
     all_goals exact hU Tryz.func11 Tryz.results11 rfl
  ·have e:bF t rs l ps=(aY,1):=by
    unfold bF;rw [if_neg (fun h=>h h0),if_pos hne]
   rw [e];rw [h0] at hck;clear hA hB hM hP hfp hD e;refine aB [(0,.slice a rs.length c),(1,.slice b l.length d),(2,.slice pa ps.length pc),(3,.bool t)] Tryz.func11 Tryz.ntmps11 ?_;repeat' first|(refine gp ?_;and_intros<;>first|exact trivial|repeat first|intro(Bk:Nat)|intro h)|(apply G.cV (g:=36);rfl;rfl;exact fun w' hw=>hck w' hw.below)
   all_goals exact hU Tryz.func11 Tryz.results11 rfl
 ·have e:bF t rs l ps=(aY,cU rs l):=by
   unfold bF;rw [if_pos h0]
  rw [e];clear hA hB hM hP hfp hD e;generalize cU rs l=E at *;refine aB [(0,.slice a rs.length c),(1,.slice b l.length d),(2,.slice pa ps.length pc),(3,.bool t)] Tryz.func11 Tryz.ntmps11 ?_;repeat' first|(refine gp ?_;and_intros<;>first|exact trivial|repeat first|intro(Bk:Nat)|intro h)|(apply G.cV (g:=36);rfl;rfl;exact fun w' hw=>hck w' hw.below)
  all_goals exact hU Tryz.func11 Tryz.results11 rfl
structure ShM where
 la:Option Addr
 lc:Nat
 ha:Option Addr
 hc:Nat
 pa:Option Addr
 pc:Nat
 qa:Option Addr
 qc:Nat
def shA (s:Shp) (m:ShM):Value:=.agg #[.bool s.lo.neg,.string (bs s.lo.num),.string (bs s.lo.den),.bool s.hi.neg,.string (bs s.hi.num),.string (bs s.hi.den),.int .i64 s.lf,.slice m.la s.ls.length m.lc,.int .i64 s.hf,.slice m.ha s.hs.length m.hc,.slice m.pa s.lp.length m.pc,.slice m.qa s.hp.length m.qc]
set_option maxHeartbeats 8000000 in
theorem DE (a:Option Addr) (rs:List Rn) (c:Nat) (b:Option Addr) (l:List Spn) (d:Nat) (s:Shp) (m:ShM) (w:World)
  (hv1:∀ w',Below w.heap.size w w'->CR 11 #[.slice a rs.length c,.slice b l.length d,.slice m.pa s.lp.length m.pc,.bool false] w' (.tuple #[qA (bF false rs l s.lp).1,.int .i64 (bF false rs l s.lp).2]))
  (hv2:∀ w',Below w.heap.size w w'->CR 11 #[.slice a rs.length c,.slice b l.length d,.slice m.qa s.hp.length m.qc,.bool true] w' (.tuple #[qA (bF true rs l s.hp).1,.int .i64 (bF true rs l s.hp).2]))
  (hf1:aH 60000000 (bF false rs l s.lp).1) (hf2:aH 60000000 (bF true rs l s.hp).1) (hf3:aH 60000000 s.lo) (hf4:aH 60000000 s.hi) :
  CR 13 #[.slice a rs.length c,.slice b l.length d,shA s m] w (.bool (lV rs l s)):=by
 have hc1:=fun w'=>kS (bF false rs l s.lp).1 s.lo w' (by have:=hf1.1;omega) (by have:=hf1.2;omega) (by have:=hf3.1;omega) (by have:=hf3.2;omega)
 have hc2:=fun w'=>kS (bF true rs l s.hp).1 s.hi w' (by have:=hf2.1;omega) (by have:=hf2.2;omega) (by have:=hf4.1;omega) (by have:=hf4.2;omega)
 unfold lV shA;obtain ⟨lo,hi,lf,ls,hf,hs,lp,hp⟩:=s;obtain ⟨la,lc,ha,hc,pa,pc,qa,qc⟩:=m;dsimp only at *;clear hf1 hf2 hf3 hf4;generalize dR (qR (bF false rs l lp).1-qR lo)=g1 at *;generalize dR (qR (bF true rs l hp).1-qR hi)=g2 at *;generalize bF false rs l lp=x1 at *;generalize bF true rs l hp=x2 at *;generalize ls.length=ll at *;generalize hs.length=hl at *;generalize lp.length=pl at *;generalize hp.length=ql at *;obtain ⟨⟨u3,n3,d3⟩,e1⟩:=x1;obtain ⟨⟨u4,n4,d4⟩,e2⟩:=x2;obtain ⟨u1,n1,d1⟩:=lo;obtain ⟨u2,n2,d2⟩:=hi;dsimp only [qA] at hv1 hv2 hc1 hc2 ⊢;by_cases h1:e1=0;all_goals by_cases h2:e2=0
 all_goals by_cases h3:0<=g1
 all_goals by_cases h4:g2<=0
 all_goals
  refine aB [(0,.slice a rs.length c),(1,.slice b l.length d),(2,.agg #[.bool u1,.string (bs n1),.string (bs d1),.bool u2,.string (bs n2),.string (bs d2),.int .i64 lf,.slice la ll lc,.int .i64 hf,.slice ha hl hc,.slice pa pl pc,.slice qa ql qc])] Tryz.func13 Tryz.ntmps13 ?_;repeat' first|(refine gp ?_;and_intros<;>first|exact trivial|repeat first|intro(Bk:Nat)|intro h)|(apply G.cV (g:=11) (d:=16);rfl;rfl;exact fun w' hw=>hv1 w' hw.below)|(apply G.cV (g:=11) (d:=24);rfl;rfl;exact fun w' hw=>hv2 w' hw.below)|(apply G.cV (g:=22) (d:=38);rfl;rfl;exact fun w' _=>hc1 w')|(apply G.cV (g:=22) (d:=46);rfl;rfl;exact fun w' _=>hc2 w')
  all_goals refine aA Tryz.func13 Tryz.results13 ?_
  all_goals exact bL (by simp [h1,h2,h3,h4])
set_option maxHeartbeats 8000000 in
theorem BM (a:Option Addr) (rs:List Rn) (c:Nat) (b:Option Addr) (l:List Spn) (d:Nat) (s:Shp) (m:ShM) (w:World)
  (h1:∀ w',Below w.heap.size w w'->CR 13 #[.slice a rs.length c,.slice b l.length d,shA s m] w' (.bool (lV rs l s)))
  (h2:∀ w',Below w.heap.size w w'->CR 15 #[.slice a rs.length c,.slice b l.length d,shA s m] w' (.bool (sN rs l s))) :
  CR 17 #[.slice a rs.length c,.slice b l.length d,shA s m] w (.bool (AL rs l s)):=by
 unfold AL;generalize lV rs l s=g1 at *;generalize sN rs l s=g2 at *;unfold shA at *;obtain ⟨lo,hi,lf,ls,hf,hs,lp,hp⟩:=s;obtain ⟨la,lc,ha,hc,pa,pc,qa,qc⟩:=m;dsimp only at *;generalize ls.length=ll at *;generalize hs.length=hl at *;generalize lp.length=pl at *;generalize hp.length=ql at *;generalize rs.length=n at *;generalize l.length=nl at *;obtain ⟨u1,n1,d1⟩:=lo;obtain ⟨u2,n2,d2⟩:=hi;cases g1;all_goals cases g2
 all_goals
  refine aB [(0,.slice a n c),(1,.slice b nl d),(2,.agg #[.bool u1,.string (bs n1),.string (bs d1),.bool u2,.string (bs n2),.string (bs d2),.int .i64 lf,.slice la ll lc,.int .i64 hf,.slice ha hl hc,.slice pa pl pc,.slice qa ql qc])] Tryz.func17 Tryz.ntmps17 ?_;repeat' first|(refine gp ?_;and_intros<;>first|exact trivial|repeat first|intro(Bk:Nat)|intro h)|(apply G.cV (g:=13);rfl;rfl;exact fun w' hw=>h1 w' hw.below)|(apply G.cV (g:=15);rfl;rfl;exact fun w' hw=>h2 w' hw.below)
  all_goals exact aA Tryz.func17 Tryz.results17 rfl
set_option maxHeartbeats 8000000 in
theorem Gp (a:Option Addr) (rs:List Rn) (c:Nat) (b:Option Addr) (l:List Spn) (d:Nat) (s:Shp) (m:ShM) (w:World)
  (hck:∀ w',Below w.heap.size w w'->CR 36 #[.slice a rs.length c,.slice b l.length d] w' (.int .i64 (cU rs l)))
  (ha1:∀ w',Below w.heap.size w w'->CR 20 #[.slice a rs.length c,.agg #[.int .i64 s.lf,.slice m.la s.ls.length m.lc]] w' (.bool (dP rs s.lf s.ls)))
  (ha2:∀ w',Below w.heap.size w w'->CR 20 #[.slice a rs.length c,.agg #[.int .i64 s.hf,.slice m.ha s.hs.length m.hc]] w' (.bool (dP rs s.hf s.hs)))
  (hv1:∀ w',Below w.heap.size w w'->CR 21 #[.agg #[.int .i64 s.lf,.slice m.la s.ls.length m.lc],.slice b l.length d] w' (.tuple #[qA (kI s.lf s.ls l).1,.int .i64 (kI s.lf s.ls l).2]))
  (hv2:∀ w',Below w.heap.size w w'->CR 21 #[.agg #[.int .i64 s.hf,.slice m.ha s.hs.length m.hc],.slice b l.length d] w' (.tuple #[qA (kI s.hf s.hs l).1,.int .i64 (kI s.hf s.hs l).2])) :
  CR 15 #[.slice a rs.length c,.slice b l.length d,shA s m] w (.bool (sN rs l s)):=by
 unfold sN shA;obtain ⟨lo,hi,lf,ls,hf,hs,lp,hp⟩:=s;obtain ⟨la,lc,ha,hc,pa,pc,qa,qc⟩:=m;dsimp only at *;generalize cU rs l=E at *;generalize dP rs lf ls=g1 at *;generalize dP rs hf hs=g2 at *;generalize kI lf ls l=x1 at *;generalize kI hf hs l=x2 at *;generalize ls.length=ll at *;generalize hs.length=hl at *;generalize lp.length=pl at *;generalize hp.length=ql at *;generalize rs.length=n at *;generalize l.length=nl at *;obtain ⟨⟨u3,n3,d3⟩,e1⟩:=x1;obtain ⟨⟨u4,n4,d4⟩,e2⟩:=x2;obtain ⟨u1,n1,d1⟩:=lo;obtain ⟨u2,n2,d2⟩:=hi;dsimp only [qA,nE] at hv1 hv2 ⊢;by_cases h0:E=0;all_goals cases g1
 all_goals cases g2
 all_goals by_cases h1:e1=0
 all_goals by_cases h2:e2=0
 all_goals
  refine aB [(0,.slice a n c),(1,.slice b nl d),(2,.agg #[.bool u1,.string (bs n1),.string (bs d1),.bool u2,.string (bs n2),.string (bs d2),.int .i64 lf,.slice la ll lc,.int .i64 hf,.slice ha hl hc,.slice pa pl pc,.slice qa ql qc])] Tryz.func15 Tryz.ntmps15 ?_;repeat' first|(refine gp ?_;and_intros<;>first|exact trivial|repeat first|intro(Bk:Nat)|intro h)|(apply G.cV (g:=36);rfl;rfl;exact fun w' hw=>hck w' hw.below)|(apply G.cV (g:=20) (d:=19);rfl;rfl;exact fun w' hw=>ha1 w' hw.below)|(apply G.cV (g:=20) (d:=26);rfl;rfl;exact fun w' hw=>ha2 w' hw.below)|(apply G.cV (g:=21) (d:=33);rfl;rfl;exact fun w' hw=>hv1 w' hw.below)|(apply G.cV (g:=21) (d:=40);rfl;rfl;exact fun w' hw=>hv2 w' hw.below)|(apply G.PK ⟨u3,n3,d3⟩ ⟨u1,n1,d1⟩ (d:=54);rfl;rfl;rfl;all_goals intro hq1)|(apply G.PK ⟨u4,n4,d4⟩ ⟨u2,n2,d2⟩ (d:=61);rfl;rfl;rfl;all_goals intro hq2)
  all_goals refine aA Tryz.func15 Tryz.results15 ?_
  all_goals exact bL (by simp_all)
theorem bD.scale {D B n:Nat}{x:Rat} (h:bD D B n x) (E:Nat):bD (D*E) (B*E) n x:=by
 obtain ⟨N,h1,h2⟩:=h;refine ⟨N*(E:Int),?_,?_⟩
 ·rw [Int.natCast_mul,Rat.intCast_mul,Rat.intCast_mul,<- Rat.mul_assoc,h1]
 ·rw [Int.natAbs_mul,Int.natAbs_natCast,<- Nat.mul_assoc]
  exact Nat.mul_le_mul_right _ h2
theorem bD.addB {D B B':Nat}{x y:Rat} (h:bD D B 1 x) (h2:bD D B' 1 y):bD D (B+B') 1 (x+y):=by
 obtain ⟨N,a1,a2⟩:=h;obtain ⟨M,b1,b2⟩:=h2;refine ⟨N+M,by rw [Rat.add_mul,a1,b1,Rat.intCast_add],?_⟩
 have:=Int.natAbs_add_le N M;omega
theorem bD.mono {D B B' n:Nat}{x:Rat} (h:bD D B n x) (hB:B<=B'):bD D B' n x:=by
 obtain ⟨N,a1,a2⟩:=h;exact ⟨N,a1,Nat.le_trans a2 (Nat.mul_le_mul_left _ hB)⟩
theorem bD.neg {D B n:Nat}{x:Rat} (h:bD D B n x):bD D B n (-x):=by
 obtain ⟨N,a1,a2⟩:=h;exact ⟨-N,by rw [Rat.neg_mul,a1,Rat.intCast_neg],by rw [Int.natAbs_neg];exact a2⟩
theorem bD.sgR {D B n:Nat}{x:Rat}{t:Bool} (h:bD D B n x):bD D B n (sgR t x):=by
 cases t
 ·exact h
 ·exact h.neg
theorem sO.scale {t:Bool}{l:List Spn}{D B:Nat}{r:Rn}{p:Prf} (h:sO t l D B r p) (E:Nat):sO t l (D*E) (B*E) r p :=
 ⟨fun a s b=>(h.u a s b).scale E,fun a c b=>(h.v a c b).scale E,fun a c b=>(h.g a c b).scale E,h.f⟩
theorem DF {t:Bool}{l:List Spn}{k m:Nat}:∀ {ys:List (Rn×Prf)},(∀ y∈ys,∃ D,0 < D/\D<=256 ^ k/\sO t l D (D*256 ^ m) y.1 y.2)->∃ D,0 < D/\D<=256 ^ (k*ys.length)/\∀ y∈ys,sO t l D (D*256 ^ m) y.1 y.2
 | [],_=>⟨1,Nat.one_pos,Nat.pow_pos dc,fun y hy=>absurd hy List.not_mem_nil⟩
 | y::ys,h=>by
  obtain ⟨D,d0,d1,d2⟩:=h y (List.mem_cons_self ..);obtain ⟨E,e0,e1,e2⟩:=DF (ys:=ys) fun z hz=>h z (mC _ hz)
  refine ⟨D*E,Nat.mul_pos d0 e0,?_,fun z hz=>?_⟩
  ·rw [List.length_cons,Nat.mul_succ,Nat.pow_add,Nat.mul_comm D E]
   exact Nat.mul_le_mul e1 d1
  ·rcases List.mem_cons.1 hz with rfl|hz
   ·have:=d2.scale E
    rwa [Nat.mul_right_comm] at this
   ·have:=(e2 z hz).scale D
    rwa [Nat.mul_right_comm,Nat.mul_comm E D] at this
theorem H8 {D k m n:Nat} (h0:0 < D) (h:D<=256 ^ (k*n)) (hk:k*n+m+3<=50000000):Bc D (D*256 ^ m) (k*n+m+3):=by
 refine ⟨h0,Nat.lt_of_le_of_lt h (Nat.pow_lt_pow_right dc om),?_,hk⟩;rw [Nat.pow_add,Nat.pow_add];generalize hX:256 ^ (k*n)=X at *;have hY:0 < 256 ^ m:=Nat.pow_pos dc;generalize 256 ^ m=Y at *;have h1:D*Y<=X*Y:=Nat.mul_le_mul_right _ h;have h2:0 < X*Y:=Nat.mul_pos (Nat.lt_of_lt_of_le h0 h) hY;have h3:(256:Nat) ^ 3=16777216:=by decide
 rw [h3];generalize D*Y=p at *;generalize X*Y=q at *;omega
theorem DG {x:Rat}{D m:Nat} (hd:x.den ∣ D) (h0:0 < D) (hf:aH m (rQ x)):bD D (D*256 ^ m) 1 x:=by
 obtain ⟨h1,_⟩:=rV hf;obtain ⟨e,rfl⟩:=hd;refine ⟨x.num*(e:Int),?_,?_⟩
 ·rw [Int.natCast_mul,Rat.intCast_mul,Rat.intCast_mul,<- Rat.mul_assoc,FY]
 ·rw [Int.natAbs_mul,Int.natAbs_natCast,Nat.one_mul,Nat.mul_comm x.num.natAbs e]
  exact Nat.mul_le_mul (Nat.le_mul_of_pos_left _ x.den_pos) h1
theorem DH {a b:Nat} (h:a<=b):(256:Nat) ^ a<=256 ^ b:=Nat.pow_le_pow_right dc h
theorem H9 {t:Bool}{l:List Spn}{r:Rn}{p:Prf}{k e m:Nat} (hk:k<=140) (he:4340<=e) (hm:140<=m) (hr:OkR r) (hf:∀ s∈l,fewS s) (hR:∀ s∈l,aQ s) (hc:(aD r l).length<=31) (hw:bP l r p=true) (hs:(p.st++p.cl).length<=30/\∀ q∈p.st++p.cl,aH k q) :
  ∃ D,0 < D/\D<=256 ^ e/\sO t l D (D*256 ^ m) r p:=by
 by_cases h0:r.tab.length=0
 ·have hg:=hr.gap h0
  have hgf:∀ c,aH 140 (rQ (gV t l r c)):=fun c=>C5 hf hR ⟨hg.1,by omega⟩ ⟨by omega,hg.2.2⟩
  have hpos:0 < pN (fun c=>(gV t l r c).den) (aD r l).length:=wS fun c _=>(gV t l r c).den_pos
  refine ⟨_,hpos,?_,fun h=>absurd h0 h,fun h=>absurd h0 h,fun _ c hc=>DG (qN (fun c=>(gV t l r c).den) hc) hpos (aF (hgf c) hm),?_⟩
  ·refine Nat.le_trans (Ct (B:=256 ^ 140) fun c _=>(rV (hgf c)).2) ?_
   rw [<- Nat.pow_mul];exact DH om
  ·unfold bP at hw
   rw [if_pos h0,decide_eq_true_eq] at hw;have e1:p.st=[]:=List.length_eq_zero_iff.1 om;have e2:p.cl=[]:=List.length_eq_zero_iff.1 om;unfold EV;rw [e1,e2];exact ⟨fun a ha=>absurd ha List.not_mem_nil,fun a ha=>absurd ha List.not_mem_nil⟩
 ·obtain ⟨w1,w2,w3,w4⟩:=(nT h0).1 hw
  obtain ⟨s1,s2⟩:=hs;rw [List.length_append] at s1;have hu:∀ s,s < p.st.length->aH k (rQ (uP p s)):=fun s h=>by
   rw [<- EX h w3];exact s2 _ (List.mem_append_left _ (gM h))
  have hv:∀ c,c < p.cl.length->aH k (rQ (vP p c)):=fun c h=>by
   rw [<- EY h w4];exact s2 _ (List.mem_append_right _ (gM h))
  have p1:0 < pN (fun s=>(uP p s).den) p.st.length:=wS fun s _=>(uP p s).den_pos
  have p2:0 < pN (fun c=>(vP p c).den) p.cl.length:=wS fun c _=>(vP p c).den_pos
  have hpos:=Nat.mul_pos p1 p2;refine ⟨pN (fun s=>(uP p s).den) p.st.length*pN (fun c=>(vP p c).den) p.cl.length,hpos,?_,fun _ s h=>DG (Nat.dvd_trans (qN (fun s=>(uP p s).den) (show s < p.st.length by omega)) (Nat.dvd_mul_right _ _)) hpos (aF (hu s om) om),fun _ c h=>DG (Nat.dvd_trans (qN (fun c=>(vP p c).den) (show c < p.cl.length by omega)) (Nat.dvd_mul_left _ _)) hpos (aF (hv c om) om),fun h=>absurd h h0,fun a ha=>aF (s2 a (List.mem_append_left _ ha)) om,fun a ha=>aF (s2 a (List.mem_append_right _ ha)) om⟩
  have q1:=Ct (B:=256 ^ k) (f:=fun s=>(uP p s).den) (n:=p.st.length) fun s h=>(rV (hu s h)).2
  have q2:=Ct (B:=256 ^ k) (f:=fun c=>(vP p c).den) (n:=p.cl.length) fun c h=>(rV (hv c h)).2
  refine Nat.le_trans (Nat.mul_le_mul q1 q2) ?_;rw [<- Nat.pow_mul,<- Nat.pow_mul,<- Nat.pow_add,<- Nat.mul_add];have:=Nat.mul_le_mul hk s1;exact DH om
theorem I6 {t:Bool}{l:List Spn}{rs:List Rn}{ps:List Prf}{k:Nat} (hk:k<=140) (hM:Mod rs l) (h0:cU rs l=0) (hw:∀ x∈rs.zip ps,bP l x.1 x.2=true) (hs:∀ p∈ps,(p.st++p.cl).length<=30/\∀ q∈p.st++p.cl,aH k q) :
  ∃ D B K,Bc D B K/\∀ y∈rs.zip ps,sO t l D B y.1 y.2:=by
 obtain ⟨_,_,hR,_,hok⟩:=dY h0;obtain ⟨e,he⟩:∃ e,e=4340:=⟨_,rfl⟩;obtain ⟨m,hm⟩:∃ m,m=140:=⟨_,rfl⟩;obtain ⟨D,d0,d1,d2⟩:=DF (t:=t) (l:=l) (k:=e) (m:=m) (ys:=rs.zip ps) fun y hy =>
  H9 hk om om (hok _ (List.of_mem_zip hy).1) hM.few hR (hM.cls h0 _ (List.of_mem_zip hy).1) (hw y hy) (hs _ (List.of_mem_zip hy).2)
 have hn:(rs.zip ps).length<=64:=by
  rw [List.length_zip];have:=hM.len;omega
 refine ⟨D,D*256 ^ m,e*(rs.zip ps).length+m+3,H8 d0 d1 ?_,d2⟩;subst he hm;omega
theorem HA {t:Bool}{l:List Spn}{D B:Nat} (hl:aR 0 l):∀ {rs:List Rn}{ps:List Prf},(∀ r∈rs,OkR r)->(∀ y∈rs.zip ps,sO t l D B y.1 y.2)->bD D B (2*fC rs) (eQ t l rs ps)
 | [],ps,_,_=>by
  rw [show eQ t l [] ps=0 from by cases ps<;>rfl]
  exact (bD.zero D B).le (Nat.zero_le _)
 | r::rs,[],_,_=>by
  rw [show eQ t l (r::rs) []=0 from rfl]
  exact (bD.zero D B).le (Nat.zero_le _)
 | r::rs,p::ps,ho,h=>by
  have ih:=HA hl (rs:=rs) (ps:=ps) (fun x hx=>ho x (mC _ hx)) fun y hy=>h y (by rw [List.zip_cons_cons];exact mC _ hy)
  have h1:=DD (ho r (List.mem_cons_self ..)) hl (h (r,p) (by rw [List.zip_cons_cons];exact List.mem_cons_self ..))
  rw [eQ,fC,Nat.mul_add];exact h1.add ih
theorem K5 {t:Bool}{rs:List Rn}{l:List Spn}{ps:List Prf} (h:(bF t rs l ps).2≠0):(bF t rs l ps).1=aY:=by
 unfold bF at h ⊢
 repeat' split
 all_goals first
  | rfl
  | (exfalso;simp_all)
theorem K6 {t:Bool}{rs:List Rn}{l:List Spn}{ps:List Prf}{D B K:Nat} (hD:cU rs l=0->ps.length=rs.length->(∀ x∈rs.zip ps,bP l x.1 x.2=true)->Bc D B K/\∀ y∈rs.zip ps,sO t l D B y.1 y.2):aH 60000000 (bF t rs l ps).1:=by
 by_cases h:(bF t rs l ps).2=0
 ·obtain ⟨c1,c2,c3,_,c5⟩:=qM h
  obtain ⟨h1,h2⟩:=hD c1 c2 c3;obtain ⟨hio,_,_,_,hok⟩:=dY c1;rw [c5];have ht:=qT (fB c1).1;exact aF (h1.few (HA hio hok h2) om) (Nat.le_trans h1.le dc)
 ·rw [K5 h];exact ⟨Nat.zero_le _,Nat.zero_le _⟩
section
variable {t:Bool}{r:Rn}{l:List Spn}{x:Int}{A:List Int}{pi vv:Nat->Rat}
structure qU (t:Bool) (r:Rn) (l:List Spn) (A:List Int) (pi vv:Nat->Rat):Prop where
 inv:mV (aD r l).length (fun a s=>thS r l A a s) (gS t r l) ((dM t r l:Int):Rat) (-(2*((256 ^ 10000000:Nat):Int)*(dM t r l:Int))) pi (fun b=>sgR t (vv b))
 np:∀ b,b < (aD r l).length->sgR t (vv b)<=0
def Ob (t:Bool) (r:Rn) (l:List Spn) (vv:Nat->Rat):Nat:=LI (aD r l).length ((dM t r l:Int):Rat) (-(2*((256 ^ 10000000:Nat):Int)*(dM t r l:Int))) (fun b=>sgR t (vv b))
theorem qU.start (hb:nR t l r A) (h:OkR r) (h0:r.tab.length≠0) (hl:aR x l):∃ pi,qU t r l A pi (fun _=>0):=by
 obtain ⟨pi,h⟩:=Kk hb h h0 hl;exact ⟨pi,by simp only [lU];exact h,fun b _=>by rw [lU];exact Rat.le_refl⟩
theorem DJ:0 < dM t r l:=AE _ _ _
theorem qU.step (h:qU t r l A pi vv) (h0:r.tab.length≠0) (ha:AgP r A) {a b s:Nat} (hac:a < (aD r l).length) (hbc:b < (aD r l).length) (hs:thS r l A a (s:Int)) {y:Rat} (hy:y=vv a+aS l (aG r l b) (s:Int)-aS l (aG r l a) (s:Int)) (hlt:sgR t y < sgR t (vv b)) :
  qU t r l A pi (oO vv b y)/\Ob t r l (oO vv b y) < Ob t r l vv:=by
 have e:sgR t y=sgR t (vv a)+(gS t r l s b-gS t r l s a):=by
  rw [hy,yU,iF];unfold gS;grind
 have hD:(0:Rat) < ((dM t r l:Int):Rat):=Rat.intCast_pos.2 (by have:=DJ (t:=t) (r:=r) (l:=l);omega)
 obtain ⟨p1,p2⟩:=h.inv.step hD (NN h0 ha) hac hbc hs (by rw [<- e];exact hlt)
 have ef:oO (fun b=>sgR t (vv b)) b (sgR t (vv a)+(gS t r l s b-gS t r l s a))=fun c=>sgR t (oO vv b y c):=funext fun c=>by
  unfold oO;split
  ·exact e.symm
  ·rfl
 try dsimp only at p1 p2
 rw [ef] at p1 p2;refine ⟨⟨p1,fun c hc=>?_⟩,p2⟩
 unfold oO;split
 ·exact Rat.le_of_lt (Std.lt_of_lt_of_le hlt (h.np b hbc))
 ·exact h.np c hc
theorem K7 (hf:∀ s∈l,fewS s) (hR:∀ s∈l,aQ s) (ht:∀ s,s < r.tab.length->0<=tbS r s/\tbS r s<=1000) (hn:(aD r l).length<=31) (hS:r.tab.length<=64) {e:Nat} (he:277760<=e):dM t r l<=256 ^ e:=by
 unfold dM;refine Nat.le_trans (LT (B:=256 ^ 140) fun s c hs _=>(rV (nS (dH hf hR (ht s hs)))).2) ?_
 rw [<- Nat.pow_mul];have:=Nat.mul_le_mul hn hS;exact DH om
theorem qU.few (h:qU t r l A pi vv) {e:Nat} (he:e=277760) (hd:dM t r l<=256 ^ e) {b:Nat} (hb:b < (aD r l).length):aH 10300000 (rQ (vv b)):=by
 have h1:aH (e+10000001) (rQ (sgR t (vv b))):=by
  refine LU h.inv DJ ?_ ?_ hb (h.np b hb)
  ·exact Nat.lt_of_le_of_lt hd (Nat.pow_lt_pow_right dc om)
  ·obtain ⟨m,hm⟩:∃ m,m=10000000:=⟨_,rfl⟩
   rw [show e+10000001=e+m+1 by omega,<- hm,Nat.pow_add,Nat.pow_add,Nat.mul_comm 2,Nat.mul_assoc,Nat.mul_comm]
   have hp:0 < 256 ^ e*256 ^ m:=Nat.mul_pos (Nat.pow_pos dc) (Nat.pow_pos dc);have hq:dM t r l*256 ^ m<=256 ^ e*256 ^ m:=Nat.mul_le_mul_right _ hd;have e3:2*dM t r l*256 ^ m=2*(dM t r l*256 ^ m):=Nat.mul_assoc _ _ _;rw [e3];generalize dM t r l*256 ^ m=u at *;generalize 256 ^ e*256 ^ m=v at *;omega
 have h2:=nS (t:=t) h1;rw [oP] at h2;exact aF h2 om
def Gq (t:Bool) (r:Rn) (l:List Spn) (A:List Int) (vv:Nat->Rat):Prop:=∀ a b s,a < (aD r l).length->b < (aD r l).length->thS r l A a s->¬ sgR t (vv a+aS l (aG r l b) s-aS l (aG r l a) s) < sgR t (vv b)
def uU (t:Bool) (r:Rn) (l:List Spn) (vv:Nat->Rat) (s c:Nat):Rat:=sgR t (iO (fun s c=>sgR t (gT l r s c)) (fun c=>sgR t (vv c)) s c)
theorem HB (s:Nat):uU t r l vv s 0=gT l r s 0-vv 0:=by
 unfold uU;rw [iO,<- yU,oP]
theorem HC (s c:Nat):uU t r l vv s (c+1)=if sgR t (gT l r s c-vv c) < sgR t (uU t r l vv s c) then gT l r s c-vv c else uU t r l vv s c:=by
 unfold uU;rw [iO,oP,<- yU];split
 ·rw [oP]
 ·rfl
theorem MW (s n:Nat):∃ c,(c=0∨c < n)/\uU t r l vv s n=gT l r s c-vv c:=by
 induction n with
 | zero=>exact ⟨0,.inl rfl,HB s⟩
 | succ n ih =>
  rw [HC];split
  ·exact ⟨n,.inr (Nat.lt_succ_self _),rfl⟩
  ·obtain ⟨c,h1,h2⟩:=ih
   exact ⟨c,h1.imp id fun h=>by omega,h2⟩
def iC (t:Bool) (r:Rn) (l:List Spn) (vv:Nat->Rat) (sa:Option Addr) (sc:Nat) (ca:Option Addr) (cc:Nat):Prf where
 st:=(List.range r.tab.length).map fun s=>rQ (uU t r l vv s (aD r l).length)
 sa:=sa
 sc:=sc
 cl:=(List.range (aD r l).length).map fun c=>rQ (vv c)
 ca:=ca
 cc:=cc
theorem C7 (x:Rat):aP (rQ x):=by
 have h:=uN (rQ x);rw [bR] at h
 by_cases hv:aP (rQ x)
 ·exact hv
 ·rw [if_neg hv] at h
  rw [h];decide
theorem K8 {sa:Option Addr}{sc:Nat}{ca:Option Addr}{cc s:Nat} (h:s < r.tab.length):uP (iC t r l vv sa sc ca cc) s=uU t r l vv s (aD r l).length:=by
 unfold uP iC;rw [gD,List.getElem?_map,List.getElem?_range h];exact bR _
theorem K9 {sa:Option Addr}{sc:Nat}{ca:Option Addr}{cc c:Nat} (h:c < (aD r l).length):vP (iC t r l vv sa sc ca cc) c=vv c:=by
 unfold vP iC;rw [gD,List.getElem?_map,List.getElem?_range h];exact bR _
theorem I7 {sa:Option Addr}{sc:Nat}{ca:Option Addr}{cc:Nat} (h0:r.tab.length≠0):bP l r (iC t r l vv sa sc ca cc)=true:=by
 refine (nT h0).2 ⟨by simp [iC],by simp [iC],fun a ha=>?_,fun a ha=>?_⟩
 ·obtain ⟨s,_,rfl⟩:=List.mem_map.1 ha;exact C7 _
 ·obtain ⟨s,_,rfl⟩:=List.mem_map.1 ha;exact C7 _
theorem KA (h:OkR r) (h0:r.tab.length≠0) (hl:aR x l) (ha:AgP r A) (hE:Gq t r l A vv) {sa:Option Addr}{sc:Nat}{ca:Option Addr}{cc:Nat}:dJ t l r (iC t r l vv sa sc ca cc)=true/\BK l r (iC t r l vv sa sc ca cc)=aI l r.from_ A :=
 LV h h0 hl ha hE (fun c hc=>K9 hc) fun s hs=>by rw [K8 hs];unfold uU;rw [oP]
theorem KB (hP:qU t r l A pi vv) (hf:∀ s∈l,fewS s) (hR:∀ s∈l,aQ s) (h0:r.tab.length≠0) (hn0:0 < (aD r l).length) (ht:∀ s,s < r.tab.length->0<=tbS r s/\tbS r s<=1000) {e m:Nat} (he:e=277760) (hm:m=10000001) (hd:dM t r l<=256 ^ e) {sa:Option Addr}{sc:Nat}{ca:Option Addr}{cc:Nat}:sO t l (dM t r l) (dM t r l*256 ^ m) r (iC t r l vv sa sc ca cc):=by
 have hD0:=DJ (t:=t) (r:=r) (l:=l);have hD1:(0:Rat) < ((dM t r l:Int):Rat):=Rat.intCast_pos.2 om;obtain ⟨M,hM⟩:∃ M,M=10000000:=⟨_,rfl⟩;have hv:∀ c,c < (aD r l).length->bD (dM t r l) (dM t r l*(2*256 ^ M)) 1 (vv c):=fun c hc=>by
  subst hM;obtain ⟨N,hN⟩:=hP.inv.iq c hc;have h1:=hP.inv.num hD1 hc
  try dsimp only at hN h1
  rw [hN,Rat.num_intCast] at h1;have h2:N<=0:=by
   have:=Rat.mul_le_mul_of_nonneg_right (hP.np c hc) (Rat.le_of_lt hD1);rw [hN,Rat.zero_mul] at this;exact Rat.intCast_le_intCast.1 (show (N:Rat)<=((0:Int):Rat) from this)
  have h3:bD (dM t r l) (dM t r l*(2*256 ^ 10000000)) 1 (sgR t (vv c)):=by
   refine ⟨N,hN,?_⟩;rw [Nat.one_mul];generalize 256 ^ 10000000=B at *;have e1:((dM t r l*(2*B):Nat):Int)=2*(B:Int)*(dM t r l:Int):=by
    rw [Int.natCast_mul,Int.natCast_mul,Int.mul_comm];rfl
   omega
  have h4:=h3.sgR (t:=t)
  rwa [oP] at h4
 have hg:∀ s c,s < r.tab.length->c < (aD r l).length->bD (dM t r l) (dM t r l*256 ^ 140) 1 (gT l r s c):=fun s c hs hc=>by
  have h1:=DG (x:=sgR t (gT l r s c)) (D:=dM t r l) (m:=140) (Nat.dvd_trans (qN (fun c=>(sgR t (gT l r s c)).den) hc) (qN (fun s=>pN (fun c=>(sgR t (gT l r s c)).den) (aD r l).length) hs)) hD0 (nS (dH hf hR (ht s hs)))
  have h2:=h1.sgR (t:=t)
  rwa [oP] at h2
 have hB:dM t r l*256 ^ 140+dM t r l*(2*256 ^ M)<=dM t r l*256 ^ m:=by
  rw [<- Nat.mul_add];refine Nat.mul_le_mul_left _ ?_;have h1:=DH (a:=140) (b:=M) om;have h2:256 ^ m=256 ^ M*256:=by rw [show m=M+1 by omega,Nat.pow_succ]
  rw [h2];generalize 256 ^ M=B at *;generalize 256 ^ 140=B2 at *;omega
 have hu:∀ s,s < r.tab.length->bD (dM t r l) (dM t r l*256 ^ m) 1 (uU t r l vv s (aD r l).length):=fun s hs=>by
  obtain ⟨c,h1,h2⟩:=MW (t:=t) (r:=r) (l:=l) (vv:=vv) s (aD r l).length;have hc:c < (aD r l).length:=by rcases h1 with h1|h1<;>omega
  rw [h2,Rat.sub_eq_add_neg];exact ((hg s c hs hc).addB (hv c hc).neg).mono hB
 have hk:∀ y,bD (dM t r l) (dM t r l*256 ^ m) 1 y->aH 20000000 (rQ y):=fun y hy=>by
  refine aF (hy.few (k:=e+m+1) hD0 (Nat.lt_of_le_of_lt hd (Nat.pow_lt_pow_right dc om)) ?_) om;rw [Nat.one_mul,Nat.pow_succ,Nat.pow_add];have h1:dM t r l*256 ^ m<=256 ^ e*256 ^ m:=Nat.mul_le_mul_right _ hd;have h2:0 < 256 ^ e*256 ^ m:=Nat.mul_pos (Nat.pow_pos dc) (Nat.pow_pos dc);generalize 256 ^ e*256 ^ m=X at *;generalize dM t r l*256 ^ m=Y at *;omega
 refine ⟨fun _ s hs=>by rw [K8 hs];exact hu s hs,fun _ c hc=>by rw [K9 hc];exact (hv c hc).mono (Nat.le_trans (Nat.le_add_left _ _) hB),fun h=>absurd h h0,fun a ha=>?_,fun a ha=>?_⟩
 ·obtain ⟨s,hs,rfl⟩:=List.mem_map.1 ha
  exact hk _ (hu s (List.mem_range.1 hs))
 ·obtain ⟨c,hc,rfl⟩:=List.mem_map.1 ha
  exact hk _ ((hv c (List.mem_range.1 hc)).mono (Nat.le_trans (Nat.le_add_left _ _) hB))
end
end Go.Proofs.YtjcecdmbfmccoaaGreatDoor
/-
 Contracts of proofs: what potentials leans on: the place of a tick,the class of a span,maps of stages.
-/
namespace Go.Proofs.YtjcecdmbfmccoaaGreatDoor
open Go.RowKit Go.Sl Go.Num
theorem I8 (k:Nat) (x:Int) (B1 B3 bb ob d:Nat) (l:List Spn) (w:World) (hk:k < l.length) (h1:bG w B1 0 [.slice (some ⟨bb,ob,none⟩) l.length d]) (h2:bG w B3 0 [.int .i64 x]) (h3:bG w bb (ob+k*7) (spV l[k])) :
  CR 149 #[.int .i64 k,.pointer (some ⟨B1,0,none⟩),.pointer (some ⟨B3,0,none⟩)] w (.bool (decide (x < l[k].to_))):=by
 generalize l[k]=s at *;dsimp only [spV] at *;refine aB [(0,.int .i64 k),(1,.pointer (some ⟨B1,0,none⟩)),(2,.pointer (some ⟨B3,0,none⟩))] Tryz.func149 Tryz.ntmps149 ?_;all_goals (refine go ?_;and_intros<;>first|exact trivial|repeat first|intro(Bk:Nat)|intro h)
 all_goals refine aA Tryz.func149 Tryz.results149 ?_
 all_goals exact bL (by first|(rw [dT om])|(rw [dF om]))
theorem I9 {w0 w:World}{M:List Row}{B1 B3 e1 e3 t1 t3 d:Nat}{b:Option Addr}{l:List Spn}{x:Int} (hA:aE w0 b 7 (l.map spV)) (hl:aR 0 l) (hn:l.length<=400) (hw:Sat w0 M w) (hm1:Row.blk B1 e1 [.slice b l.length d] t1∈M) (hm3:Row.blk B3 e3 [.int .i64 x] t3∈M) :
  CR 124 #[.int .i64 l.length,.func (.func 149) #[] #[.pointer (some ⟨B1,0,none⟩),.pointer (some ⟨B3,0,none⟩)]] w (.int .i64 (kT l x)):=by
 refine kW 149 _ l.length (kT l x) (fun i=>match l[i]? with|none=>true|some s=>decide (x < s.to_)) w om (C1 l x) (fun i hi=>?_) (fun i h1 h2=>?_) fun k hk w' hb=>?_
 ·have h1:=EL (r:=mkR x 0 0) hi
  have h4:(mkR x 0 0).from_=x:=rfl;rw [gE (Nat.lt_of_lt_of_le hi (C1 l x))];exact dF om
 ·rw [gE h2]
  exact dT (EM (r:=mkR x 0 0) hl h1 h2)
 ·rw [gE hk]
  obtain ⟨bb,ob,rfl,hrow⟩:=aE.all hA om;exact I8 k x B1 B3 bb ob d l w' hk ((hw.rowAt hm1).below hb) ((hw.rowAt hm3).below hb) (((hrow k hk).below hw.below).below hb)
theorem IA (s:Int×Int) (x:Int) (B:Nat) (w:World) (h1:bG w B 0 [.int .i64 x]) :
  CR 151 #[.agg #[.int .i64 s.1,.int .i64 s.2],.pointer (some ⟨B,0,none⟩)] w (.bool (decide (s.1=x))):=by
 obtain ⟨p,T⟩:=s;dsimp only;refine aB [(0,.agg #[.int .i64 p,.int .i64 T]),(1,.pointer (some ⟨B,0,none⟩))] Tryz.func151 Tryz.ntmps151 ?_;all_goals (refine go ?_;and_intros<;>first|exact trivial|repeat first|intro(Bk:Nat)|intro h)
 all_goals refine aA Tryz.func151 Tryz.results151 ?_
 all_goals exact bL (by first|(rw [dT om])|(rw [dF om]))
theorem Gr (p:Int×Int->Bool) (g:FuncId) (B:Nat) [hF:Fun Tryz.prog g] (a:Option Addr) (l:List (Int×Int)) (c:Nat) (w:World) (hA:aE w a 2 (l.map hoV)) (hl:l.length<=1000000000)
  (hf:∀ s∈l,∀ w',Below w.heap.size w w'->Calls Tryz.prog g (#[.agg #[.int .i64 s.1,.int .i64 s.2]]++#[.pointer (some ⟨B,0,none⟩)]) w' fun e w2=>e=.returned (.bool (p s))/\Below w'.heap.size w' w2) (hlt:l.findIdx p < l.length) :
  CR 150 #[.slice a l.length c,.func (.func g) #[] #[.pointer (some ⟨B,0,none⟩)]] w (.int .i64 (l.findIdx p:Nat)):=by
 refine aB [(0,.slice a l.length c),(1,.func (.func g) #[] #[.pointer (some ⟨B,0,none⟩)])] Tryz.func150 Tryz.ntmps150 ?_;all_goals (refine go ?_;and_intros<;>first|exact trivial|repeat first|intro(Bk:Nat)|intro h)
 refine J.loop (c:=_) (0:Nat) (fun s=>l.length-s) (fun s=>[(0,.slice a l.length c),(1,.func (.func g) #[] #[.pointer (some ⟨B,0,none⟩)]),(7,.int .i64 l.length),(8,.int .i64 s)]) (fun s=>[]) (fun s=>s<=l.findIdx p) ?_ sbT sbL ?_
 ·exact Nat.zero_le _
 intro k h1 ih;have hk:k < l.length:=by omega
 obtain ⟨ba,oa,rfl,hra⟩:=aE.all hA om;have hr:=hra k hk;have hfk:=hf l[k] (gM hk);by_cases hq:l.findIdx p=k
 ·have hp:p l[k]=true:=by
   have:=List.findIdx_getElem (w:=hlt);simpa only [hq] using this
  rw [hq];rw [hp] at hfk;clear hra hf;generalize l[k]=s at *;obtain ⟨s1,s2⟩:=s;dsimp only [hoV] at *;repeat' first|(refine gp ?_;and_intros<;>first|exact trivial|repeat first|intro(Bk:Nat)|intro h)|(apply G.cF (g:=g);rfl;rfl;rfl;exact fun w' hw=>hfk w' hw.below)
  all_goals exact aA Tryz.func150 Tryz.results150 rfl
 ·have hp:p l[k]=false:=by
   have:=List.not_of_lt_findIdx (show k < l.findIdx p by omega)
   simpa using this
  rw [hp] at hfk;have ih:=ih (k+1) om om;clear hra hf;generalize l[k]=s at *;obtain ⟨s1,s2⟩:=s;dsimp only [hoV] at *;repeat' first|(refine gp ?_;and_intros<;>first|exact trivial|repeat first|intro(Bk:Nat)|intro h)|(apply G.cF (g:=g);rfl;rfl;rfl;exact fun w' hw=>hfk w' hw.below)
  exact J.fin ih
theorem Oc {w0 w:World}{M:List Row}{B e t kc:Nat}{ka:Option Addr}{r:Rn}{l:List Spn}{x:Int} (hK:aE w0 ka 2 ((aD r l).map hoV)) (hn:(aD r l).length<=100000) (hw:Sat w0 M w) (hm:Row.blk B e [.int .i64 (bO l x)] t∈M) (hlt:dG r l x < (aD r l).length) :
  CR 150 #[.slice ka (aD r l).length kc,.func (.func 151) #[] #[.pointer (some ⟨B,0,none⟩)]] w (.int .i64 (dG r l x:Nat)) :=
 Gr (fun c=>decide (c.1=bO l x)) 151 B ka (aD r l) kc w (hK.below hw.below) om (fun s hs w' hb=>IA s (bO l x) B w' ((hw.rowAt hm).below hb)) hlt
section
variable {κ:Type} [DecidableEq κ]
theorem C8 (x y:κ) (v:Value):∀ L:List (κ×Value),y∈(gH x v L).map (·.1) ↔ y=x∨y∈L.map (·.1)
 | []=>by simp [gH]
 | (z,u)::L=>by
  rw [gH];by_cases h:x=z
  ·subst h
   rw [if_pos rfl];simp only [List.map_cons,List.mem_cons];constructor
   ·exact fun h=>h.elim .inl fun h=>.inr (.inr h)
   ·exact fun h=>h.elim .inl fun h=>h
  ·rw [if_neg h]
   simp only [List.map_cons,List.mem_cons,C8 x y v L];constructor
   ·rintro (h|h|h)
    ·exact .inr (.inl h)
    ·exact .inl h
    ·exact .inr (.inr h)
   ·rintro (h|h|h)
    ·exact .inr (.inl h)
    ·exact .inl h
    ·exact .inr (.inr h)
end
theorem vM {α:Type}{y:α}:∀ {R:List α}{j:Nat} (h:j < R.length),y∈R->y=R[j]∨y∈R.eraseIdx j
 | [],_,h,_=>absurd h (Nat.not_lt_zero _)
 | a::R,0,_,hy=>by
  rcases List.mem_cons.1 hy with h|h
  ·exact .inl h
  ·exact .inr h
 | a::R,j+1,h,hy=>by
  rcases List.mem_cons.1 hy with h1|h1
  ·exact .inr (by rw [List.eraseIdx_cons_succ,h1];exact List.mem_cons_self ..)
  ·rcases vM (by simpa using h) h1 with h2|h2
   ·exact .inl (by rw [List.getElem_cons_succ];exact h2)
   ·exact .inr (by rw [List.eraseIdx_cons_succ];exact mC _ h2)
instance:BG Tryz.prog 202 3 4 (.bool false):=⟨by kernel_rfl,fun w=>Tryz.zeroValue4 w⟩
abbrev MpT:=Nat×Array MapEntry×Nat×List (Int×Value)
def mpF (e:MpT):Row:=.obj e.1 (.map e.2.1 e.2.2.1)
def moV (o:Option Nat):List Value:=[.map o]
theorem DK (o:Option Nat):(moV o).length=1:=rfl
theorem KC (n:Nat):flat (fun x:List Value=>x) (List.replicate n [.map none])=flat moV (List.replicate n none):=by
 induction n with
 | zero=>rfl
 | succ n ih=>rw [List.replicate_succ,List.replicate_succ,fA,fA,ih];rfl
def mpO (T:List MpT) (n:Nat):List (Option Nat):=T.map (fun e=>some e.1)++List.replicate (n-T.length) none
theorem HD {T:List MpT}{n:Nat} (h:T.length<=n):(mpO T n).length=n:=by
 rw [mpO,List.length_append,List.length_map,List.length_replicate];omega
theorem Mt {T:List MpT}{n:Nat} (h:T.length < n) (e:MpT):(mpO T n).set T.length (some e.1)=mpO (T++[e]) n:=by
 unfold mpO;rw [List.set_append_right _ _ (by rw [List.length_map];exact Nat.le_refl _),List.length_map,Nat.sub_self,List.map_append,List.append_assoc,List.length_append,List.length_singleton]
 rw [show n-T.length=(n-(T.length+1))+1 by omega,List.replicate_succ,List.set_cons_zero]
 rfl
theorem Mu {T:List MpT}{n:Nat} (h:T.length=n):mpO T n=T.map fun e=>some e.1:=by
 rw [mpO,show n-T.length=0 by omega,List.replicate_zero,List.append_nil]
theorem KD {T:List MpT}{c:Nat} (h:c < T.length):(flat moV (T.map fun e=>some e.1))[0+c*1]?=some (.map (some T[c].1)):=gA (f:=moV) DK (by rw [List.length_map];exact h) (by rw [List.getElem_map];rfl)
def TIn (r:Rn) (l:List Spn) (A:List Int) (j:Nat) (T:List MpT):Prop:=∀ c (h:c < T.length),dQ (Value.int .i64) T[c].2.1 T[c].2.2.1 T[c].2.2.2/\∀ s,s∈T[c].2.2.2.map (·.1) ↔ ∃ i,i < j/\A[i]?=some s/\(kL r l)[i]?=some c
theorem TIn.step {r:Rn}{l:List Spn}{A:List Int}{j c:Nat}{T:List MpT}{s:Int} (h:TIn r l A j T) (hc:c < T.length) (hA:A[j]?=some s) (hK:(kL r l)[j]?=some c) {es:Array MapEntry}{ck:Nat}{v:Value} (hI:dQ (Value.int .i64) es ck (gH s v T[c].2.2.2)) :
  TIn r l A (j+1) (T.set c (T[c].1,es,ck,gH s v T[c].2.2.2)):=fun d hd=>by
 rw [List.length_set] at hd;obtain ⟨h1,h2⟩:=h d hd;by_cases e:c=d
 ·subst e
  rw [List.getElem_set_self];refine ⟨hI,fun y=>?_⟩
  dsimp only;rw [C8,h2];constructor
  ·rintro (rfl|⟨i,i1,i2,i3⟩)
   ·exact ⟨j,Nat.lt_succ_self _,hA,hK⟩
   ·exact ⟨i,by omega,i2,i3⟩
  ·rintro ⟨i,i1,i2,i3⟩
   by_cases e:i=j
   ·subst e;rw [hA] at i2;cases i2;exact .inl rfl
   ·exact .inr ⟨i,by omega,i2,i3⟩
 ·rw [List.getElem_set_ne e]
  refine ⟨h1,fun y=>?_⟩
  rw [h2];constructor
  ·rintro ⟨i,i1,i2,i3⟩;exact ⟨i,by omega,i2,i3⟩
  ·rintro ⟨i,i1,i2,i3⟩
   by_cases e2:i=j
   ·subst e2;rw [hK] at i3;cases i3;exact absurd rfl e
   ·exact ⟨i,by omega,i2,i3⟩
theorem TIn.all {r:Rn}{l:List Spn}{A:List Int}{j c:Nat}{T:List MpT} (h:TIn r l A j T) (hj:A.length<=j) (hc:c < T.length) (s:Int):s∈T[c].2.2.2.map (·.1) ↔ thS r l A c s:=by
 rw [(h c hc).2];constructor
 ·rintro ⟨i,_,i2,i3⟩;exact ⟨i,i2,i3⟩
 ·rintro ⟨i,i2,i3⟩;exact ⟨i,Nat.lt_of_lt_of_le (List.getElem?_eq_some_iff.1 i2).1 hj,i2,i3⟩
theorem Od (T:List MpT) (c:Nat) (B:Nat) (es:Array MapEntry) (ck:Nat) (L:List (Int×Value)):(rws mpF T).set c (.obj B (.map es ck))=rws mpF (T.set c (B,es,ck,L)):=by rw [<- D4];rfl
theorem Oe {T:List MpT}{c:Nat} (hc:c < T.length) (es:Array MapEntry) (ck:Nat) (L:List (Int×Value)):(T.set c (T[c].1,es,ck,L)).map (fun e=>some e.1)=T.map fun e=>some e.1:=by
 apply List.ext_getElem
 ·simp
 ·intro i h1 h2
  rw [List.getElem_map,List.getElem_map];by_cases e:c=i
  ·subst e;rw [List.getElem_set_self]
  ·rw [List.getElem_set_ne e]
def vvL (vv:Nat->Rat) (n:Nat):List Rat:=(List.range n).map vv
theorem sF (vv:Nat->Rat) (n:Nat):(vvL vv n).length=n:=by rw [vvL,List.length_map,List.length_range]
theorem wX {vv:Nat->Rat}{n c:Nat} (h:c < n):(vvL vv n)[c]?=some (vv c):=by rw [vvL,List.getElem?_map,List.getElem?_range h];rfl
theorem Mv {vv:Nat->Rat}{n b:Nat} (y:Rat):(vvL vv n).set b y=vvL (oO vv b y) n:=by
 apply List.ext_getElem?;intro i;by_cases hi:i < n
 ·rw [wX hi]
  by_cases e:b=i
  ·subst e
   rw [List.getElem?_set_self (by rw [sF];exact hi)]
   unfold oO;rw [if_pos rfl]
  ·rw [List.getElem?_set_ne e,wX hi]
   unfold oO;rw [if_neg (fun h=>e h.symm)]
 ·rw [List.getElem?_eq_none (by rw [List.length_set,sF];omega),List.getElem?_eq_none (by rw [sF];omega)]
theorem KE (n:Nat):vvL (fun _=>0) n=List.replicate n 0:=by
 unfold vvL;rw [List.map_const',List.length_range]
theorem Gs {t:Bool}{r:Rn}{l:List Spn}{vv:Nat->Rat}{sa:Option Addr}{sc:Nat}{ca:Option Addr}{cc:Nat}:prA (iC t r l vv sa sc ca cc)=.agg #[.slice sa r.tab.length sc,.slice ca (aD r l).length cc]:=by
 unfold prA iC;simp only [List.length_map,List.length_range]
def uLs (t:Bool) (r:Rn) (l:List Spn) (vv:Nat->Rat) (i:Nat):List Rat:=(List.range i).map fun s=>uU t r l vv s (aD r l).length
theorem KF {t:Bool}{r:Rn}{l:List Spn}{vv:Nat->Rat}{i:Nat}:flat qW (uLs t r l vv (i+1))=flat qW (uLs t r l vv i)++qW (uU t r l vv i (aD r l).length):=by
 unfold uLs;rw [List.range_succ,List.map_append,jU];congr 1
set_option maxHeartbeats 16000000 in
theorem C9 (t:Bool) (r:Rn) (b:Option Addr) (l:List Spn) (d:Nat) (ka:Option Addr) (kc:Nat) (f0:Int) (ha:Option Addr) (S:List Int) (hc:Nat) (A0 A A1:List Int) (w:World) (hB:aN w b l) (hf:∀ s∈l,fewS s) (hR:∀ s∈l,aQ s) (hio:aR 0 l) (hl4:l.length<=400) (hK:aE w ka 2 ((aD r l).map hoV)) (hT:aE w r.adr 2 (r.tab.map hoV)) (hS:aE w ha 1 (S.map isV)) (hSe:S=A0++A++A1) (hfr:r.from_=f0+A0.length) (hSl:S.length<=1000000) (hr:OkR r) (h0:r.tab.length≠0) (hbr:nR t l r A) (hn:(aD r l).length<=31) (htb:r.tab.length<=64) :
  Calls Tryz.prog 112 #[rnA r,.slice b l.length d,.slice ka (aD r l).length kc,.agg #[.int .i64 f0,.slice ha S.length hc],.func (.func (isF t)) #[] #[]] w fun e w'=>∃ x:{ x:(Nat->Rat)×(Option Addr×Nat)×(Option Addr×Nat) // (∃ pi,qU t r l A pi x.1)/\Gq t r l A x.1 },e=.returned (prA (iC t r l x.1.1 x.1.2.1.1 x.1.2.1.2 x.1.2.2.1 x.1.2.2.2))/\qS w' (iC t r l x.1.1 x.1.2.1.1 x.1.2.1.2 x.1.2.2.1 x.1.2.2.2)/\(∀ p,x.1.2.1.1=some p->w.heap.size<=p.block)/\(∀ p,x.1.2.2.1=some p->w.heap.size<=p.block)/\Below w.heap.size w w':=by
 have hag:=hbr.1;have hrg:=hr.rng;have hlen:=hag.len' hr;have hcn0:=iB hio hrg.2.1;have hta:=hr.tab h0;have hts:∀ s,s < r.tab.length->0<=tbS r s/\tbS r s<=1000:=fun s hs=>hta.2.2.2 _ (eZ hs)
 obtain ⟨pi0,hP0⟩:=qU.start hbr hr h0 hio;have hthr:∀ a s,thS r l A a s->0<=s/\s<=1000:=fun a s h=>by
  obtain ⟨h1,h2⟩:=AH h0 hag h;have:=hts _ h1;rw [h2] at this;exact this
 obtain ⟨e0,he0⟩:∃ e,e=277760:=⟨_,rfl⟩;have hdM:=K7 (t:=t) (r:=r) (e:=e0) hf hR hts hn htb om;have hfw:=fun (pi vv:Nat->Rat) (h:qU t r l A pi vv) c hc=>qU.few h he0 hdM (b:=c) hc
 have hgf:=fun p s (hs:0<=s/\s<=1000)=>dH (l:=l) (p:=p) hf hR hs
 have hra:=fun c (hc:c < (aD r l).length) s (hs:0<=s/\s<=1000) w' (hb:Below w.heap.size w w')=>mO (aG r l c) (aT r l c) s b l d w' (hB.below hb) hf hR (sC hc) hs
 obtain ⟨kb,ko,rfl,hrK⟩:=aE.all hK hcn0;have hKc:∀ c,c < (aD r l).length->bG w kb (ko+c*2) [.int .i64 (aG r l c),.int .i64 (aT r l c)]:=fun c hc=>by
  have h1:=hrK c hc;rw [(List.getElem?_eq_some_iff.1 (iH hc)).2] at h1;exact h1
 obtain ⟨m,hm⟩:∃ m:Nat,r.to_-r.from_=m:=⟨(r.to_-r.from_).toNat,by omega⟩
 have hAm:A.length=m:=by rw [hlen,hm];rfl
 have hS0:0 < S.length:=by rw [hSe];simp only [List.length_append];omega
 obtain ⟨hb,ho,rfl,hrS⟩:=aE.all hS hS0;have hSA:∀ j (h:j < A.length),A0.length+j < S.length/\bG w hb (ho+(A0.length+j)*1) [.int .i64 A[j]]:=fun j h=>by
  have h1:A0.length+j < S.length:=by rw [hSe];simp only [List.length_append];omega
  have h2:=hrS _ h1;have h3:S[A0.length+j]=A[j]:=by
   subst hSe;rw [List.getElem_append_left (by rw [List.length_append];omega),List.getElem_append_right om]
   simp only [Nat.add_sub_cancel_left]
  rw [h3] at h2;exact ⟨h1,h2⟩
 obtain ⟨tb,to,hadr,hrT⟩:=aE.all hT om;have hTs:∀ s,s < r.tab.length->bG w tb (to+s*2) [.int .i64 (tbS r s),.int .i64 (tbT r s)]:=fun s h=>by
  have h1:=hrT s h;rw [show r.tab[s]=(tbS r s,tbT r s) from by rw [tbS,tbT,gD,gE h];rfl] at h1
  exact h1
 unfold rnA;rw [hadr];clear hrK hrS hrT hadr hT hS hSe;refine aB [(0,.agg #[.int .i64 r.from_,.int .i64 r.to_,.slice (some ⟨tb,to,none⟩) r.tab.length r.cap,.int .i64 r.lo,.int .i64 r.hi]),(1,.slice b l.length d),(2,.slice (some ⟨kb,ko,none⟩) (aD r l).length kc),(3,.agg #[.int .i64 f0,.slice (some ⟨hb,ho,none⟩) S.length hc]),(4,.func (.func (isF t)) #[] #[])] Tryz.func112 Tryz.ntmps112 ?_;repeat' first|(refine gp ?_;and_intros<;>first|exact trivial|repeat first|intro(Bk:Nat)|intro h)|(apply G.PD (n:=(aD r l).length) [.map none];rfl;rfl;rfl;rfl;rfl;omega;omega;rfl;omega;omega;intro Bt)
 rename_i B5 B6 B8;obtain ⟨B10,rfl⟩:∃ x,x=Bk:=⟨_,rfl⟩;rw [KC];refine J.loop (c:=_) ((0,[]):Nat×List MpT) (fun x=>(aD r l).length-x.1) (fun x=>[(2,.slice (some ⟨kb,ko,none⟩) (aD r l).length kc),(4,.func (.func (isF t)) #[] #[]),(5,.pointer (some ⟨B5,0,none⟩)),(6,.pointer (some ⟨B6,0,none⟩)),(8,.pointer (some ⟨B8,0,none⟩)),(10,.pointer (some ⟨B10,0,none⟩)),(11,.slice (some ⟨Bt,0,none⟩) (aD r l).length (aD r l).length),(34,.int .i64 (aD r l).length),(35,.int .i64 x.1)]) (fun x=>.blk Bt 202 (flat moV (mpO x.2 (aD r l).length)) ((aD r l).length*1)::.blk B10 63 [.slice none 0 0,.slice none 0 0] 2::.blk B8 30 [.int .i64 f0,.slice (some ⟨hb,ho,none⟩) S.length hc] 2::.blk B6 23 [.slice b l.length d] 1::.blk B5 67 [.int .i64 r.from_,.int .i64 r.to_,.slice (some ⟨tb,to,none⟩) r.tab.length r.cap,.int .i64 r.lo,.int .i64 r.hi] 5::(rws mpF x.2++[])) (fun x=>x.1<=(aD r l).length/\x.2.length=x.1/\TIn r l A 0 x.2) ?_ sbT sbL ?_
 ·exact ⟨Nat.zero_le _,rfl,fun c h=>absurd h (Nat.not_lt_zero _)⟩
 intro ⟨k,T⟩ ⟨hkn,hTl,hTI⟩ ihk;dsimp only at hkn hTl hTI ⊢;by_cases hkk:k < (aD r l).length
 ·have hset:∀ Bm:Nat,dU (flat moV (mpO T (aD r l).length)) (0+k*1) [.map (some Bm)]=flat moV (mpO (T++[(Bm,#[],0,[])]) (aD r l).length):=fun Bm=>by
   rw [lB (y:=some Bm) DK (by rw [HD om];exact hkk) rfl]
   subst hTl;rw [Mt hkk (Bm,#[],0,[])]
  have ihk:=fun Bm:Nat=>ihk (k+1,T++[(Bm,#[],0,[])]) ⟨hkk,by simp [hTl],fun c h=>by
   dsimp only at h ⊢
   by_cases e:c < T.length
   ·rw [List.getElem_append_left e];exact hTI c e
   ·rw [List.length_append,List.length_singleton] at h
    obtain rfl:c=T.length:=by omega
    rw [List.getElem_concat_length rfl];refine ⟨dQ.nil,fun s=>?_⟩
    constructor
    ·intro h;cases h
    ·rintro ⟨i,h,_⟩;exact absurd h (Nat.not_lt_zero _)⟩ (by dsimp only;omega)
  dsimp only at ihk;have hml:=HD (T:=T) (n:=(aD r l).length) om;clear hTI;repeat' first|(refine gp ?_;and_intros<;>first|exact trivial|repeat first|intro(Bk:Nat)|intro h)|(apply G.Qv;rfl;intro Bm)|(apply G.s1;rfl;rfl;rfl;(repeat (first|exact RAt.head|apply RAt.tail));exact ⟨rfl,rfl⟩;(rw [aO DK,hml];omega);exact hset _)
  refine J.sel (T:=mpF (Bm,#[],0,[])::(.blk Bt 202 (flat moV (mpO (T++[(Bm,#[],0,[])]) (aD r l).length)) ((aD r l).length*1)::.blk B10 63 [.slice none 0 0,.slice none 0 0] 2::.blk B8 30 [.int .i64 f0,.slice (some ⟨hb,ho,none⟩) S.length hc] 2::.blk B6 23 [.slice b l.length d] 1::.blk B5 67 [.int .i64 r.from_,.int .i64 r.to_,.slice (some ⟨tb,to,none⟩) r.tab.length r.cap,.int .i64 r.lo,.int .i64 r.hi] 5::(rws mpF T++[]))) ?_;refine J.P7 (F:=mpF) (T:=T) [.blk Bt 202 (flat moV (mpO (T++[(Bm,#[],0,[])]) (aD r l).length)) ((aD r l).length*1),.blk B10 63 [.slice none 0 0,.slice none 0 0] 2,.blk B8 30 [.int .i64 f0,.slice (some ⟨hb,ho,none⟩) S.length hc] 2,.blk B6 23 [.slice b l.length d] 1,.blk B5 67 [.int .i64 r.from_,.int .i64 r.to_,.slice (some ⟨tb,to,none⟩) r.tab.length r.cap,.int .i64 r.lo,.int .i64 r.hi] 5] (Bm,#[],0,[]) ?_;exact J.fin (ihk Bm)
 obtain rfl:k=(aD r l).length:=by omega
 clear ihk;rw [Mu hTl];all_goals (refine go ?_;and_intros<;>first|exact trivial|repeat first|intro(Bk:Nat)|intro h)
 refine J.loop (c:=_) ((0,Bk,r.from_,T):Nat×Nat×Int×List MpT) (fun x=>m-x.1) (fun x=>[(2,.slice (some ⟨kb,ko,none⟩) (aD r l).length kc),(4,.func (.func (isF t)) #[] #[]),(5,.pointer (some ⟨B5,0,none⟩)),(6,.pointer (some ⟨B6,0,none⟩)),(8,.pointer (some ⟨B8,0,none⟩)),(10,.pointer (some ⟨B10,0,none⟩)),(11,.slice (some ⟨Bt,0,none⟩) (aD r l).length (aD r l).length),(13,.pointer (some ⟨x.2.1,0,none⟩))]) (fun x=>.blk x.2.1 3 [.int .i64 x.2.2.1] 1::.blk Bt 202 (flat moV (x.2.2.2.map fun e=>some e.1)) ((aD r l).length*1)::.blk B10 63 [.slice none 0 0,.slice none 0 0] 2::.blk B8 30 [.int .i64 f0,.slice (some ⟨hb,ho,none⟩) S.length hc] 2::.blk B6 23 [.slice b l.length d] 1::.blk B5 67 [.int .i64 r.from_,.int .i64 r.to_,.slice (some ⟨tb,to,none⟩) r.tab.length r.cap,.int .i64 r.lo,.int .i64 r.hi] 5::(rws mpF x.2.2.2++[])) (fun x=>x.1<=m/\x.2.2.1=r.from_+x.1/\x.2.2.2.length=(aD r l).length/\TIn r l A x.1 x.2.2.2) ?_ sbT sbL ?_
 ·exact ⟨Nat.zero_le _,(Int.add_zero _).symm,hTl,hTI⟩
 clear hTl hTI hkn hkk;intro ⟨j,B13,z,T⟩ ⟨hjm,hz,hTl,hTI⟩ ihj;dsimp only at hjm hz hTl hTI ⊢;subst hz;by_cases hj:j < m
 ·
  have hkj:=MS (r:=r) (l:=l) (j:=j) om;obtain ⟨hci,hcp⟩:=tM hio hrg.2.1 (t:=r.from_+j) om om;obtain ⟨hAj,hrA⟩:=hSA j om;have hA1:A[j]?=some (A[j]'om):=gE om;have hTc:dG r l (r.from_+j) < T.length:=by omega
  have hmp:=(hTI _ hTc).1;have hcell:=KD hTc;have hat:=fun R=>FZ (F:=mpF) (T:=T) (M0:=R) hTc
  have hms:=Oe hTc;have hmpS:=Od T (dG r l (r.from_+j)) T[dG r l (r.from_+j)].1;have ihj:=fun B es ck (h:dQ (Value.int .i64) es ck (gH (A[j]'om) (.bool true) T[dG r l (r.from_+j)].2.2.2))=>ihj (j+1,B,r.from_+j+1,T.set (dG r l (r.from_+j)) (T[dG r l (r.from_+j)].1,es,ck,gH (A[j]'om) (.bool true) T[dG r l (r.from_+j)].2.2.2)) ⟨hj,by dsimp only;omega,by dsimp only;rw [List.length_set];exact hTl,hTI.step hTc hA1 hkj h⟩ (by dsimp only;omega)
  dsimp only at ihj;have hsr:=fun (M:List Row) w' (hw':Sat w M w') h1 h3=>I9 (B1:=B6) (B3:=B13) (e1:=23) (e3:=3) (t1:=1) (t3:=1) (d:=d) (x:=r.from_+j) hB.1 hio hl4 hw' h1 h3
  have hix:=fun (M:List Row) (B:Nat) w' (hw':Sat w M w') (h:Row.blk B 3 [.int .i64 (bO l (r.from_+j))] 1∈M)=>Oc (kc:=kc) hK om hw' h hci
  have hxb:0<=r.from_+(j:Int)/\r.from_+(j:Int) < 1402560:=by omega
  have hxf:r.from_+(j:Int)-f0=((A0.length+j:Nat):Int):=by omega
  have hkt:=C1 l (r.from_+j);have hcs:(kT l (r.from_+j)=l.length/\bO l (r.from_+j)=-1)∨(∃ h:kT l (r.from_+j) < l.length,r.from_+j < l[kT l (r.from_+j)].from_/\bO l (r.from_+j)=-1)∨(∃ h:kT l (r.from_+j) < l.length,l[kT l (r.from_+j)].from_<=r.from_+j/\bO l (r.from_+j)=(kT l (r.from_+j):Int)):=by
   by_cases h:kT l (r.from_+j) < l.length
   ·by_cases h2:r.from_+j < l[kT l (r.from_+j)].from_
    ·exact .inr (.inl ⟨h,h2,rZ hio fun _=>h2⟩)
    ·exact .inr (.inr ⟨h,by omega,ET hio h om⟩)
   ·exact .inl ⟨by omega,rZ hio fun h2=>absurd h2 h⟩
  clear hkj hcp hA1 hTI hSA hfw hgf hra hKc hTs hP0 hthr hdM hK;generalize T[dG r l (r.from_+j)]=te at *;generalize dG r l (r.from_+j)=ci at *;generalize A[j]=st at *;obtain ⟨Bm,es,ck,L⟩:=te;dsimp only [mpF] at hmp hcell hat ihj hms hmpS;simp only [hms] at ihj;rcases hcs with ⟨hk1,hp⟩|⟨hk1,hk2,hp⟩|⟨hk1,hk2,hp⟩
  ·rw [hp] at hix
   generalize kT l (r.from_+j)=K at *;repeat' first|(refine gp ?_;and_intros<;>first|exact trivial|repeat first|intro(Bk:Nat)|intro h)|(apply G.cV (g:=124);rfl;rfl;exact fun w' hw'=>hsr _ w' hw' mm mm)|(apply G.cV (g:=150);rfl;rfl;exact fun w' hw'=>hix _ _ w' hw' mm)|(apply J.Py (.q 0 <| .q 1 <| .q 2 <| .q 3 <| .q 4 <| .q 5 <| .q 6 <| .q 7 <| .q 8 <| .q 9 <| .q 10 <| .q 11 <| .r 12 <| .nil);exact Tryz.Pr;decide +kernel)|(apply G.ld;rfl;(apply LdV.one;apply aC.blk;exact mm;exact hcell);rfl)|(apply G.ix (i:=A0.length+j);rfl;rfl;exact hxf;exact hAj;rfl)|(apply G.mu (kf:=Value.int .i64) (a:=st) hmp rfl;rfl;rfl;rfl;rfl;(repeat (first|exact hat _|apply RAt.tail));intro es2 ck2 hI2)
   all_goals
    rw [hmpS _ _ (gH st (.bool true) L)];exact J.P1 (ihj Bk _ _ hI2)
  ·obtain ⟨bb,ob,hbe,hrow⟩:=aE.all hB.1 om
   subst hbe;have hrK:=hrow _ hk1;clear hrow;rw [hp] at hix;generalize kT l (r.from_+j)=K at *;generalize l[K]=sp at *;dsimp only [spV] at hrK;repeat' first|(refine gp ?_;and_intros<;>first|exact trivial|repeat first|intro(Bk:Nat)|intro h)|(apply G.cV (g:=124);rfl;rfl;exact fun w' hw'=>hsr _ w' hw' mm mm)|(apply G.cV (g:=150);rfl;rfl;exact fun w' hw'=>hix _ _ w' hw' mm)|(apply J.Py (.q 0 <| .q 1 <| .q 2 <| .q 3 <| .q 4 <| .q 5 <| .q 6 <| .q 7 <| .q 8 <| .q 9 <| .q 10 <| .q 11 <| .r 12 <| .nil);exact Tryz.Pr;decide +kernel)|(apply G.ld;rfl;(apply LdV.one;apply aC.blk;exact mm;exact hcell);rfl)|(apply G.ix (i:=A0.length+j);rfl;rfl;exact hxf;exact hAj;rfl)|(apply G.mu (kf:=Value.int .i64) (a:=st) hmp rfl;rfl;rfl;rfl;rfl;(repeat (first|exact hat _|apply RAt.tail));intro es2 ck2 hI2)
   all_goals
    rw [hmpS _ _ (gH st (.bool true) L)];exact J.P1 (ihj Bk _ _ hI2)
  ·obtain ⟨bb,ob,hbe,hrow⟩:=aE.all hB.1 om
   subst hbe;have hrK:=hrow _ hk1;clear hrow;rw [hp] at hix;generalize kT l (r.from_+j)=K at *;generalize l[K]=sp at *;dsimp only [spV] at hrK;repeat' first|(refine gp ?_;and_intros<;>first|exact trivial|repeat first|intro(Bk:Nat)|intro h)|(apply G.cV (g:=124);rfl;rfl;exact fun w' hw'=>hsr _ w' hw' mm mm)|(apply G.cV (g:=150);rfl;rfl;exact fun w' hw'=>hix _ _ w' hw' mm)|(apply J.Py (.q 0 <| .q 1 <| .q 2 <| .q 3 <| .q 4 <| .q 5 <| .q 6 <| .q 7 <| .q 8 <| .q 9 <| .q 10 <| .q 11 <| .r 12 <| .nil);exact Tryz.Pr;decide +kernel)|(apply G.ld;rfl;(apply LdV.one;apply aC.blk;exact mm;exact hcell);rfl)|(apply G.ix (i:=A0.length+j);rfl;rfl;exact hxf;exact hAj;rfl)|(apply G.mu (kf:=Value.int .i64) (a:=st) hmp rfl;rfl;rfl;rfl;rfl;(repeat (first|exact hat _|apply RAt.tail));intro es2 ck2 hI2)
   all_goals
    rw [hmpS _ _ (gH st (.bool true) L)];exact J.P1 (ihj Bk _ _ hI2)
 obtain rfl:j=m:=by omega
 clear ihj hj;have hTA:=fun c hc s=>TIn.all hTI om (c:=c) hc s
 repeat' first|(refine gp ?_;and_intros<;>first|exact trivial|repeat first|intro(Bk:Nat)|intro h)|(apply G.PD (n:=(aD r l).length) [.bool false,.string (bs []),.string (bs [])];rfl;rfl;rfl;rfl;rfl;omega;omega;rfl;omega;omega;intro Bv)
 rw [show flat (fun x:List Value=>x) (List.replicate (aD r l).length [.bool false,.string (bs []),.string (bs [])])=flat qW (vvL (fun _=>0) (aD r l).length) from by rw [KE];exact D7 _]
 refine J.loop (c:=_) (fun _=>0:Nat->Rat) (fun x=>Ob t r l x) (fun x=>[(2,.slice (some ⟨kb,ko,none⟩) (aD r l).length kc),(4,.func (.func (isF t)) #[] #[]),(5,.pointer (some ⟨B5,0,none⟩)),(6,.pointer (some ⟨B6,0,none⟩)),(10,.pointer (some ⟨B10,0,none⟩)),(11,.slice (some ⟨Bt,0,none⟩) (aD r l).length (aD r l).length),(16,.slice (some ⟨Bv,0,none⟩) (aD r l).length (aD r l).length)]) (fun x=>.blk Bv 25 (flat qW (vvL x (aD r l).length)) ((aD r l).length*3)::.blk Bt 202 (flat moV (T.map fun e=>some e.1)) ((aD r l).length*1)::.blk B10 63 [.slice none 0 0,.slice none 0 0] 2::.blk B8 30 [.int .i64 f0,.slice (some ⟨hb,ho,none⟩) S.length hc] 2::.blk B6 23 [.slice b l.length d] 1::.blk B5 67 [.int .i64 r.from_,.int .i64 r.to_,.slice (some ⟨tb,to,none⟩) r.tab.length r.cap,.int .i64 r.lo,.int .i64 r.hi] 5::(rws mpF T++[])) (fun x=>qU t r l A pi0 x) ?_ sbT sbL ?_
 ·exact hP0
 clear hP0;intro vv hP ihv;have hfv:=fun c (hc:c < (aD r l).length)=>hfw _ _ hP c hc
 all_goals (refine go ?_;and_intros<;>first|exact trivial|repeat first|intro(Bk:Nat)|intro h)
 refine J.loop (c:=_) (0:Nat) (fun x=>(aD r l).length-x) (fun x=>[(2,.slice (some ⟨kb,ko,none⟩) (aD r l).length kc),(4,.func (.func (isF t)) #[] #[]),(5,.pointer (some ⟨B5,0,none⟩)),(6,.pointer (some ⟨B6,0,none⟩)),(10,.pointer (some ⟨B10,0,none⟩)),(11,.slice (some ⟨Bt,0,none⟩) (aD r l).length (aD r l).length),(16,.slice (some ⟨Bv,0,none⟩) (aD r l).length (aD r l).length),(87,.slice (some ⟨kb,ko,none⟩) (aD r l).length kc),(88,.int .i64 (aD r l).length),(89,.int .i64 x)]) (fun x=>.blk Bv 25 (flat qW (vvL vv (aD r l).length)) ((aD r l).length*3)::.blk Bt 202 (flat moV (T.map fun e=>some e.1)) ((aD r l).length*1)::.blk B10 63 [.slice none 0 0,.slice none 0 0] 2::.blk B8 30 [.int .i64 f0,.slice (some ⟨hb,ho,none⟩) S.length hc] 2::.blk B6 23 [.slice b l.length d] 1::.blk B5 67 [.int .i64 r.from_,.int .i64 r.to_,.slice (some ⟨tb,to,none⟩) r.tab.length r.cap,.int .i64 r.lo,.int .i64 r.hi] 5::(rws mpF T++[])) (fun x=>x<=(aD r l).length/\∀ a b s,a < x->b < (aD r l).length->thS r l A a s->¬ sgR t (vv a+aS l (aG r l b) s-aS l (aG r l a) s) < sgR t (vv b)) ?_ sbT sbL ?_
 ·exact ⟨Nat.zero_le _,fun a b s h=>absurd h (Nat.not_lt_zero _)⟩
 intro ca ⟨hca,hI⟩ iha;by_cases haa:ca < (aD r l).length
 ·
  have hKa:=hKc ca haa;all_goals (refine go ?_;and_intros<;>first|exact trivial|repeat first|intro(Bk:Nat)|intro h)
  obtain ⟨B18,rfl⟩:∃ x,x=Bk:=⟨_,rfl⟩;refine J.loop (c:=_) (0:Nat) (fun x=>(aD r l).length-x) (fun x=>[(2,.slice (some ⟨kb,ko,none⟩) (aD r l).length kc),(4,.func (.func (isF t)) #[] #[]),(5,.pointer (some ⟨B5,0,none⟩)),(6,.pointer (some ⟨B6,0,none⟩)),(10,.pointer (some ⟨B10,0,none⟩)),(11,.slice (some ⟨Bt,0,none⟩) (aD r l).length (aD r l).length),(16,.slice (some ⟨Bv,0,none⟩) (aD r l).length (aD r l).length),(87,.slice (some ⟨kb,ko,none⟩) (aD r l).length kc),(88,.int .i64 (aD r l).length),(89,.int .i64 ca),(17,.int .i64 ca),(18,.pointer (some ⟨B18,0,none⟩)),(94,.slice (some ⟨kb,ko,none⟩) (aD r l).length kc),(95,.int .i64 (aD r l).length),(96,.int .i64 x)]) (fun x=>.blk B18 90 [.int .i64 (aG r l ca),.int .i64 (aT r l ca)] 2::.blk Bv 25 (flat qW (vvL vv (aD r l).length)) ((aD r l).length*3)::.blk Bt 202 (flat moV (T.map fun e=>some e.1)) ((aD r l).length*1)::.blk B10 63 [.slice none 0 0,.slice none 0 0] 2::.blk B8 30 [.int .i64 f0,.slice (some ⟨hb,ho,none⟩) S.length hc] 2::.blk B6 23 [.slice b l.length d] 1::.blk B5 67 [.int .i64 r.from_,.int .i64 r.to_,.slice (some ⟨tb,to,none⟩) r.tab.length r.cap,.int .i64 r.lo,.int .i64 r.hi] 5::(rws mpF T++[])) (fun x=>x<=(aD r l).length/\∀ b s,b < x->thS r l A ca s->¬ sgR t (vv ca+aS l (aG r l b) s-aS l (aG r l ca) s) < sgR t (vv b)) ?_ sbT sbL ?_
  ·exact ⟨Nat.zero_le _,fun b s h=>absurd h (Nat.not_lt_zero _)⟩
  intro cb ⟨hcb,hJ⟩ ihb;by_cases hbb:cb < (aD r l).length
  ·clear iha
   have hKb:=hKc cb hbb;have hTc:ca < T.length:=by omega
   obtain ⟨hmp,-⟩:=hTI ca hTc;have hth:=hTA ca hTc;have hcell:=KD hTc;have hmT:=fun R=>iG (F:=mpF) (T:=T) (M0:=R) hTc
   generalize T[ca]=te at *;obtain ⟨Bm,es,ck,L⟩:=te;dsimp only [mpF] at hmp hth hcell hmT;repeat' first|(refine gp ?_;and_intros<;>first|exact trivial|repeat first|intro(Bk:Nat)|intro h)|(apply G.ld;rfl;(apply LdV.one;apply aC.blk;exact mm;exact hcell);rfl)|(apply G.rg;rfl;(repeat (first|exact hmT _|apply List.Mem.tail));rfl;intro Bi)
   obtain ⟨B20,rfl⟩:∃ x,x=Bk:=⟨_,rfl⟩;refine J.loop (c:=_) ((#[],L):Array Nat×List (Int×Value)) (fun x=>x.2.length) (fun x=>[(2,.slice (some ⟨kb,ko,none⟩) (aD r l).length kc),(4,.func (.func (isF t)) #[] #[]),(5,.pointer (some ⟨B5,0,none⟩)),(6,.pointer (some ⟨B6,0,none⟩)),(10,.pointer (some ⟨B10,0,none⟩)),(11,.slice (some ⟨Bt,0,none⟩) (aD r l).length (aD r l).length),(16,.slice (some ⟨Bv,0,none⟩) (aD r l).length (aD r l).length),(87,.slice (some ⟨kb,ko,none⟩) (aD r l).length kc),(88,.int .i64 (aD r l).length),(89,.int .i64 ca),(17,.int .i64 ca),(18,.pointer (some ⟨B18,0,none⟩)),(94,.slice (some ⟨kb,ko,none⟩) (aD r l).length kc),(95,.int .i64 (aD r l).length),(96,.int .i64 cb),(19,.int .i64 cb),(20,.pointer (some ⟨B20,0,none⟩)),(105,.pointer (some ⟨Bi,0,none⟩))]) (fun x=>.obj Bi (.mapIter (some Bm) ck x.1 ck)::.blk B20 90 [.int .i64 (aG r l cb),.int .i64 (aT r l cb)] 2::.blk B18 90 [.int .i64 (aG r l ca),.int .i64 (aT r l ca)] 2::.blk Bv 25 (flat qW (vvL vv (aD r l).length)) ((aD r l).length*3)::.blk Bt 202 (flat moV (T.map fun e=>some e.1)) ((aD r l).length*1)::.blk B10 63 [.slice none 0 0,.slice none 0 0] 2::.blk B8 30 [.int .i64 f0,.slice (some ⟨hb,ho,none⟩) S.length hc] 2::.blk B6 23 [.slice b l.length d] 1::.blk B5 67 [.int .i64 r.from_,.int .i64 r.to_,.slice (some ⟨tb,to,none⟩) r.tab.length r.cap,.int .i64 r.lo,.int .i64 r.hi] 5::(rws mpF T++[])) (fun x=>Rem (Value.int .i64) es x.1 x.2/\(∀ p∈x.2,p∈L)/\∀ s,thS r l A ca s->s∈x.2.map (·.1)∨¬ sgR t (vv ca+aS l (aG r l cb) s-aS l (aG r l ca) s) < sgR t (vv cb)) ?_ sbT sbL ?_
   ·exact ⟨Rem.start hmp,fun p hp=>hp,fun s hs=>.inl ((hth s).2 hs)⟩
   intro ⟨seen,R⟩ ⟨hRm,hRL,hdn⟩ ihm;dsimp only at hRm hRL hdn ⊢;by_cases hR0:R=[]
   ·subst hR0
    clear ihm;repeat' first|(refine gp ?_;and_intros<;>first|exact trivial|repeat first|intro(Bk:Nat)|intro h)|(apply G.Rk hmp hRm;rfl;rfl;exact mm;(repeat (first|exact hmT _|apply List.Mem.tail)))
    have ihb:=ihb (cb+1) ⟨hbb,fun b s h1 h2=>by
     by_cases e:b=cb
     ·subst e;exact (hdn s h2).resolve_left List.not_mem_nil
     ·exact hJ b s om h2⟩ om
    exact J.P1 ihb
   ·skip
    repeat' first|(refine gp ?_;and_intros<;>first|exact trivial|repeat first|intro(Bk:Nat)|intro h)|(apply G.Rj hmp hRm hR0;rfl;rfl;(repeat (first|exact RAt.head|apply RAt.tail));(repeat (first|exact hmT _|apply List.Mem.tail));intro j hj seen' hRm' ⟨e,he,hsn,hek,hev⟩)|(apply G.en hmp he hsn hek hev;rfl;rfl;exact mm;(repeat (first|exact hmT _|apply List.Mem.tail)))
    have hs1:=(hth R[j].1).1 (List.mem_map_of_mem (hRL _ (gM hj)));have hsb:=hthr ca _ hs1;have hdn2:¬ sgR t (vv ca+aS l (aG r l cb) R[j].1-aS l (aG r l ca) R[j].1) < sgR t (vv cb)->∀ s,thS r l A ca s->s∈(R.eraseIdx j).map (·.1)∨¬ sgR t (vv ca+aS l (aG r l cb) s-aS l (aG r l ca) s) < sgR t (vv cb):=fun hno s hs=>by
     rcases hdn s hs with h|h
     ·obtain ⟨p,hp,rfl⟩:=List.mem_map.1 h
      rcases vM hj hp with h2|h2
      ·subst h2;exact .inr hno
      ·exact .inl (List.mem_map_of_mem h2)
     ·exact .inr h
    have ihm:=fun hno=>ihm (seen',R.eraseIdx j) ⟨hRm',fun p hp=>hRL p (List.mem_of_mem_eraseIdx hp),hdn2 hno⟩ (by dsimp only;rw [List.length_eraseIdx,if_pos hj];omega)
    dsimp only at ihm;obtain ⟨st,hst⟩:∃ st:Nat,R[j].1=st:=⟨R[j].1.toNat,by omega⟩
    rw [hst] at hs1 hsb ihm ⊢;have ra:=hra ca haa st hsb;have rb:=hra cb hbb st hsb;have ga:=hgf (aG r l ca) st hsb;have gb:=hgf (aG r l cb) st hsb;have fa:=hfv ca haa;have fb:=hfv cb hbb;have fng:=uO ga;have hng:=Ma (aH.big ga dc);have f1:=eT fa gb dc dc;have f2:=eT f1 fng dc dc;have hstep:=fun y hy=>hP.step h0 hag haa hbb hs1 (y:=y) hy
    obtain ⟨y,hy⟩:∃ y,y=vv ca+aS l (aG r l cb) st-aS l (aG r l ca) st:=⟨_,rfl⟩;have ey:vv ca+aS l (aG r l cb) st+-aS l (aG r l ca) st=y:=by rw [hy,Rat.sub_eq_add_neg]
    have hstep:=hstep y hy;have hpl:=fun (M:List Row) w' (hw':Sat w M w') Bq Eq tq hm=>Ph (B:=Bq) (E:=Eq) (tot:=tq) hw' rfl rfl rfl (aH.big fa dc) (aH.big gb dc) (aH.big fng dc) (aH.big f1 dc) (aH.big f2 dc) hm
    rw [ey] at f2;simp only [ey] at hpl;rw [<- hy] at ihm;have his:=yW t (aH.big f2 dc) (aH.big fb dc);have hset:dU (flat qW (vvL vv (aD r l).length)) (0+cb*3) (qW y)=flat qW (vvL (oO vv cb y) (aD r l).length):=by rw [Nat.zero_add,pJ bY (by rw [sF];exact hbb),Mv]
    have hga:=wX (vv:=vv) haa;have hgb:=wX (vv:=vv) hbb;have hla:qW (vv ca)=[.bool (rQ (vv ca)).neg,.string (bs (rQ (vv ca)).num),.string (bs (rQ (vv ca)).den)]:=rfl;have hlb:qW (vv cb)=[.bool (rQ (vv cb)).neg,.string (bs (rQ (vv cb)).num),.string (bs (rQ (vv cb)).den)]:=rfl;have hly:qW y=[.bool (rQ y).neg,.string (bs (rQ y).num),.string (bs (rQ y).den)]:=rfl;rw [hly] at hset;have hKa:=hKc ca haa;clear hly ey hy ga gb fa fb fng f1 f2 hdn2 hdn hRm' hRm hRL hst hJ hI ihb hTI hTA hfw hfv hgf hra hKc hTs hP hthr hdM hSA hlen;by_cases himp:sgR t y < sgR t (vv cb)
    ·rw [dT himp] at his
     have hst2:=hstep himp;have ihv:=ihv _ hst2.1 hst2.2;clear ihm hstep hst2 himp;generalize rQ y=q4 at *;generalize rQ (vv ca)=q1 at *;generalize rQ (vv cb)=q6 at *;generalize rQ (-aS l (aG r l ca) st)=q3 at *;generalize rQ (aS l (aG r l ca) st)=q5 at *;generalize rQ (aS l (aG r l cb) st)=q2 at *;obtain ⟨n1,u1,d1⟩:=q1;obtain ⟨n2,u2,d2⟩:=q2;obtain ⟨n3,u3,d3⟩:=q3;obtain ⟨n4,u4,d4⟩:=q4;obtain ⟨n5,u5,d5⟩:=q5;obtain ⟨n6,u6,d6⟩:=q6;dsimp only [qA] at *;repeat' first|(refine gp ?_;and_intros<;>first|exact trivial|repeat first|intro(Bk:Nat)|intro h)|(apply J.Py (.q 0 <| .q 1 <| .q 2 <| .q 3 <| .q 4 <| .q 5 <| .q 6 <| .q 7 <| .q 8 <| .q 9 <| .q 10 <| .q 11 <| .q 12 <| .f 13 (.q 14 <| .e 15 <| .r 16 <| .nil) 15 (.e 13 <| .q 14 <| .r 16 <| .nil));exact Tryz.Pr;decide +kernel)|(apply G.Qi)|(apply G.ld;rfl;exact LdV.P6 bY mm hga rfl hla;rfl)|(apply G.ld;rfl;exact LdV.P6 bY mm hgb rfl hlb;rfl)|(apply G.cV (g:=43) (d:=117);rfl;rfl;exact fun w' hw=>rb w' hw.below)|(apply G.cV (g:=43) (d:=121);rfl;rfl;exact fun w' hw=>ra w' hw.below)|(apply G.cV (g:=145);rfl;rfl;exact fun w' _=>hng w')|(apply G.Pu;rfl;rfl;rfl;rfl;rfl;rfl;rfl;rfl;intro Bs)|(apply G.cV (g:=40);rfl;rfl;exact fun w' hw'=>hpl _ w' hw' _ _ _ (by exact mm))|(apply G.cF (g:=isF t);rfl;rfl;rfl;exact fun w' _=>his w')|(apply G.sA (vs:=[.bool n4,.string (bs u4),.string (bs d4)]);rfl;rfl;rfl;(repeat (first|exact RAt.head|apply RAt.tail));rfl;rfl;(rw [aO bY,sF];dsimp only [List.length_cons,List.length_nil];omega);exact hset)
     all_goals exact J.P1 ihv
    ·rw [dF himp] at his
     have ihm:=ihm himp;clear ihv hstep himp;generalize rQ y=q4 at *;generalize rQ (vv ca)=q1 at *;generalize rQ (vv cb)=q6 at *;generalize rQ (-aS l (aG r l ca) st)=q3 at *;generalize rQ (aS l (aG r l ca) st)=q5 at *;generalize rQ (aS l (aG r l cb) st)=q2 at *;obtain ⟨n1,u1,d1⟩:=q1;obtain ⟨n2,u2,d2⟩:=q2;obtain ⟨n3,u3,d3⟩:=q3;obtain ⟨n4,u4,d4⟩:=q4;obtain ⟨n5,u5,d5⟩:=q5;obtain ⟨n6,u6,d6⟩:=q6;dsimp only [qA] at *;repeat' first|(refine gp ?_;and_intros<;>first|exact trivial|repeat first|intro(Bk:Nat)|intro h)|(apply J.Py (.q 0 <| .q 1 <| .q 2 <| .q 3 <| .q 4 <| .q 5 <| .q 6 <| .q 7 <| .q 8 <| .q 9 <| .q 10 <| .q 11 <| .q 12 <| .f 13 (.q 14 <| .e 15 <| .r 16 <| .nil) 15 (.e 13 <| .q 14 <| .r 16 <| .nil));exact Tryz.Pr;decide +kernel)|(apply G.Qi)|(apply G.ld;rfl;exact LdV.P6 bY mm hga rfl hla;rfl)|(apply G.ld;rfl;exact LdV.P6 bY mm hgb rfl hlb;rfl)|(apply G.cV (g:=43) (d:=117);rfl;rfl;exact fun w' hw=>rb w' hw.below)|(apply G.cV (g:=43) (d:=121);rfl;rfl;exact fun w' hw=>ra w' hw.below)|(apply G.cV (g:=145);rfl;rfl;exact fun w' _=>hng w')|(apply G.Pu;rfl;rfl;rfl;rfl;rfl;rfl;rfl;rfl;intro Bs)|(apply G.cV (g:=40);rfl;rfl;exact fun w' hw'=>hpl _ w' hw' _ _ _ (by exact mm))|(apply G.cF (g:=isF t);rfl;rfl;rfl;exact fun w' _=>his w')|(apply G.sA (vs:=[.bool n4,.string (bs u4),.string (bs d4)]);rfl;rfl;rfl;(repeat (first|exact RAt.head|apply RAt.tail));rfl;rfl;(rw [aO bY,sF];dsimp only [List.length_cons,List.length_nil];omega);exact hset)
     all_goals exact J.P1 ihm
  ·obtain rfl:cb=(aD r l).length:=by omega
   clear ihb;have iha:=iha (ca+1) ⟨haa,fun a b s h1 h2 h3=>by
    by_cases e:a=ca
    ·subst e;exact hJ b s h2 h3
    ·exact hI a b s om h2 h3⟩ om
   all_goals (refine go ?_;and_intros<;>first|exact trivial|repeat first|intro(Bk:Nat)|intro h)
   exact J.P1 iha
 obtain rfl:ca=(aD r l).length:=by omega
 have hE:Gq t r l A vv:=fun a b s h1 h2 h3=>hI a b s h1 h2 h3
 clear iha ihv hI;all_goals (refine go ?_;and_intros<;>first|exact trivial|repeat first|intro(Bk:Nat)|intro h)
 obtain ⟨B23,rfl⟩:∃ x,x=Bk:=⟨_,rfl⟩;apply J.nilOwn (E:=25) (size:=3);refine J.loop (c:=_) ((0,none,0):Nat×Option Addr×Nat) (fun x=>r.tab.length-x.1) (fun x=>[(2,.slice (some ⟨kb,ko,none⟩) (aD r l).length kc),(4,.func (.func (isF t)) #[] #[]),(6,.pointer (some ⟨B6,0,none⟩)),(10,.pointer (some ⟨B10,0,none⟩)),(16,.slice (some ⟨Bv,0,none⟩) (aD r l).length (aD r l).length),(23,.pointer (some ⟨B23,0,none⟩)),(141,.slice (some ⟨tb,to,none⟩) r.tab.length r.cap),(142,.int .i64 r.tab.length),(143,.int .i64 x.1)]) (fun x=>.own 0 (.slice x.2.1 x.1 x.2.2) 25 3 x.1 (flat qW (uLs t r l vv x.1))::.blk B23 63 [.slice x.2.1 x.1 x.2.2,.slice (some ⟨Bv,0,none⟩) (aD r l).length (aD r l).length] 2::.blk Bv 25 (flat qW (vvL vv (aD r l).length)) ((aD r l).length*3)::.blk B10 63 [.slice none 0 0,.slice none 0 0] 2::.blk B6 23 [.slice b l.length d] 1::(rws mpF T++[])) (fun x=>x.1<=r.tab.length) ?_ sbT sbL ?_
 ·exact Nat.zero_le _
 intro ⟨i,sa,sc⟩ hin ihi;dsimp only at hin ⊢;by_cases hii:i < r.tab.length
 ·have hTi:=hTs i hii
  have hK0:=hKc 0 hcn0;have ra:=hra 0 hcn0 _ (hts i hii);have g0:=hgf (aG r l 0) _ (hts i hii);have f0:=hfv 0 hcn0;have hsb:=NS (aH.big g0 dc) (aH.big f0 dc);have hu0:uU t r l vv i 0=aS l (aG r l 0) (tbS r i)-vv 0:=HB i;have hga:=wX (vv:=vv) hcn0;have hla:qW (vv 0)=[.bool (rQ (vv 0)).neg,.string (bs (rQ (vv 0)).num),.string (bs (rQ (vv 0)).den)]:=rfl;rw [<- hu0] at hsb;have ihi:=fun a c=>ihi (i+1,a,c) hii (by dsimp only;omega)
  dsimp only at ihi;clear g0 f0 hu0;generalize hqu:rQ (uU t r l vv i 0)=qu at *;generalize rQ (vv 0)=q1 at hsb hla;generalize rQ (aS l (aG r l 0) (tbS r i))=q2 at hsb ra;obtain ⟨n1,u1,d1⟩:=q1;obtain ⟨n2,u2,d2⟩:=q2;obtain ⟨n3,u3,d3⟩:=qu;dsimp only [qA] at hsb hla ra;repeat' first|(refine gp ?_;and_intros<;>first|exact trivial|repeat first|intro(Bk:Nat)|intro h)|(apply J.Py (.q 0 <| .q 1 <| .q 2 <| .q 3 <| .q 4 <| .q 5 <| .q 6 <| .q 7 <| .q 8 <| .q 9 <| .q 10 <| .e 11 <| .r 12 <| .nil);exact Tryz.Pr;decide +kernel)|(apply G.ld;rfl;exact LdV.P6 bY mm hga rfl hla;rfl)|(apply G.cV (g:=43);rfl;rfl;exact fun w' hw=>ra w' hw.below)|(apply G.cV (g:=28);rfl;rfl;exact fun w' _=>hsb w')
  rename_i B25;obtain ⟨B26,rfl⟩:∃ x,x=Bk:=⟨_,rfl⟩;clear ra hsb hga hla hK0;refine J.loop (c:=_) ((0,⟨n3,u3,d3⟩):Nat×Q3) (fun x=>(aD r l).length-x.1) (fun x=>[(2,.slice (some ⟨kb,ko,none⟩) (aD r l).length kc),(4,.func (.func (isF t)) #[] #[]),(6,.pointer (some ⟨B6,0,none⟩)),(10,.pointer (some ⟨B10,0,none⟩)),(16,.slice (some ⟨Bv,0,none⟩) (aD r l).length (aD r l).length),(23,.pointer (some ⟨B23,0,none⟩)),(141,.slice (some ⟨tb,to,none⟩) r.tab.length r.cap),(142,.int .i64 r.tab.length),(143,.int .i64 i),(25,.pointer (some ⟨B25,0,none⟩)),(26,.pointer (some ⟨B26,0,none⟩)),(158,.slice (some ⟨kb,ko,none⟩) (aD r l).length kc),(159,.int .i64 (aD r l).length),(160,.int .i64 x.1)]) (fun x=>.blk B26 25 [.bool x.2.neg,.string (bs x.2.num),.string (bs x.2.den)] 3::.blk B25 95 [.int .i64 (tbS r i),.int .i64 (tbT r i)] 2::.own 0 (.slice sa i sc) 25 3 i (flat qW (uLs t r l vv i))::.blk B23 63 [.slice sa i sc,.slice (some ⟨Bv,0,none⟩) (aD r l).length (aD r l).length] 2::.blk Bv 25 (flat qW (vvL vv (aD r l).length)) ((aD r l).length*3)::.blk B10 63 [.slice none 0 0,.slice none 0 0] 2::.blk B6 23 [.slice b l.length d] 1::(rws mpF T++[])) (fun x=>x.1<=(aD r l).length/\x.2=rQ (uU t r l vv i x.1)) ?_ sbT sbL ?_
  ·exact ⟨Nat.zero_le _,hqu.symm⟩
  clear hqu;intro ⟨c,q⟩ ⟨hcn,hq⟩ ihc;dsimp only at hcn hq ⊢;by_cases hcc:c < (aD r l).length
  ·have hKa:=hKc c hcc
   have ra:=hra c hcc _ (hts i hii);have g0:=hgf (aG r l c) _ (hts i hii);have f0:=hfv c hcc;have hsb:=NS (aH.big g0 dc) (aH.big f0 dc);have f1:=jX g0 f0 dc dc;have hga:=wX (vv:=vv) hcc;have hla:qW (vv c)=[.bool (rQ (vv c)).neg,.string (bs (rQ (vv c)).num),.string (bs (rQ (vv c)).den)]:=rfl;have fu:aH 20000000 (rQ (uU t r l vv i c)):=by
    obtain ⟨c',h1,h2⟩:=MW (t:=t) (r:=r) (l:=l) (vv:=vv) i c;have hc':c' < (aD r l).length:=by rcases h1 with h1|h1<;>omega
    rw [h2];exact aF (jX (hgf (aG r l c') _ (hts i hii)) (hfv c' hc') dc dc) dc
   have his:=yW t (aH.big f1 dc) (aH.big fu dc);have hus:=HC (t:=t) (r:=r) (l:=l) (vv:=vv) i c;rw [show gT l r i c=aS l (aG r l c) (tbS r i) from rfl] at hus
   have ihc:=fun q h=>ihc (c+1,q) ⟨hcc,h⟩ (by dsimp only;omega)
   dsimp only at ihc;rw [<- hq] at his;clear g0 f0 f1 fu hfw hfv hgf hra hKc hTs hP hthr hdM hSA hlen ihi;by_cases himp:sgR t (aS l (aG r l c) (tbS r i)-vv c) < sgR t (uU t r l vv i c)
   ·rw [if_pos himp] at hus
    rw [dT himp] at his;rw [hus] at ihc;have ihN:=ihc _ rfl;clear ihc;clear himp hus hq;generalize rQ (aS l (aG r l c) (tbS r i)-vv c)=q4 at *;generalize rQ (vv c)=q1 at *;generalize rQ (aS l (aG r l c) (tbS r i))=q2 at *;obtain ⟨n1,u1,d1⟩:=q1;obtain ⟨n2,u2,d2⟩:=q2;obtain ⟨n4,u4,d4⟩:=q4;obtain ⟨n5,u5,d5⟩:=q;dsimp only [qA] at *;repeat' first|(refine gp ?_;and_intros<;>first|exact trivial|repeat first|intro(Bk:Nat)|intro h)|(apply J.Py (.q 0 <| .q 1 <| .q 2 <| .q 3 <| .q 4 <| .q 5 <| .q 6 <| .q 7 <| .q 8 <| .q 9 <| .e 10 <| .r 11 <| .nil);exact Tryz.Pr;decide +kernel)|(apply G.ld;rfl;exact LdV.P6 bY mm hga rfl hla;rfl)|(apply G.cV (g:=43);rfl;rfl;exact fun w' hw=>ra w' hw.below)|(apply G.cV (g:=28);rfl;rfl;exact fun w' _=>hsb w')|(apply G.cF (g:=isF t);rfl;rfl;rfl;exact fun w' _=>his w')
    exact J.P1 ihN
   ·rw [if_neg himp] at hus
    rw [dF himp] at his;rw [hus] at ihc;have ihN:=ihc _ hq;clear ihc;clear himp hus hq;generalize rQ (aS l (aG r l c) (tbS r i)-vv c)=q4 at *;generalize rQ (vv c)=q1 at *;generalize rQ (aS l (aG r l c) (tbS r i))=q2 at *;obtain ⟨n1,u1,d1⟩:=q1;obtain ⟨n2,u2,d2⟩:=q2;obtain ⟨n4,u4,d4⟩:=q4;obtain ⟨n5,u5,d5⟩:=q;dsimp only [qA] at *;repeat' first|(refine gp ?_;and_intros<;>first|exact trivial|repeat first|intro(Bk:Nat)|intro h)|(apply J.Py (.q 0 <| .q 1 <| .q 2 <| .q 3 <| .q 4 <| .q 5 <| .q 6 <| .q 7 <| .q 8 <| .q 9 <| .e 10 <| .r 11 <| .nil);exact Tryz.Pr;decide +kernel)|(apply G.ld;rfl;exact LdV.P6 bY mm hga rfl hla;rfl)|(apply G.cV (g:=43);rfl;rfl;exact fun w' hw=>ra w' hw.below)|(apply G.cV (g:=28);rfl;rfl;exact fun w' _=>hsb w')|(apply G.cF (g:=isF t);rfl;rfl;rfl;exact fun w' _=>his w')
    exact J.P1 ihN
  ·obtain rfl:c=(aD r l).length:=by omega
   clear ihc;have hcat:flat qW (uLs t r l vv i)++[.bool q.neg,.string (bs q.num),.string (bs q.den)]=flat qW (uLs t r l vv (i+1)):=by
    rw [KF,hq];rfl
   clear hq;repeat' first|(refine gp ?_;and_intros<;>first|exact trivial|repeat first|intro(Bk:Nat)|intro h)|(apply G.Pu;rfl;rfl;rfl;rfl;rfl;rfl;rfl;rfl;intro Bs)|(apply G.ap;rfl;rfl;rfl;(repeat (first|exact RAt.head|apply RAt.tail));exact cB.blk (by exact mm) rfl rfl;exact hcat;omega;omega;intro v2;refine G.PS RAt.au ?_;intro a2 c2 hv2;subst hv2)
   exact J.P1 (ihi a2 c2)
 ·obtain rfl:i=r.tab.length:=by omega
  clear ihi;all_goals (refine go ?_;and_intros<;>first|exact trivial|repeat first|intro(Bk:Nat)|intro h)
  (refine kE Tryz.func112 Tryz.results112 ?_;intro w' hw)
  refine ⟨⟨(vv,(sa,sc),(some ⟨Bv,0,none⟩,(aD r l).length)),⟨pi0,hP⟩,hE⟩,?_,⟨?_,?_⟩,?_,?_,hw.below⟩
  ·rw [Gs];rfl
  ·have h1:=aE.P8 (f:=qW) bY (hw.hold (.own 0 (.slice sa r.tab.length sc) 25 3 r.tab.length (flat qW (uLs t r l vv r.tab.length))) mm) (by unfold uLs;simp)
   rw [show (iC t r l vv sa sc (some ⟨Bv,0,none⟩) (aD r l).length).st.map qV=(uLs t r l vv r.tab.length).map qW from by unfold iC uLs;rw [List.map_map,List.map_map];rfl]
   exact h1
  ·have h1:=aE.P5 (f:=qW) (l:=vvL vv (aD r l).length) bY hw mm
   rw [show (iC t r l vv sa sc (some ⟨Bv,0,none⟩) (aD r l).length).cl.map qV=(vvL vv (aD r l).length).map qW from by unfold iC vvL;rw [List.map_map,List.map_map];rfl]
   exact h1
  ·intro p hp
   exact ((hw.old (.own 0 (.slice sa r.tab.length sc) 25 3 r.tab.length (flat qW (uLs t r l vv r.tab.length))) mm).2 p.block (by dsimp only at hp;subst hp;rfl)).1
  ·intro p hp
   cases hp;exact ((hw.old (.blk Bv 25 (flat qW (vvL vv (aD r l).length)) ((aD r l).length*3)) mm).2 Bv rfl).1
end Go.Proofs.YtjcecdmbfmccoaaGreatDoor
