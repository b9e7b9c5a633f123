/-
  A small logic of memory over the walk: what is known of the temporaries is a list, what is known of the call's own memory is a list of rows; the world itself is not named.
-/
import Derived.WalkKit
import Derived.WalkSpells
import Derived.WalkLawsBesides
import Derived.Deep.Quiet
import Derived.RangeFuncIn
set_option linter.unusedVariables false
set_option linter.unusedSimpArgs false
set_option linter.unusedSectionVars false
theorem om {p:Prop} (h:p:=by omega):p:=h
theorem dc {p:Prop} (h:p:=by decide):p:=h
theorem gE {α:Type _}{l:List α}{i:Nat} (h:i < l.length):l[i]?=some l[i]:=List.getElem?_eq_getElem h
theorem gD {α:Type _}{l:List α}{i:Nat}{a:α}:l.getD i a=l[i]?.getD a:=List.getD_eq_getElem?_getD
theorem dT {p:Prop}[inst:Decidable p] (h:p):decide p=true:=decide_eq_true h
theorem dF {p:Prop}[inst:Decidable p] (h:¬p):decide p=false:=decide_eq_false h
theorem mC {α:Type _}{a:α}{l:List α} (y:α) (h:a∈l):a∈y::l:=List.mem_cons_of_mem y h
theorem gM {α:Type _}{l:List α}{n:Nat} (h:n < l.length):l[n]∈l:=List.getElem_mem h
namespace Go.Sl
open Go.RowKit
def kM:List (Nat×Value)->Nat->Option Value
 | [],_=>none
 | (k,v)::r,t=>match Nat.beq k t with
  | true=>some v
  | false=>kM r t
structure fF (N:Nat) (st:List (Nat×Value)) (a:Act):Prop where
 size:a.tmps.size=N
 get:∀ t v,kM st t=some v->a.tmps[t]?=some v
theorem fF.put {N:Nat}{st:List (Nat×Value)}{a:Act} (h:fF N st a) {d:Nat} (hd:Nat.blt d N=true) (v:Value):fF N ((d,v)::st) (a.put (some d) v):=by
 have hd':d < N:=by simpa using hd
 refine ⟨by simp [Act.put,h.size],fun t u hu=>?_⟩
 simp only [kM] at hu;split at hu
 ·rename_i e
  have e':d=t:=by simpa using e
  subst e';cases hu;simp [Act.put,h.size,hd']
 ·rename_i e
  have e':d≠t:=fun h=>by subst h;simp at e
  have:=h.get t u hu;simp [Act.put,Array.getElem?_setIfInBounds_ne e',this]
def evS (st:List (Nat×Value)):Operand->Option Value
 | .tmp t=>kM st t
 | .const v=>some v
 | .global g=>some (.pointer (some ⟨g,0,none⟩))
 | .func f=>some (.func (.func f) #[] #[])
theorem fF.eval {N:Nat}{st:List (Nat×Value)}{a:Act} (h:fF N st a) {x:Operand}{v:Value} (hx:evS st x=some v):a.eval x=v:=by
 cases x with
 | tmp t=>simp only [evS] at hx;simp [Act.eval,h.get t v hx]
 | const u=>simp only [evS,Option.some.injEq] at hx;exact hx
 | global g=>simp only [evS,Option.some.injEq] at hx;exact hx
 | func f=>simp only [evS,Option.some.injEq] at hx;exact hx
def Sub (st:List (Nat×Value)):List (Nat×Value)->Prop
 | []=>True
 | (t,v)::r=>kM st t=some v/\Sub st r
theorem Sub.get {st:List (Nat×Value)}:∀ {st':List (Nat×Value)},Sub st st'->∀ t v,kM st' t=some v->kM st t=some v
 | [],_,t,v,h=>by simp [kM] at h
 | (k,u)::r,hs,t,v,h=>by
  simp only [kM] at h
  split at h
  ·rename_i e
   have e':k=t:=by simpa using e
   subst e';cases h;exact hs.1
  ·exact Sub.get hs.2 t v h
theorem fF.sub {N:Nat}{st st':List (Nat×Value)}{a:Act} (h:fF N st a) (hs:Sub st st'):fF N st' a :=
 ⟨h.size,fun t v hv=>h.get t v (hs.get t v hv)⟩
inductive Row where
 | blk (b:Nat) (e:TypeId) (cs:List Value) (tot:Nat)
 | own (base:Nat) (v:Value) (e:TypeId) (size n:Nat) (xs:List Value)
 | obj (b:Nat) (o:Obj)
 | inv (b:Nat) (A:Obj->Prop)
 | fact (N:Nat) (S:Nat->Prop) (A:World->Prop) (hk:∀ w w':World,(∀ b,(b < N∨S b)->w'.heap[b]?=w.heap[b]?)->A w->A w')
def Row.sup:Row->Nat->Prop
 | .blk b _ _ _,k=>k=b
 | .own _ v _ _ _ _,k=>v.ownBlock=some k
 | .obj b _,k=>k=b
 | .inv b _,k=>k=b
 | .fact _ S _ _,k=>S k
def Row.lock:Row->Nat->Prop
 | .blk b _ _ _,k=>k=b
 | .own _ v _ _ _ _,k=>v.ownBlock=some k
 | .obj b _,k=>k=b
 | .inv b _,k=>k=b
 | .fact _ _ _ _,_=>False
theorem Row.P2 {r:Row}{k:Nat} (h:r.lock k):r.sup k:=by
 cases r with
 | blk=>exact h
 | own=>exact h
 | obj=>exact h
 | inv=>exact h
 | fact=>exact h.elim
def Row.base:Row->Nat
 | .fact N _ _ _=>N
 | _=>0
def Row.hold:Row->World->Prop
 | .blk b e cs tot,w=>∃ rest:List Value,w.heap[b]?=some (.cells (cs++rest).toArray e (0,0))/\cs.length+rest.length=tot
 | .own base v e size n xs,w=>w.ownsRow base e size v n xs
 | .obj b o,w=>w.heap[b]?=some o
 | .inv b A,w=>∃ o,w.heap[b]?=some o/\A o
 | .fact _ _ A _,w=>A w
theorem CE {w w':World}{base:Nat}{e:TypeId}{size:Nat}{v:Value}{n:Nat}{xs:List Value} (h:∀ b,v.ownBlock=some b->w'.heap[b]?=w.heap[b]?) (ho:w.ownsRow base e size v n xs):w'.ownsRow base e size v n xs:=by
 obtain ⟨h1,h2⟩:=ho;refine ⟨h1,?_⟩;rcases h2 with h2|⟨g,cap,cur,hv,hg,hh,r⟩
 ·exact .inl h2
 ·exact .inr ⟨g,cap,cur,hv,hg,by rw [h g (by rw [hv];rfl)];exact hh,r⟩
theorem Row.keep {r:Row}{w w':World} (h:∀ b,(b < r.base∨r.sup b)->w'.heap[b]?=w.heap[b]?) (hh:r.hold w):r.hold w':=by
 cases r with
 | blk b e cs tot =>
  obtain ⟨rest,h1,h2⟩:=hh;exact ⟨rest,by rw [h b (.inr rfl)];exact h1,h2⟩
 | own base v e size n xs=>exact CE (fun b hb=>h b (.inr hb)) hh
 | obj b o=>exact (h b (.inr rfl)).trans hh
 | inv b A=>obtain ⟨o,h1,h2⟩:=hh;exact ⟨o,(h b (.inr rfl)).trans h1,h2⟩
 | fact N S A hk=>exact hk w w' h hh
structure Sat (w0:World) (M:List Row) (w:World):Prop where
 below:Below w0.heap.size w0 w
 hold:∀ r∈M,r.hold w
 old:∀ r∈M,r.base<=w0.heap.size/\∀ b,r.sup b->w0.heap.size<=b/\b < w.heap.size
 apart:M.Pairwise (fun r s=>∀ b,(r.lock b->¬ s.sup b)/\(s.lock b->¬ r.sup b))
theorem Sat.start (w0:World):Sat w0 [] w0:=⟨Below.refl _ _,by simp,by simp,.nil⟩
theorem Sat.size {w0 w:World}{M:List Row} (h:Sat w0 M w):w0.heap.size<=w.heap.size:=h.below.size
theorem Sat.ext {w0 w w':World}{M:List Row} (h:Sat w0 M w) (hb:Below w.heap.size w w'):Sat w0 M w':=by
 refine ⟨h.below.trans (hb.mono h.size),fun r hr=>Row.keep (fun b hb'=>hb.block b ?_) (h.hold r hr),fun r hr=>⟨(h.old r hr).1,fun b hb'=>⟨((h.old r hr).2 b hb').1,Nat.lt_of_lt_of_le ((h.old r hr).2 b hb').2 hb.size⟩⟩,h.apart⟩
 rcases hb' with h1|h1
 ·exact Nat.lt_of_lt_of_le (Nat.lt_of_lt_of_le h1 (h.old r hr).1) h.size
 ·exact ((h.old r hr).2 b h1).2
theorem Sat.new {w0 w w':World}{M:List Row} (h:Sat w0 M w) (hb:Below w.heap.size w w') {r:Row} (hr:r.hold w') (hbase:r.base<=w0.heap.size) (hs:∀ b,r.sup b->w.heap.size<=b/\b < w'.heap.size):Sat w0 (r::M) w':=by
 have h':=h.ext hb;refine ⟨h'.below,?_,?_,?_⟩
 ·intro s hs'
  rcases List.mem_cons.1 hs' with rfl|hs'
  ·exact hr
  ·exact h'.hold s hs'
 ·intro s hs'
  rcases List.mem_cons.1 hs' with rfl|hs'
  ·exact ⟨hbase,fun b hb'=>⟨Nat.le_trans h.size (hs b hb').1,(hs b hb').2⟩⟩
  ·exact h'.old s hs'
 ·refine List.pairwise_cons.2 ⟨fun s hs' b=>⟨fun hb' hb''=>?_,fun hb'' hb'=>?_⟩,h'.apart⟩
  ·have h1:=(hs b (Row.P2 hb')).1
   have h2:=((h.old s hs').2 b hb'').2;omega
  ·have h1:=(hs b hb').1
   have h2:=((h.old s hs').2 b (Row.P2 hb'')).2;omega
theorem Sat.change {w0 w w':World}{M:List Row} (h:Sat w0 M w) {i:Nat}{r r':Row} (hi:M[i]?=some r)
  (hos:w'.os=w.os) (htape:w'.tape=w.tape) (hout:w'.output=w.output) (hsize:w.heap.size<=w'.heap.size)
  (hblock:∀ k,k < w.heap.size->¬ r.lock k->w'.heap[k]?=w.heap[k]?)
  (hr:r'.hold w') (hbase:r'.base<=w0.heap.size) (hs:∀ b,r'.sup b->(r.lock b∨w.heap.size<=b)/\b < w'.heap.size):Sat w0 (M.set i r') w':=by
 have hlt:i < M.length:=(List.getElem?_eq_some_iff.1 hi).1;have hri:r∈M:=List.mem_of_getElem? hi;have hmem:∀ s∈M.set i r',s=r'∨(s∈M/\(∀ b,s.sup b->¬ r.lock b)):=by
  intro s hs';obtain ⟨j,hj⟩:=List.mem_iff_getElem?.1 hs';by_cases e:i=j
  ·subst e
   rw [List.getElem?_set_self hlt] at hj;cases hj;exact .inl rfl
  ·rw [List.getElem?_set_ne e] at hj
   refine .inr ⟨List.mem_of_getElem? hj,?_⟩;have hjl:=(List.getElem?_eq_some_iff.1 hj).1;have hp:=List.pairwise_iff_getElem.1 h.apart;have ei:M[i]=r:=(List.getElem?_eq_some_iff.1 hi).2;have ej:M[j]=s:=(List.getElem?_eq_some_iff.1 hj).2;rcases Nat.lt_or_ge i j with hij|hij
   ·have:=hp i j hlt hjl hij
    rw [ei,ej] at this;exact fun b hb hb'=>(this b).1 hb' hb
   ·have:=hp j i hjl hlt om
    rw [ei,ej] at this;exact fun b hb hb'=>(this b).2 hb' hb
 have hnew:∀ b,r'.sup b->w0.heap.size<=b:=fun b hb=>by
  rcases (hs b hb).1 with h1|h1
  ·exact ((h.old r hri).2 b (Row.P2 h1)).1
  ·exact Nat.le_trans h.size h1
 refine ⟨h.below.trans ⟨hos,htape,hout,hsize,fun k hk=>hblock k (Nat.lt_of_lt_of_le hk h.size) fun hk'=>?_⟩,?_,?_,?_⟩
 ·have:=((h.old r hri).2 k (Row.P2 hk')).1
  omega
 ·intro s hs'
  rcases hmem s hs' with rfl|⟨h1,h3⟩
  ·exact hr
  ·refine Row.keep (fun b hb=>hblock b ?_ ?_) (h.hold s h1)
   ·rcases hb with hb|hb
    ·exact Nat.lt_of_lt_of_le (Nat.lt_of_lt_of_le hb (h.old s h1).1) h.size
    ·exact ((h.old s h1).2 b hb).2
   ·rcases hb with hb|hb
    ·intro hb'
     have h4:=((h.old r hri).2 b (Row.P2 hb')).1;have h5:=(h.old s h1).1;omega
    ·exact h3 b hb
 ·intro s hs'
  rcases hmem s hs' with rfl|⟨h1,-⟩
  ·exact ⟨hbase,fun b hb=>⟨hnew b hb,(hs b hb).2⟩⟩
  ·exact ⟨(h.old s h1).1,fun b hb=>⟨((h.old s h1).2 b hb).1,Nat.lt_of_lt_of_le ((h.old s h1).2 b hb).2 hsize⟩⟩
 ·refine List.pairwise_iff_getElem.2 fun x y hx hy hxy b=>?_
  rw [List.length_set] at hx hy;have hp:=List.pairwise_iff_getElem.1 h.apart;have ei:M[i]=r:=(List.getElem?_eq_some_iff.1 hi).2;by_cases ex:i=x
  ·subst ex
   rw [List.getElem_set_self,List.getElem_set_ne om];have key:r'.sup b->¬ M[y].sup b:=fun hb hb'=>by
    rcases (hs b hb).1 with h1|h1
    ·exact (hp i y hlt hy hxy b).1 (by rw [ei];exact h1) hb'
    ·have:=((h.old M[y] (gM hy)).2 b hb').2
     omega
   exact ⟨fun hb hb'=>key (Row.P2 hb) hb',fun hb' hb=>key hb (Row.P2 hb')⟩
  ·rw [List.getElem_set_ne ex]
   by_cases ey:i=y
   ·subst ey
    rw [List.getElem_set_self];have key:r'.sup b->¬ M[x].sup b:=fun hb hb'=>by
     rcases (hs b hb).1 with h1|h1
     ·exact (hp x i hx hlt hxy b).2 (by rw [ei];exact h1) hb'
     ·have:=((h.old M[x] (gM hx)).2 b hb').2
      omega
    exact ⟨fun hb hb'=>key hb' (Row.P2 hb),fun hb' hb=>key (Row.P2 hb') hb⟩
   ·rw [List.getElem_set_ne ey]
    exact hp x y hx hy hxy b
theorem Sat.addFact {w0 w:World}{M:List Row} (h:Sat w0 M w) {N:Nat}{S:Nat->Prop}{A:World->Prop}{hk:∀ w w':World,(∀ b,(b < N∨S b)->w'.heap[b]?=w.heap[b]?)->A w->A w'}
  (hN:N<=w0.heap.size) (hA:A w) (hS:∀ b,S b->w0.heap.size<=b/\b < w.heap.size/\∀ r∈M,¬ r.lock b):Sat w0 (.fact N S A hk::M) w:=by
 refine ⟨h.below,?_,?_,List.pairwise_cons.2 ⟨fun s hs' b=>⟨fun hb' _=>hb'.elim,fun hb' hb=>(hS b hb).2.2 s hs' hb'⟩,h.apart⟩⟩
 ·intro s hs'
  rcases List.mem_cons.1 hs' with rfl|hs'
  ·exact hA
  ·exact h.hold s hs'
 ·intro s hs'
  rcases List.mem_cons.1 hs' with rfl|hs'
  ·exact ⟨hN,fun b hb=>⟨(hS b hb).1,(hS b hb).2.1⟩⟩
  ·exact h.old s hs'
theorem Sat.forget {w0 w:World}{M M':List Row} (h:Sat w0 M w) (hs:M'.Sublist M):Sat w0 M' w :=
 ⟨h.below,fun r hr=>h.hold r (hs.subset hr),fun r hr=>h.old r (hs.subset hr),h.apart.sublist hs⟩
theorem Sat.cellOld {w0 w:World}{M:List Row} (h:Sat w0 M w) {p:Addr}{v:Value} (hc:w0.cell? p=some v) (hp:p.block < w0.heap.size):w.cell? p=some v :=
 (h.below.cell hp).trans hc
theorem Sat.cellBlk {w0 w:World}{M:List Row} (h:Sat w0 M w) {b:Nat}{e:TypeId}{cs:List Value}{n:Nat} (hm:Row.blk b e cs n∈M) {j:Nat}{v:Value} (hv:cs[j]?=some v):w.cell? ⟨b,j,none⟩=some v:=by
 obtain ⟨rest,h1,-⟩:=h.hold _ hm;have hj:=(List.getElem?_eq_some_iff.1 hv).1;simp only [World.cell?,h1,Option.isSome_none,Bool.false_eq_true,if_false];simp [List.getElem?_append_left hj,hv]
theorem Sat.alloc {w0 w:World}{M:List Row} (h:Sat w0 M w) (e:TypeId) (cs:List Value):Sat w0 (.blk w.heap.size e cs cs.length::M) (w.alloc (.cells cs.toArray e)):=by
 refine h.new ((Below.refl _ _).alloc (Nat.le_refl _) _) ⟨[],?_,by simp⟩ (Nat.zero_le _) fun b hb=>?_
 ·rw [List.append_nil];show (w.heap.push _)[w.heap.size]?=_;simp
 ·cases hb;exact ⟨Nat.le_refl _,by simp⟩
theorem tY (w:World) (b j:Nat) (v:Value) (c:Array Value) (e:TypeId) (f:Nat×Nat) (h:w.heap[b]?=some (.cells c e f)):(w.setCell ⟨b,j,none⟩ v).heap[b]?=some (.cells (c.setIfInBounds j v) e f):=by
 simp only [World.setCell,Array.getElem?_modify,if_true,h,Option.map_some,Option.isSome_none,Bool.false_eq_true,if_false]
theorem Sat.set {w0 w:World}{M:List Row} (h:Sat w0 M w) {i b:Nat}{e:TypeId}{cs:List Value}{n:Nat} (hi:M[i]?=some (Row.blk b e cs n)) {j:Nat} (hj:j < cs.length) (v:Value):Sat w0 (M.set i (.blk b e (cs.set j v) n)) (w.setCell ⟨b,j,none⟩ v):=by
 obtain ⟨rest,h1,h2⟩:=h.hold _ (List.mem_of_getElem? hi);have hb:b < w.heap.size:=(Array.getElem?_eq_some_iff.1 h1).1;refine h.change hi rfl rfl rfl (by simp [World.setCell]) (fun k hk hk'=>Below.heap_setCell _ _ _ _ hk') ⟨rest,?_,by simpa using h2⟩ (Nat.zero_le _) fun b' hb'=>⟨.inl hb',by cases hb';simpa [World.setCell] using hb⟩
 rw [tY w b j v _ _ _ h1];simp [List.set_append_left _ _ hj]
def Run (P:Program) (b:Frame) (PHI:List Frame->Machine->Prop) (todo:List Item) (a:Act) (w:World):Prop :=
 ∀ cs,∃ m',Steps P (lone (b.atR a todo) cs w) m'/\PHI cs m'
structure Ctx where
 P:Program
 b:Frame
 PHI:List Frame->Machine->Prop
 N:Nat
 w0:World
 D:List Deferred
structure J (C:Ctx) (st:List (Nat×Value)) (M:List Row) (todo:List Item):Prop where
 go:∀ a w,fF C.N st a->a.defers=C.D->Sat C.w0 M w->Run C.P C.b C.PHI todo a w
theorem Run.step {P:Program}{b:Frame}{PHI:List Frame->Machine->Prop}{todo todo':List Item}{a a':Act}{w w':World}
  (hs:∀ cs,step P (lone (b.atR a todo) cs w)=.next (lone (b.atR a' todo') cs w')) (h:Run P b PHI todo' a' w'):Run P b PHI todo a w :=
 fun cs=>let ⟨m,h1,h2⟩:=h cs;⟨m,.head (hs cs) h1,h2⟩
variable {C:Ctx}{st:List (Nat×Value)}{M:List Row}{k:List Item}
theorem J.sub {st':List (Nat×Value)} (hs:Sub st st') (h:J C st' M k):J C st M k:=.mk fun a w hf hd hw=>h.go a w (hf.sub hs) hd hw
theorem J.forget {M':List Row} (hs:M'.Sublist M) (h:J C st M' k):J C st M k:=.mk fun a w hf hd hw=>h.go a w hf hd (hw.forget hs)
theorem J.skip (h:J C st M k):J C st M (.code .skip::k):=.mk fun a w hf hd hw=>(h.go a w hf hd hw).step fun _=>stepR_skip
theorem J.label {l:Nat} (h:J C st M k):J C st M (.code (.label l)::k):=.mk fun a w hf hd hw=>(h.go a w hf hd hw).step fun _=>stepR_label
theorem J.inBlock {id:Nat} (h:J C st M k):J C st M (.inBlock id::k):=.mk fun a w hf hd hw=>(h.go a w hf hd hw).step fun _=>stepR_inBlock
theorem J.seq {x y:Code} (h:J C st M (.code x::.code y::k)):J C st M (.code (.seq x y)::k):=.mk fun a w hf hd hw=>(h.go a w hf hd hw).step fun _=>stepR_seq
theorem J.block {id:Nat}{c:Code} (h:J C st M (.code c::.inBlock id::k)):J C st M (.code (.block id c)::k):=.mk fun a w hf hd hw=>(h.go a w hf hd hw).step fun _=>stepR_block
theorem J.exit {id:Nat}{k':List Item} (hk:exitTo id k=some k') (h:J C st M k'):J C st M (.code (.exit id)::k):=.mk fun a w hf hd hw=>(h.go a w hf hd hw).step fun _=>stepR_exit hk
theorem J.QL {c:Operand}{x y:Code} (hc:evS st c=some (.bool true)) (h:J C st M (.code x::k)):J C st M (.code (.cond c x y)::k) :=
 .mk fun a w hf hd hw=>(h.go a w hf hd hw).step fun cs=>by have:=stepR_cond (P:=C.P) (b:=C.b) (k:=k) (cs:=cs) (w:=w) (x:=x) (y:=y) (hf.eval hc);simpa using this
theorem J.QM {c:Operand}{x y:Code} (hc:evS st c=some (.bool false)) (h:J C st M (.code y::k)):J C st M (.code (.cond c x y)::k) :=
 .mk fun a w hf hd hw=>(h.go a w hf hd hw).step fun cs=>by have:=stepR_cond (P:=C.P) (b:=C.b) (k:=k) (cs:=cs) (w:=w) (x:=x) (y:=y) (hf.eval hc);simpa using this
theorem J.loop {X:Type}{c:Code} (x0:X) (mu:X->Nat) (sts:X->List (Nat×Value)) (Ms:X->List Row) (I:X->Prop)
  (h0:I x0) (hst:Sub st (sts x0)) (hM:(Ms x0).Sublist M)
  (body:∀ x,I x->(∀ x',I x'->mu x' < mu x->J C (sts x') (Ms x') (.inLoop c::k))->J C (sts x) (Ms x) (.code c::.inLoop c::k)) :
  J C st M (.code (.loop c)::k):=by
 have key:∀ n x,mu x=n->I x->J C (sts x) (Ms x) (.code c::.inLoop c::k):=by
  intro n
  induction n using Nat.strongRecOn with
  | _ n ih =>
   intro x hx hI;refine body x hI fun x' hI' hlt=>?_
   have:=ih (mu x') om x' rfl hI';exact .mk fun a w hf hd hw=>(this.go a w hf hd hw).step fun _=>stepR_inLoop
 exact .mk fun a w hf hd hw=>((key _ x0 rfl h0).go a w (hf.sub hst) hd (hw.forget hM)).step fun _=>stepR_loop
theorem Run.op {P:Program}{b:Frame}{PHI:List Frame->Machine->Prop}{ops:Array Oper}{i:Nat}{rest:List Nat}{o:Oper}{a:Act}{w:World}
  (ho:ops[i]?=some o) (hw:Region.wanted o (yielded ops a.tmps)=true) (hnd:b.roundOf=none∨∀ c,o.op≠.defer c)
  (hu:o.upon P a (fun a' w'=>Run P b PHI (.inRegion ops rest::k) a' w') (fun _ _ _=>False) ((execOp a.eval o).run P w)) :
  Run P b PHI (.inRegion ops (i::rest)::k) a w:=by
 intro cs;have hsem:o.semAt b.roundOf a.eval=execOp a.eval o:=by
  rcases hnd with h|h
  ·rw [h];rfl
  ·exact Oper.semAt_eq _ _ _ h
 have hg:=stepGR_op (P:=P) (b:=b) (k:=k) (cs:=cs) (w:=w) (rest:=rest) ho hw;rw [hsem] at hg;have hfin:∀ v,(b.atR a (.inRegion ops (i::rest)::k)).finish v=b.atR (a.put o.dst v) (.inRegion ops rest::k):=by
  intro v;rw [Frame.finish_atR,ho];rfl
 unfold Oper.upon at hu;split at hu
 ·rename_i v w' hr
  obtain ⟨m,h1,h2⟩:=hu cs;refine ⟨m,.head (step_lone_go ?_) h1,h2⟩;rw [hg,<- hfin];simp [stepG.apply,hr]
 ·rename_i w' hr
  obtain ⟨m,h1,h2⟩:=hu cs;refine ⟨m,.head (step_lone_go ?_) h1,h2⟩;rw [hg,<- hfin];simp [stepG.apply,hr]
 ·rename_i d w' hr
  obtain ⟨m,h1,h2⟩:=hu cs;refine ⟨m,.head (step_lone_go ?_) h1,h2⟩
  have:({ b.atR a (.inRegion ops (i::rest)::k) with defers:=d::a.defers }:Frame).finish undef =
    b.atR ({ a with defers:=d::a.defers }.put o.dst undef) (.inRegion ops rest::k):=by
   have:=Frame.finish_atR b { a with defers:=d::a.defers } ops i rest k undef
   rw [ho] at this;exact this
  rw [hg];simp only [stepG.apply,Sem.runT_eq,hr,GStep.bare_after];exact congrArg (fun fr=>GStep.go { frame:=fr,callers:=cs,status:=.running,dying:=none } w') this
 ·rename_i f args w' hr
  obtain ⟨e,w'',fr,hR,hsteps,_,hleave⟩:=hu (b.atR a (.inRegion ops (i::rest)::k)::cs);have henter:Go.step P (lone (b.atR a (.inRegion ops (i::rest)::k)) cs w) =
    .next (lone (Frame.enter P f args .normal) (b.atR a (.inRegion ops (i::rest)::k)::cs) w') :=
   step_lone_go (by rw [hg];simp [stepG.apply,hr,Frame.atR])
  cases e with
  | returned v =>
   obtain ⟨m,h1,h2⟩:=hR cs;refine ⟨m,.head henter (hsteps.trans (.head ?_ h1)),h2⟩;rw [<- hfin];exact step_leave_returned hleave
  | panicked chain=>exact hR.elim
  | outgrown=>obtain ⟨_,_,hq⟩:=hR;exact hq.elim
 ·rename_i row args w' hr
  obtain ⟨v,w'',hR,hsteps⟩:=hu (b.atR a (.inRegion ops (i::rest)::k)) cs;have henter:Go.step P (lone (b.atR a (.inRegion ops (i::rest)::k)) cs w) =
    .next (lone (Frame.ofRow P row args .normal) (b.atR a (.inRegion ops (i::rest)::k)::cs) w') :=
   step_lone_go (by rw [hg];simp [stepG.apply,hr,Frame.atR])
  obtain ⟨m,h1,h2⟩:=hR cs;refine ⟨m,.head henter (hsteps.trans ?_),h2⟩;rw [hfin];exact h1
 ·exact hu.elim
 ·exact hu.elim
theorem Run.Qn {P:Program}{b:Frame}{PHI:List Frame->Machine->Prop}{ops:Array Oper}{i:Nat}{rest:List Nat}{o:Oper}{a:Act}{w:World}
  (ho:ops[i]?=some o) (hw:Region.wanted o (yielded ops a.tmps)=false) (h:Run P b PHI (.inRegion ops rest::k) (a.put o.dst undef) w) :
  Run P b PHI (.inRegion ops (i::rest)::k) a w :=
 h.step fun cs=>by
  have:=stepR_op_skip (P:=P) (b:=b) (a:=a) (k:=k) (cs:=cs) (w:=w) (ops:=ops) (i:=i) (rest:=rest) (by simp [ho,hw])
  simpa [ho] using this
def Qk (C:Ctx) (k:List Item) (e:Exit) (a:Act) (w:World):Prop:=e=.normal/\Run C.P C.b C.PHI k a w
theorem Oper.Qt {P:Program}{o:Oper}{a:Act}{n n':Act->World->Prop}{Q:Exit->Act->World->Prop}{r:Result Next} (hn:∀ a w,n a w->n' a w) (hQ:∀ e a w,Q e a w->e=.normal) (h:o.upon P a n Q r):o.upon P a n' (fun _ _ _=>False) r:=by
 unfold Oper.upon at *;split at h
 ·exact hn _ _ h
 ·exact hn _ _ h
 ·exact hn _ _ h
 ·refine h.mono fun e w' hh=>?_
  cases e with
  | returned v=>exact hn _ _ hh
  | panicked c=>exact absurd (hQ _ _ _ hh) (by simp)
  | outgrown=>obtain ⟨_,_,hq⟩:=hh;exact absurd (hQ _ _ _ hq) (by simp)
 ·exact h.mono fun v w' hh=>hn _ _ hh
 ·exact absurd (hQ _ _ _ h) (by simp)
 ·exact h.elim
def jS (l:List Oper):Bool:=l.all fun o=>match o.op with|.defer _=>false|_=>true
theorem Ee {l:List Oper} (h:jS l=true) {o:Oper} (ho:o∈l):∀ c,o.op≠.defer c:=by
 intro c e;have:=List.all_eq_true.1 h o ho;rw [e] at this;simp at this
theorem eR {C:Ctx}{ops:Array Oper} (hnd:jS ops.toList=true):∀ (l:List Nat) (a:Act) (w:World),wpOps C.P ops (Qk C k) l a w->Run C.P C.b C.PHI (.inRegion ops l::k) a w
 | [],a,w,h=>by
  simp only [wpOps] at h
  exact h.2.step fun _=>stepR_region_end
 | i::rest,a,w,h=>by
  simp only [wpOps] at h
  cases ho:ops[i]? with
  | none =>
   simp only [ho] at h
   refine (eR hnd rest a w h).step fun cs=>?_
   have:=stepR_op_skip (P:=C.P) (b:=C.b) (a:=a) (k:=k) (cs:=cs) (w:=w) (ops:=ops) (i:=i) (rest:=rest) (by simp [ho])
   simpa [ho,Act.put] using this
  | some o =>
   simp only [ho] at h
   by_cases hw:Region.wanted o (yielded ops a.tmps)=true
   ·simp only [hw,if_true] at h
    rcases h with h|⟨-,_,_,hq⟩
    ·refine Run.op ho hw (.inr (Ee hnd (by rw [Array.mem_toList_iff];exact Array.mem_of_getElem? ho))) ?_
     exact Oper.Qt (fun a' w' h'=>eR hnd rest a' w' h') (fun e a w hq=>hq.1) h
    ·exact absurd hq.1 (by simp)
   ·simp only [hw,if_false,Bool.false_eq_true] at h
    exact Run.Qn ho (by simpa using hw) (eR hnd rest _ w h)
def JO (C:Ctx) (all:List Oper) (st:List (Nat×Value)) (M:List Row) (l:List Oper) (k:List Item):Prop :=
 ∀ a w,fF C.N st a->a.defers=C.D->Sat C.w0 M w->∀ idx:List Nat,idx.map (fun i=>all.toArray[i]?)=l.map some->Run C.P C.b C.PHI (.inRegion all.toArray idx::k) a w
theorem J.region {id:Nat}{l:List Oper} (h:JO C l st M l k):J C st M (.code (.region id l.toArray false)::k) :=
 .mk fun a w hf hd hw=>(h a w hf hd hw (List.range l.toArray.size) (by
  apply List.ext_getElem?;intro i;simp only [List.getElem?_map,List.size_toArray];by_cases hi:i < l.length
  ·rw [List.getElem?_range hi];simp [hi]
  ·have:l.length<=i:=by omega
   rw [List.getElem?_eq_none (by simpa using this)];simp [this])).step fun _=>stepR_region
theorem JO.nil {all:List Oper} (h:J C st M k):JO C all st M [] k:=fun a w hf hd hw idx hi=>by
 have:idx=[]:=by simpa using hi
 subst this;exact (h.go a w hf hd hw).step fun _=>stepR_region_end
structure OpV (C:Ctx) (st:List (Nat×Value)) (M:List Row) (op:Op) (ty:TypeId) (v:Value):Prop where
 go:∀ a w,fF C.N st a->Sat C.w0 M w->∀ dst pos after guard,
  (execOp a.eval ⟨dst,op,ty,pos,after,guard⟩).run C.P w=.ok (.value v) w ∨
  ∃ f args,(execOp a.eval ⟨dst,op,ty,pos,after,guard⟩).run C.P w=.ok (.enter f args) w/\Calls C.P f args w fun e w'=>e=.returned v/\Below w.heap.size w w'
theorem tZ {all:List Oper}{o:Oper}{l:List Oper}{idx:List Nat} (hi:idx.map (fun i=>all.toArray[i]?)=(o::l).map some):∃ i rest,idx=i::rest/\all.toArray[i]?=some o/\rest.map (fun i=>all.toArray[i]?)=l.map some:=by
 cases idx with
 | nil=>simp at hi
 | cons i rest =>
  simp only [List.map_cons,List.cons.injEq] at hi;exact ⟨i,rest,rfl,hi.1,hi.2⟩
def oU (op:Op):Bool:=match op with|.defer _=>false|_=>true
theorem zA {op:Op} (h:oU op=true):∀ c,op≠.defer c:=fun c e=>by subst e;simp [oU] at h
structure Wn (N:Nat) (all:List Oper) (st:List (Nat×Value)) (g:Option (Nat×Bool)):Prop where
 go:∀ a,fF N st a->∀ dst op ty pos after,Region.wanted ⟨dst,op,ty,pos,after,g⟩ (yielded all.toArray a.tmps)=true
theorem Fp {N:Nat}{a:Act}{ops:Array Oper}{j t:Nat}{b:Bool} (hf:fF N st a) (hj:(ops[j]?).bind (·.dst)=some t) (ht:kM st t=some (.bool b)):yielded ops a.tmps j=some b:=by
 simp [yielded,hj,hf.get t _ ht]
theorem Wn.none {N:Nat}{all:List Oper}:Wn N all st none:=.mk fun _ _ _ _ _ _ _=>rfl
theorem Wn.some {N:Nat}{all:List Oper}{j t:Nat}{b:Bool} (hj:(all.toArray[j]?).bind (·.dst)=some t) (ht:kM st t=some (.bool b)):Wn N all st (some (j,b)) :=
 .mk fun a hf dst op ty pos after=>by simp [Region.wanted,Fp hf hj ht]
def wnB (all:List Oper) (st:List (Nat×Value)) (g:Option (Nat×Bool)):Bool:=match g with
 | none=>true
 | some (j,b)=>match (all.toArray[j]?).bind (·.dst) with
  | some t=>match kM st t with
   | some (.bool c)=>c == b
   | _=>false
  | none=>false
theorem Wn.PF {N:Nat}{all:List Oper}{g:Option (Nat×Bool)} (h:wnB all st g=true):Wn N all st g:=by
 cases g with
 | none=>exact Wn.none
 | some p =>
  obtain ⟨j,b⟩:=p;simp only [wnB] at h
  split at h
  ·rename_i t hj
   split at h
   ·rename_i c ht
    have e:c=b:=by simpa using h
    subst e;exact Wn.some hj ht
   ·cases h
  ·cases h
variable {q:Bool}{all rest:List Oper}{d:Nat}{opn:Op}{ty:TypeId}{pos:String}{after:Array Edge}{gd:Option (Nat×Bool)}
theorem JO.op {v:Value} (hv:OpV C st M opn ty v) (hg:wnB all st gd=true) (hn:oU opn=true) (hd:Nat.blt d C.N=true) (h:JO C all ((d,v)::st) M rest k) :
  JO C all st M ({ dst:=some d,op:=opn,type:=ty,pos,after,guard:=gd }::rest) k:=by
 intro a w hf hdf hw idx hi;obtain ⟨i,r,rfl,ho,hr⟩:=tZ hi;refine Run.op ho ((Wn.PF (N:=C.N) hg).go a hf _ _ _ _ _) (.inr (zA hn)) ?_;rcases hv.go a w hf hw (some d) pos after gd with h1|⟨f,args,h1,hc⟩
 ·rw [h1];exact h _ w (hf.put hd v) hdf hw r hr
 ·rw [h1]
  refine hc.mono fun e w' hh=>?_
  obtain ⟨rfl,hs⟩:=hh;exact h _ w' (hf.put hd v) hdf (hw.ext hs) r hr
def QO (C:Ctx) (all:List Oper) (st:List (Nat×Value)) (M:List Row) (l:List Oper) (k:List Item):Prop :=
 ∀ a,fF C.N st a->a.defers=C.D->wpQuiet C.P all.toArray (Sat C.w0 M) (fun a'=>∀ w',Sat C.w0 M w'->Run C.P C.b C.PHI k a' w') l a
theorem Sat.drawn {w0 w:World}{M:List Row} (h:Sat w0 M w):Sat w0 M { w with drawn:=w.drawn+1 }:=h.ext ⟨rfl,rfl,rfl,Nat.le_refl _,fun _ _=>rfl⟩
theorem J.Qy {id:Nat}{l:List Oper} (hm:C.P.follows .mixedOrders=true) (hB:Region.lexB .any l.toArray=true) (hnd:jS l=true) (h:QO C l st M l k) :
  J C st M (.code (.region id l.toArray true)::k):=by
 refine .mk fun a w hf hd hw=>?_
 refine Run.step (a':=a) (w':={ w with drawn:=w.drawn+1 }) (fun cs=>stepR_region_draw) ?_
 refine eR (by simpa using hnd) _ _ _ ?_
 simp only [Region.schedule,hm,Bool.true_or,if_true];simp only [Region.lexB,Bool.and_eq_true] at hB;refine wpAny_sound _ _ _ _ _ (wpAny_of_quiet (C:=Sat C.w0 M) (Q:=fun a'=>∀ w',Sat C.w0 M w'->Run C.P C.b C.PHI k a' w') (fun _ w' hw' h'=>⟨rfl,h' w' hw'⟩) _ _ _ _ hw.drawn ?_)
 have:=wpAnyQ_lex (C:=Sat C.w0 M) (P:=C.P) (Q:=fun a'=>∀ w',Sat C.w0 M w'->Run C.P C.b C.PHI k a' w') hB.1 l 0 (Array.replicate l.toArray.size false) a (by simp) (by simpa using hB.2) (h a hf hd)
 simpa using this
theorem QO.nil {all:List Oper} (h:J C st M k):QO C all st M [] k:=fun a hf hd=>wpQuiet_nil fun w' hw'=>h.go a w' hf hd hw'
theorem QO.op {v:Value} (hv:OpV C st M opn ty v) (hg:wnB all st gd=true) (hd:Nat.blt d C.N=true) (h:QO C all ((d,v)::st) M rest k) :
  QO C all st M ({ dst:=some d,op:=opn,type:=ty,pos,after,guard:=gd }::rest) k:=by
 intro a hf hdf;refine wpQuiet_step fun K hK=>?_
 rw [(Wn.PF (N:=C.N) hg).go a hf,if_pos rfl];refine ⟨v,fun w hw=>?_,hK _ (h _ (hf.put hd v) hdf)⟩
 unfold Oper.quietAt;rcases hv.go a w hf hw (some d) pos after gd with h1|⟨f,args,h1,hc⟩
 ·rw [h1];exact ⟨rfl,rfl⟩
 ·rw [h1];exact ⟨rfl,hc.mono fun e w' hh=>⟨hh.1,hw.ext hh.2⟩⟩
end Go.Sl
/-
 A region that draws its order and whose operations have effects: one walk in a chosen order serves every order.
-/
namespace Go.Sl
open Go.RowKit
def jN (C:World->Prop):Prop:=∀ w w',C w->Below w.heap.size w w'->C w'
inductive sJ (ops:Array Oper):Nat->Nat->Prop where
 | edge {j:Nat}{o:Oper}{e:Edge} (ho:ops[j]?=some o) (he:e∈o.after) (hb:Region.binds .any e=true):sJ ops j e.on
 | step {j m:Nat}{o:Oper}{e:Edge} (h:sJ ops j m) (ho:ops[m]?=some o) (he:e∈o.after) (hb:Region.binds .any e=true):sJ ops j e.on
theorem sJ.trans {ops:Array Oper}{a b c:Nat} (h:sJ ops a b) (h2:sJ ops b c):sJ ops a c:=by
 induction h2 with
 | edge ho he hb=>exact .step h ho he hb
 | step _ ho he hb ih=>exact .step ih ho he hb
def DC (ops:Array Oper) (listed:Array Bool):Prop:=∀ (x:Nat) (o:Oper),ops[x]?=some o->listed.getD x false=true->∀ e∈o.after,Region.binds .any e=true->listed.getD e.on false=true
theorem DC.start (ops:Array Oper) (n:Nat):DC ops (Array.replicate n false):=fun x o _ h=>by
 rw [Array.getD_eq_getD_getElem?,Array.getElem?_replicate] at h;split at h<;>simp at h
theorem DC.set {ops:Array Oper}{listed:Array Bool}{i:Nat} (h:DC ops listed) (hi:i∈Region.ready .any ops listed):DC ops (listed.setIfInBounds i true):=by
 intro x o ho hx e he hb;by_cases hxi:i=x
 ·subst hxi
  obtain ⟨-,o',ho',hall⟩:=mem_ready.1 hi;rw [ho] at ho';cases ho';exact getD_set_true (hall e he hb)
 ·rw [getD_set_ne false hxi] at hx
  exact getD_set_true (h x o ho hx e he hb)
theorem sJ.listed {ops:Array Oper}{listed:Array Bool}{j i:Nat} (h:sJ ops j i) (hdc:DC ops listed) (hj:j∈Region.ready .any ops listed):listed.getD i false=true:=by
 induction h with
 | edge ho he hb =>
  obtain ⟨-,o',ho',hall⟩:=mem_ready.1 hj;rw [ho] at ho';cases ho';exact hall _ he hb
 | step _ ho he hb ih=>exact hdc _ _ ho ih _ he hb
theorem xC {ops:Array Oper}{j:Nat}{o:Oper}{acc:Array Nat} (ho:ops[j]?=some o) (hacc:∀ m i,(acc.getD m 0).testBit i=true->sJ ops m i) :
  ∀ (l:List Edge) (s:Nat),(∀ e∈l,e∈o.after)->(∀ i,s.testBit i=true->sJ ops j i) ->
   ∀ i,(l.foldl (fun s e=>if Region.binds .any e then s ||| 2 ^ e.on ||| acc.getD e.on 0 else s) s).testBit i=true->sJ ops j i
 | [],s,_,hs,i,h=>hs i h
 | e::l,s,hl,hs,i,h=>by
  simp only [List.foldl_cons] at h
  refine xC ho hacc l _ (fun e' he'=>hl e' (mC _ he')) (fun m hm=>?_) i h
  split at hm
  ·rename_i hb
   simp only [Nat.testBit_or,Bool.or_eq_true,Nat.testBit_two_pow,decide_eq_true_eq] at hm;have he:=hl e (List.mem_cons_self ..);rcases hm with (hm|hm)|hm
   ·exact hs m hm
   ·subst hm;exact .edge ho he hb
   ·exact (sJ.edge ho he hb).trans (hacc _ _ hm)
  ·exact hs m hm
theorem Ef {ops:Array Oper}{j i:Nat} (h:((Region.before ops).getD j 0).testBit i=true):sJ ops j i:=by
 have key:∀ (suf pre:List Oper) (acc:Array Nat),ops.toList=pre++suf->acc.size=pre.length->(∀ m i,(acc.getD m 0).testBit i=true->sJ ops m i) ->
   ∀ m i,((suf.foldl (fun acc o=>acc.push (o.after.foldl (fun s e=>if Region.binds .any e then s ||| 2 ^ e.on ||| acc.getD e.on 0 else s) 0)) acc).getD m 0).testBit i=true->sJ ops m i:=by
  intro suf
  induction suf with
  | nil=>intro pre acc _ _ h m i hm;exact h m i hm
  | cons o suf ih =>
   intro pre acc hl hsz hacc m i hm;simp only [List.foldl_cons] at hm;refine ih (pre++[o]) _ (by simp [hl]) (by simp [hsz]) (fun m i hm=>?_) m i hm
   have ho:ops[pre.length]?=some o:=by
    rw [<- Array.getElem?_toList,hl];simp
   by_cases hmm:m < acc.size
   ·refine hacc m i ?_
    rw [Array.getD_eq_getD_getElem?,Array.getElem?_push_lt hmm] at hm;rw [Array.getD_eq_getD_getElem?,Array.getElem?_eq_getElem hmm];exact hm
   ·by_cases hme:m=acc.size
    ·subst hme
     rw [Array.getD_eq_getD_getElem?,Array.getElem?_push_size,Option.getD_some,<- Array.foldl_toList] at hm;rw [hsz];exact xC ho hacc o.after.toList 0 (fun e he=>by simpa using he) (fun i hi=>by simp at hi) i hm
    ·rw [Array.getD_eq_getD_getElem?,Array.getElem?_eq_none (by simp;omega)] at hm
     simp at hm
 refine key ops.toList [] #[] (by simp) rfl (fun m i hm=>by simp at hm) j i ?_
 unfold Region.before at h
 rw [<- Array.foldl_toList] at h
 exact h
def Eg (o:Oper):Bool:=match o.op with
 | .move _|.assign _|.extract _ _=>true
 | _=>false
def CF (ops:Array Oper) (i:Nat):Bool:=match ops[i]? with
 | some o=>Eg o
 | none=>false
def pG (ops:Array Oper) (lt:Nat->Bool) (listed:Array Bool) (j:Nat):Bool :=
 (List.range listed.size).all fun i=>!listed.getD i false || (CF ops i || (lt i || ((Region.before ops).getD j 0).testBit i))
def zB (ops:Array Oper) (listed:Array Bool) (j:Nat):Bool:=pG ops (fun _=>false) listed j
def opK (P:Program) (ops:Array Oper) (i:Nat) (K:Oper->Act->World->Prop) (a:Act) (w:World):Prop :=
 ∃ o,ops[i]?=some o/\if Region.wanted o (yielded ops a.tmps) then o.upon P a (K o) (fun _ _ _=>False) ((execOp a.eval o).run P w) else K o (a.put o.dst undef) w
def CG (P:Program) (ops:Array Oper) (S:World->Prop) (lt:Nat->Bool) (Q:Act->World->Prop):Nat->(World->Prop)->Array Bool->Act->World->Prop
 | 0,_,listed,a,w=>∀ w1,Below w.heap.size w w1->Region.ready .any ops listed=[]/\Q a w1
 | fuel+1,C,listed,a,w=>∀ w1,Below w.heap.size w w1->(Region.ready .any ops listed=[]->Q a w1) /\
  ∀ i∈Region.ready .any ops listed,opK P ops i (fun o a' w'=>∃ C',jN C'/\C' w'/\((∀ u,C' u->C u)∨((∀ u,C' u->S u)/\pG ops lt listed i=true))/\CG P ops S lt Q fuel C' (listed.setIfInBounds i true) a' w') a w1
abbrev wpK (P:Program) (ops:Array Oper) (Q:Act->World->Prop):=CG P ops (fun _=>True) (fun _=>false) Q
section
variable {P:Program}{ops:Array Oper}{Q:Act->World->Prop}{S:World->Prop}{lt:Nat->Bool}
theorem kN {a b c:World} (h:Below a.heap.size a b) (k:Below b.heap.size b c):Below a.heap.size a c:=h.trans (k.mono h.size)
theorem GG {fuel:Nat}{C:World->Prop}{listed:Array Bool}{a:Act}{w w':World} (h:CG P ops S lt Q fuel C listed a w) (hb:Below w.heap.size w w'):CG P ops S lt Q fuel C listed a w':=by
 cases fuel with
 | zero=>exact fun w1 h1=>h w1 (kN hb h1)
 | succ fuel=>exact fun w1 h1=>h w1 (kN hb h1)
theorem BS {o:Oper}{a:Act}{n n':Act->World->Prop}{r:Result Next} (hn:∀ a w,n a w->n' a w) (h:o.upon P a n (fun _ _ _=>False) r):o.upon P a n' (fun _ _ _=>False) r:=by
 unfold Oper.upon at *;split at h
 ·exact hn _ _ h
 ·exact hn _ _ h
 ·exact hn _ _ h
 ·refine h.mono fun e w' hh=>?_
  cases e with
  | returned v=>exact hn _ _ hh
  | panicked c=>exact hh
  | outgrown=>exact hh
 ·exact h.mono fun v w' hh=>hn _ _ hh
 ·exact h.elim
 ·exact h.elim
theorem IQ {i:Nat}{a:Act}{w:World}{K K':Oper->Act->World->Prop} (h:∀ o a w,ops[i]?=some o->K o a w->K' o a w) (hh:opK P ops i K a w):opK P ops i K' a w:=by
 obtain ⟨o,ho,h1⟩:=hh;refine ⟨o,ho,?_⟩;split
 ·rename_i hw;rw [if_pos hw] at h1;exact BS (fun a w=>h o a w ho) h1
 ·rename_i hw;rw [if_neg hw] at h1;exact h o _ _ ho h1
def IR (P:Program) (C:World->Prop) (o:Oper) (v:Value) (a:Act):Prop :=
 ∀ w,C w->(execOp a.eval o).run P w=.ok (.value v) w∨∃ f args,(execOp a.eval o).run P w=.ok (.enter f args) w/\Calls P f args w fun e w'=>e=.returned v/\Below w.heap.size w w'
def Yld (P:Program) (ops:Array Oper) (C:World->Prop) (o:Oper) (v:Value) (a:Act):Prop :=
 (Region.wanted o (yielded ops a.tmps)=true/\IR P C o v a)∨(Region.wanted o (yielded ops a.tmps)=false/\v=undef)
theorem Yld.mono {C C':World->Prop}{o:Oper}{v:Value}{a:Act} (h:Yld P ops C o v a) (hs:∀ w,C' w->C w):Yld P ops C' o v a:=by
 rcases h with ⟨h1,h2⟩|h
 ·exact .inl ⟨h1,fun w hw=>h2 w (hs w hw)⟩
 ·exact .inr h
theorem Yld.of_same {C:World->Prop}{o:Oper}{v:Value}{a a':Act} (hy:Yld P ops C o v a) (he:execOp a'.eval o=execOp a.eval o) (hw:Region.wanted o (yielded ops a'.tmps)=Region.wanted o (yielded ops a.tmps)):Yld P ops C o v a':=by
 unfold Yld IR at *;rw [he,hw];exact hy
theorem IR.pure {C C':World->Prop}{o:Oper}{v:Value}{a:Act}{w:World} (ho:Eg o=true) (hw:C w) (h:IR P C o v a):IR P C' o v a:=by
 obtain ⟨dst,op,ty,pos,after,gd⟩:=o;cases op with
 | move x =>
  refine fun w' _=>.inl ?_
  rcases h w hw with h1|⟨f,args,h1,_⟩
  ·have h2:Result.ok (Next.value (a.eval x)) w=Result.ok (Next.value v) w:=h1
   cases h2;rfl
  ·have h2:Result.ok (Next.value (a.eval x)) w=Result.ok (Next.enter f args) w:=h1
   cases h2
 | assign x =>
  refine fun w' _=>.inl ?_
  rcases h w hw with h1|⟨f,args,h1,_⟩
  ·have h2:Result.ok (Next.value (a.eval x)) w=Result.ok (Next.value v) w:=h1
   cases h2;rfl
  ·have h2:Result.ok (Next.value (a.eval x)) w=Result.ok (Next.enter f args) w:=h1
   cases h2
 | extract x i =>
  refine fun w' _=>.inl ?_
  have key:∀ u:World,(execOp a.eval ⟨dst,.extract x i,ty,pos,after,gd⟩).run P u=((Instr.extract (a.eval x) i).run P u).andThen fun v u'=>.ok (.value v) u':=fun u=>by simp [execOp,Sem.run_bind]
  have key2:∀ r,(((Instr.extract (a.eval x) i).run P w).andThen fun v u'=>Result.ok (Next.value v) u')=.ok r w->(((Instr.extract (a.eval x) i).run P w').andThen fun v u'=>Result.ok (Next.value v) u')=.ok r w'/\∃ u,r=.value u:=by
   intro r h1;unfold Instr.extract at h1 ⊢;split at h1
   ·split at h1
    ·simp only [Sem.run_pure,Result.andThen_ok,Result.ok.injEq,and_true] at h1 ⊢
     exact ⟨h1,_,h1.symm⟩
    ·cases h1
   ·cases h1
  rcases h w hw with h1|⟨f,args,h1,_⟩
  ·rw [key] at h1 ⊢
   exact (key2 _ h1).1
  ·rw [key] at h1
   obtain ⟨_,u,h2⟩:=key2 _ h1;cases h2
 | _=>simp [Eg] at ho
theorem Yld.pure {C C':World->Prop}{o:Oper}{v:Value}{a:Act}{w:World} (ho:Eg o=true) (hw:C w) (h:Yld P ops C o v a):Yld P ops C' o v a:=by
 rcases h with ⟨h1,h2⟩|h
 ·exact .inl ⟨h1,h2.pure ho hw⟩
 ·exact .inr h
theorem Lm {C:World->Prop}{j:Nat}{oi oj:Oper}{v:Value}{a:Act}{w:World}{K:Oper->Act->World->Prop} (hj:ops[j]?=some oj) (hap:oi.apart ops oj=true)
  (hsi:∀ cs b,oi.op≠.select cs b) (hsj:∀ cs b,oj.op≠.select cs b) (hy:Yld P ops C oi v a) (h:opK P ops j K (a.put oi.dst v) w) :
  opK P ops j (fun o a' w'=>Yld P ops C oi v a'/\K o (a'.put oi.dst v) w') a w:=by
 obtain ⟨h1,h2,h3⟩:=Oper.apart_spec hap;obtain ⟨o,ho,hh⟩:=h;rw [hj] at ho;cases ho;refine ⟨oj,hj,?_⟩;rw [wanted_put oj a oi.dst v h1,execOp_put oj hsj a oi.dst v h1] at hh;have keep:∀ u,Yld P ops C oi v (a.put oj.dst u):=fun u=>hy.of_same (execOp_put oi hsi a oj.dst u h3) (wanted_put oi a oj.dst u h3)
 have comm:∀ u,(a.put oi.dst v).put oj.dst u=(a.put oj.dst u).put oi.dst v:=fun u=>Act.put_comm a v u h2
 split
 ·rename_i hw
  rw [if_pos hw] at hh;generalize (execOp a.eval oj).run P w=r at hh ⊢;unfold Oper.upon at hh ⊢;split at hh
  ·exact ⟨keep _,by rw [<- comm];exact hh⟩
  ·exact ⟨keep _,by rw [<- comm];exact hh⟩
  ·rename_i d w'
   have e:({ a.put oi.dst v with defers:=d::(a.put oi.dst v).defers }:Act).put oj.dst undef=(({ a with defers:=d::a.defers }:Act).put oj.dst undef).put oi.dst v:=by
    have:=Act.put_comm ({ a with defers:=d::a.defers }:Act) v undef h2
    rw [<- this];cases oi.dst<;>rfl
   refine ⟨?_,by rw [<- e];exact hh⟩
   have:=keep undef;refine this.of_same ?_ ?_
   ·have e2:(({ a with defers:=d::a.defers }:Act).put oj.dst undef).eval=(a.put oj.dst undef).eval:=by
     funext x;cases oj.dst<;>cases x<;>rfl
    rw [e2]
   ·cases oj.dst<;>rfl
  ·refine hh.mono fun e w' h4=>?_
   cases e with
   | returned u=>exact ⟨keep _,by rw [<- comm];exact h4⟩
   | panicked c=>exact h4
   | outgrown=>exact h4
  ·exact hh.mono fun u w' h4=>⟨keep _,by rw [<- comm];exact h4⟩
  ·exact hh.elim
  ·exact hh.elim
 ·rename_i hw
  rw [if_neg hw] at hh;exact ⟨keep _,by rw [<- comm];exact hh⟩
theorem Eh {C:World->Prop}{i:Nat}{oi:Oper}{v:Value}{a:Act}{w:World}{K:Oper->Act->World->Prop} (hi:ops[i]?=some oi) (hy:Yld P ops C oi v a) (hC:C w)
  (h:∀ w',Below w.heap.size w w'->K oi (a.put oi.dst v) w'):opK P ops i K a w:=by
 refine ⟨oi,hi,?_⟩;rcases hy with ⟨hw,hc⟩|⟨hw,rfl⟩
 ·rw [if_pos hw]
  rcases hc w hC with h1|⟨f,args,h1,h2⟩
  ·rw [h1];exact h w (Below.refl _ _)
  ·rw [h1]
   refine h2.mono fun e w' h3=>?_
   obtain ⟨rfl,h4⟩:=h3;exact h w' h4
 ·rw [if_neg (by simp [hw])];exact h w (Below.refl _ _)
theorem sV {i:Nat}{oi:Oper}{v:Value} (hi:ops[i]?=some oi) (hsel:∀ (j:Nat) (o:Oper) cs b,ops[j]?=some o->o.op≠.select cs b) :
  ∀ (fuel:Nat) (C:World->Prop) (listed:Array Bool) (a:Act) (w:World),jN C->C w->DC ops listed ->
   (∀ j oj,ops[j]?=some oj->j≠i->listed.getD j true=false->(∀ e∈oj.after,Region.binds .any e=true->e.on≠i)->oi.apart ops oj=true) ->
   i∈Region.ready .any ops listed->Yld P ops (fun w=>C w∨(lt i=true/\S w)) oi v a->CG P ops S lt Q fuel C (listed.setIfInBounds i true) (a.put oi.dst v) w->CG P ops S lt Q (fuel+1) C listed a w:=by
 intro fuel
 induction fuel with
 | zero =>
  intro C listed a w hE hC _ _ hr hy H w1 hb1;refine ⟨fun h=>(by rw [h] at hr;cases hr),fun j hj=>?_⟩
  by_cases hji:j=i
  ·subst hji
   exact Eh hi hy (.inl (hE w w1 hC hb1)) fun w' hb'=>⟨C,hE,hE w1 w' (hE w w1 hC hb1) hb',.inl fun _ h=>h,GG H (kN hb1 hb')⟩
  ·have:=ready_mono hj hji
   rw [(H w1 hb1).1] at this;cases this
 | succ fuel ih =>
  intro C listed a w hE hC hdc hfree hr hy H w1 hb1;refine ⟨fun h=>(by rw [h] at hr;cases hr),fun j hj=>?_⟩
  by_cases hji:j=i
  ·subst hji
   exact Eh hi hy (.inl (hE w w1 hC hb1)) fun w' hb'=>⟨C,hE,hE w1 w' (hE w w1 hC hb1) hb',.inl fun _ h=>h,GG H (kN hb1 hb')⟩
  ·have h1:=(H w1 hb1).2 j (ready_mono hj hji)
   obtain ⟨hjun,oj,hoj,hall⟩:=mem_ready.1 hj;have hnot:∀ e∈oj.after,Region.binds .any e=true->e.on≠i:=fun e he hb heq=>by
    have h1:=hall e he hb;have h0:=(mem_ready.1 hr).1;rw [heq] at h1;rcases Nat.lt_or_ge i listed.size with h'|h'
    ·simp [h'] at h0 h1;rw [h0] at h1;cases h1
    ·simp [Array.getElem?_eq_none h'] at h1
   have h2:=Lm hoj (hfree j oj hoj hji hjun hnot) (fun cs b=>hsel i oi cs b hi) (fun cs b=>hsel j oj cs b hoj) hy h1
   refine IQ (fun o a' w' ho h3=>?_) h2
   rw [hoj] at ho;cases ho;obtain ⟨hy',C',hE',hC',hsub,hk⟩:=h3;have hilt:i < listed.size:=by
    rcases Nat.lt_or_ge i listed.size with h'|h'
    ·exact h'
    ·have:=(mem_ready.1 hr).1
     simp [Array.getElem?_eq_none h'] at this
   have hrec:((∀ u,C' u->C u)∨((∀ u,C' u->S u)/\pG ops lt listed j=true))->Yld P ops (fun w=>C' w∨(lt i=true/\S w)) oi v a'->∃ C'',jN C''/\C'' w'/\((∀ u,C'' u->C u)∨((∀ u,C'' u->S u)/\pG ops lt listed j=true))/\CG P ops S lt Q (fuel+1) C'' (listed.setIfInBounds j true) a' w':=by
    intro hor hyy;refine ⟨C',hE',hC',hor,?_⟩;refine ih C' (listed.setIfInBounds j true) a' w' hE' hC' (hdc.set hj) ?_ (ready_mono hr (Ne.symm hji)) hyy ?_
    ·intro k ok hk hki hun hno
     refine hfree k ok hk hki ?_ hno;by_cases hjk:j=k
     ·subst hjk;exact hjun
     ·rw [getD_set_ne true hjk] at hun;exact hun
    ·rw [Array.setIfInBounds_comm _ _ hji]
     exact hk
   rcases hsub with hsub|⟨hsubS,hwait⟩
   ·exact hrec (.inl hsub) (hy'.mono fun w h=>h.imp (hsub w) id)
   have hex:(CF ops i=true∨lt i=true)->pG ops lt listed j=true:=by
    intro hpl;unfold pG at hwait ⊢;refine List.all_eq_true.2 fun m hm=>?_
    have hm':=List.mem_range.1 hm;have h5:=List.all_eq_true.1 hwait m (List.mem_range.2 (by simpa using hm'))
    by_cases him:i=m
    ·subst him
     rcases hpl with h|h<;>simp [h]
    ·rw [getD_set_ne false him] at h5
     exact h5
   by_cases hpi:Eg oi=true
   ·exact hrec (.inr ⟨hsubS,hex (.inl (by rw [CF,hi];exact hpi))⟩) (hy'.pure hpi (.inl (hE w w1 hC hb1)))
   by_cases hli:lt i=true
   ·exact hrec (.inr ⟨hsubS,hex (.inr hli)⟩) (hy'.mono fun w h=>h.elim (fun h=>.inr ⟨hli,hsubS w h⟩) .inr)
   ·exfalso
    unfold pG at hwait;have h5:=List.all_eq_true.1 hwait i (List.mem_range.2 (by simpa using hilt))
    simp only [Bool.or_eq_true,Bool.not_eq_true'] at h5;rcases h5 with h5|h5|h5|h5
    ·simp [hilt] at h5
    ·rw [CF,hi] at h5;exact hpi h5
    ·exact hli h5
    ·have h6:=(Ef h5).listed hdc hj
     have h7:=(mem_ready.1 hr).1;simp [hilt] at h6 h7;rw [h6] at h7;cases h7
theorem lA {i:Nat}{oi:Oper}{v:Value} (hi:ops[i]?=some oi) (hsel:∀ (j:Nat) (o:Oper) cs b,ops[j]?=some o->o.op≠.select cs b) (fuel:Nat) (C:World->Prop) (listed:Array Bool) (a:Act) (w:World) (hE:jN C) (hC:C w) (hdc:DC ops listed)
  (hfree:∀ j oj,ops[j]?=some oj->j≠i->listed.getD j true=false->(∀ e∈oj.after,Region.binds .any e=true->e.on≠i)->oi.apart ops oj=true)
  (hr:i∈Region.ready .any ops listed) (hy:Yld P ops C oi v a) (h:wpK P ops Q fuel C (listed.setIfInBounds i true) (a.put oi.dst v) w):wpK P ops Q (fuel+1) C listed a w :=
 sV hi hsel fuel C listed a w hE hC hdc hfree hr (hy.mono fun _ h=>h.elim id fun h=>(by cases h.1)) h
theorem gB {Q':Exit->Act->World->Prop} (hQ:∀ a w,Q a w->Q' .normal a w):∀ (fuel:Nat) (C:World->Prop) (listed:Array Bool) (a:Act) (w:World),CG P ops S lt Q fuel C listed a w->wpAny P .any ops Q' fuel listed a w
 | 0,_,_,_,w,h=>⟨(h w (Below.refl _ _)).1,hQ _ _ (h w (Below.refl _ _)).2⟩
 | fuel+1,C,listed,a,w,h=>by
  have h1:=h w (Below.refl _ _);refine ⟨fun h0=>hQ _ _ (h1.1 h0),fun i hi=>?_⟩
  obtain ⟨o,ho,h2⟩:=h1.2 i hi;unfold wpOp;simp only [ho];split
  ·rename_i hw
   rw [if_pos hw] at h2;refine .inl ?_;unfold Oper.wp;have:=BS (n':=wpAny P .any ops Q' fuel (listed.setIfInBounds i true)) (fun a' w' h3=>by obtain ⟨C',_,_,_,h4⟩:=h3;exact gB hQ fuel C' _ _ _ h4) h2
   generalize (execOp a.eval o).run P w=r at this ⊢;unfold Oper.upon at this ⊢;split at this
   ·exact this
   ·exact this
   ·exact this
   ·refine this.mono fun e w' h5=>?_
    cases e with
    | returned v=>exact h5
    | panicked c=>exact h5.elim
    | outgrown=>obtain ⟨_,_,h6⟩:=h5;exact h6.elim
   ·exact this
   ·exact this.elim
   ·exact this.elim
  ·rename_i hw
   rw [if_neg hw] at h2;obtain ⟨C',_,_,_,h4⟩:=h2;exact gB hQ fuel C' _ _ _ h4
end
inductive Pt where
 | nil
 | q (i:Nat) (p:Pt)
 | e (i:Nat) (p:Pt)
 | r (i:Nat) (p:Pt)
 | f (i:Nat) (p:Pt) (j:Nat) (p':Pt)
 | g (i:Nat) (p:Pt) (j:Nat) (p':Pt) (m:Nat) (p'':Pt)
def Pt.size:Pt->Nat
 | .nil=>0
 | .q _ p|.e _ p|.r _ p|.f _ p _ _|.g _ p _ _ _ _=>p.size+1
def cK (all:Array Oper):Array Bool->Pt->Bool
 | listed,.nil=>(Region.ready .any all listed).isEmpty
 | listed,.q i p=>(Region.ready .any all listed).contains i && Region.free .any all listed i && cK all (listed.setIfInBounds i true) p
 | listed,.e i p=>Region.ready .any all listed == [i] && cK all (listed.setIfInBounds i true) p
 | listed,.r i p=>Region.ready .any all listed == [i] && zB all listed i && cK all (listed.setIfInBounds i true) p
 | listed,.f i p j p'=>(Region.ready .any all listed == [i,j] || Region.ready .any all listed == [j,i]) && (p.size == p'.size && (cK all (listed.setIfInBounds i true) p && cK all (listed.setIfInBounds j true) p'))
 | listed,.g i p j p' m p''=>Region.ready .any all listed == [i,j,m] && (p.size == p'.size && p.size == p''.size && (cK all (listed.setIfInBounds i true) p && (cK all (listed.setIfInBounds j true) p' && cK all (listed.setIfInBounds m true) p'')))
def xD (L:List Nat) (all:Array Oper):Array Bool->Pt->Bool
 | listed,.nil=>(Region.ready .any all listed).isEmpty
 | listed,.q i p=>(Region.ready .any all listed).contains i && Region.free .any all listed i && xD L all (listed.setIfInBounds i true) p
 | listed,.e i p=>Region.ready .any all listed == [i] && pG all (fun j=>L.contains j) listed i && xD L all (listed.setIfInBounds i true) p
 | _,_=>false
def lF (all:List Oper) (i:Nat) (l:List Oper):List Oper:=match all[i]? with
 | some o=>o::l
 | none=>[]
def gY (all:List Oper):Pt->List Oper
 | .nil|.f ..|.g ..=>[]
 | .q i p|.e i p|.r i p=>lF all i (gY all p)
theorem bS {all:List Oper}{i:Nat}{o:Oper}{l l':List Oper} (h:o::l=lF all i l'):all.toArray[i]?=some o/\l=l':=by
 unfold lF at h
 split at h
 ·rename_i o' ho
  cases h;exact ⟨by simpa using ho,rfl⟩
 ·cases h
inductive Md where
 | seq|quiet|any (p:Pt)|anyw (n:Nat) (p:Pt)|one (i:Nat) (p:Pt)|anyx (n:Nat) (L:List Nat) (p:Pt)|anys (M0:List Row) (p:Pt)|ones (M0:List Row) (i:Nat) (p:Pt)
def Md.calm:Md->Option Md
 | .seq=>some .seq
 | .quiet=>some .quiet
 | .any (.q _ p)=>some (.any p)
 | .anyw n (.q _ p)=>some (.anyw n p)
 | .anyx n L (.q _ p)=>some (.anyx n L p)
 | .anys M0 (.q _ p)=>some (.anys M0 p)
 | _=>none
def Md.cls:Md->List Row->List Row
 | .anyw n _,M=>M.eraseIdx n
 | .anyx n L (.q i _),M=>match L.contains i with
  | true=>M.eraseIdx n
  | false=>M
 | .anys M0 _,_=>M0
 | _,M=>M
def Md.st (n:Nat):Md->Option Md
 | .anyw m (.e _ p)=>if m=n then some (.anyw n p) else none
 | .anyx m L (.e _ p)=>if m=n then some (.anyx n L p) else none
 | _=>none
def Md.ext:Md->Option Md
 | .seq=>some .seq
 | .any (.e _ p)=>some (.any p)
 | .any (.r _ p)=>some (.any p)
 | .one _ p=>some (.any p)
 | .anys M0 (.e _ p)=>some (.anys M0 p)
 | .anys M0 (.r _ p)=>some (.anys M0 p)
 | .ones M0 _ p=>some (.anys M0 p)
 | _=>none
def Md.sto:Md->Option (List Row×Md)
 | .anys M0 (.e _ p)=>some (M0,.anys M0 p)
 | _=>none
def Md.res:Md->Option Md
 | .seq=>some .seq
 | .any (.r _ p)=>some (.any p)
 | .anyw _ (.r _ p)=>some (.any p)
 | .anys _ (.r _ p)=>some (.any p)
 | _=>none
def AO (C:Ctx) (all:List Oper) (p:Pt) (st:List (Nat×Value)) (M:List Row) (l:List Oper) (k:List Item):Prop :=
 l=gY all p->Region.noSelect all.toArray=true->∀ listed:Array Bool,DC all.toArray listed->cK all.toArray listed p=true ->
  ∀ a w,fF C.N st a->a.defers=C.D->Sat C.w0 M w->wpK C.P all.toArray (Run C.P C.b C.PHI k) p.size (Sat C.w0 M) listed a w
def AW (C:Ctx) (all:List Oper) (n:Nat) (p:Pt) (st:List (Nat×Value)) (M:List Row) (l:List Oper) (k:List Item):Prop :=
 l=gY all p->Region.noSelect all.toArray=true->∀ listed:Array Bool,DC all.toArray listed->cK all.toArray listed p=true ->
  ∀ a w,fF C.N st a->a.defers=C.D->Sat C.w0 M w->wpK C.P all.toArray (Run C.P C.b C.PHI k) p.size (Sat C.w0 (M.eraseIdx n)) listed a w
def AX (C:Ctx) (all:List Oper) (n:Nat) (L:List Nat) (p:Pt) (st:List (Nat×Value)) (M:List Row) (l:List Oper) (k:List Item):Prop :=
 l=gY all p->Region.noSelect all.toArray=true->∀ listed:Array Bool,DC all.toArray listed->xD L all.toArray listed p=true ->
  ∀ a w,fF C.N st a->a.defers=C.D->Sat C.w0 M w->CG C.P all.toArray (Sat C.w0 (M.eraseIdx n)) (fun j=>L.contains j) (Run C.P C.b C.PHI k) p.size (Sat C.w0 M) listed a w
def AF (C:Ctx) (all:List Oper) (i:Nat) (p:Pt) (st:List (Nat×Value)) (M:List Row) (l:List Oper) (k:List Item):Prop :=
 l=lF all i (gY all p)->Region.noSelect all.toArray=true->∀ listed:Array Bool,DC all.toArray listed->i∈Region.ready .any all.toArray listed->cK all.toArray (listed.setIfInBounds i true) p=true ->
  ∀ a w,fF C.N st a->a.defers=C.D->Sat C.w0 M w->opK C.P all.toArray i (fun _ a' w'=>∃ C',jN C'/\C' w'/\((∀ u,C' u->Sat C.w0 M u)∨(∀ u,C' u->True)/\zB all.toArray listed i=true)/\wpK C.P all.toArray (Run C.P C.b C.PHI k) p.size C' (listed.setIfInBounds i true) a' w') a w
def AS (C:Ctx) (all:List Oper) (M0:List Row) (p:Pt) (st:List (Nat×Value)) (M:List Row) (l:List Oper) (k:List Item):Prop :=
 M0.Sublist M->l=gY all p->Region.noSelect all.toArray=true->∀ listed:Array Bool,DC all.toArray listed->cK all.toArray listed p=true ->
  ∀ a w,fF C.N st a->a.defers=C.D->Sat C.w0 M w->wpK C.P all.toArray (Run C.P C.b C.PHI k) p.size (Sat C.w0 M0) listed a w
def AFS (C:Ctx) (all:List Oper) (M0:List Row) (i:Nat) (p:Pt) (st:List (Nat×Value)) (M:List Row) (l:List Oper) (k:List Item):Prop :=
 M0.Sublist M->l=lF all i (gY all p)->Region.noSelect all.toArray=true->∀ listed:Array Bool,DC all.toArray listed->i∈Region.ready .any all.toArray listed->cK all.toArray (listed.setIfInBounds i true) p=true ->
  ∀ a w,fF C.N st a->a.defers=C.D->Sat C.w0 M w->opK C.P all.toArray i (fun _ a' w'=>∃ C',jN C'/\C' w'/\((∀ u,C' u->Sat C.w0 M0 u)∨(∀ u,C' u->True)/\zB all.toArray listed i=true)/\wpK C.P all.toArray (Run C.P C.b C.PHI k) p.size C' (listed.setIfInBounds i true) a' w') a w
structure G (q:Md) (C:Ctx) (all:List Oper) (st:List (Nat×Value)) (M:List Row) (l:List Oper) (k:List Item):Prop where
 go:match q with
  | .seq=>JO C all st M l k
  | .quiet=>QO C all st M l k
  | .any p=>AO C all p st M l k
  | .anyw n p=>AW C all n p st M l k
  | .anyx n L p=>AX C all n L p st M l k
  | .one i p=>AF C all i p st M l k
  | .anys M0 p=>AS C all M0 p st M l k
  | .ones M0 i p=>AFS C all M0 i p st M l k
theorem jN.PE (w0:World) (M:List Row):jN (Sat w0 M):=fun _ _ h hb=>h.ext hb
variable {C:Ctx}{st:List (Nat×Value)}{M:List Row}{k:List Item}{q q':Md}{all rest:List Oper}{d:Nat}{opn:Op}{ty:TypeId}{pos:String}{after:Array Edge}{gd:Option (Nat×Bool)}
theorem J.PA {id:Nat}{l:List Oper} (h:G .seq C l st M l k):J C st M (.code (.region id l.toArray false)::k):=J.region h.go
def Ei (l:List Oper):Bool:=l.all fun o=>match o.op with
 | .alloc _|.box ..|.buildSlice ..|.insert ..|.store ..|.makeMap ..|.makeChan ..|.makeSlice ..|.mapUpdate ..|.mapEntry ..|.entryStore ..|.range ..|.next ..|.go _|.defer _|.panic _|.send ..|.recv ..|.select ..=>false
 | .call { callee:=.builtin .append,.. }|.call { callee:=.builtin .copy,.. }|.call { callee:=.builtin .clear,.. }|.call { callee:=.builtin .delete,.. }=>false
 | _=>true
theorem J.Pz {id:Nat}{l:List Oper} (hm:C.P.follows .mixedOrders=true) (hB:(Ei l && (Region.lexB .any l.toArray && jS l))=true) (h:G .quiet C l st M l k):J C st M (.code (.region id l.toArray true)::k):=by
 rw [Bool.and_eq_true,Bool.and_eq_true] at hB;exact J.Qy hm hB.2.1 hB.2.2 h.go
theorem J.Py {id:Nat}{l:List Oper} (p:Pt) (hm:C.P.follows .mixedOrders=true)
  (hB:(decide (p.size=l.length) && (cK l.toArray (Array.replicate l.length false) p && (Region.noSelect l.toArray && jS l)))=true)
  (h:G (.any p) C l st M (gY l p) k):J C st M (.code (.region id l.toArray true)::k):=by
 simp only [Bool.and_eq_true,decide_eq_true_eq] at hB;obtain ⟨h3,h4,h5,h6⟩:=hB;refine .mk fun a w hf hd hw=>?_
 refine Run.step (a':=a) (w':={ w with drawn:=w.drawn+1 }) (fun cs=>stepR_region_draw) ?_
 refine eR (by simpa using h6) _ _ _ ?_
 simp only [Region.schedule,hm,Bool.true_or,if_true];refine wpAny_sound _ _ _ _ _ ?_;have h7:=h.go rfl h5 (Array.replicate l.length false) (DC.start _ _) h4 a _ hf hd hw.drawn;rw [h3] at h7;exact gB (fun a w hr=>⟨rfl,hr⟩) l.toArray.size _ _ _ _ (by simpa using h7)
theorem J.Rc {id:Nat}{l:List Oper} (n:Nat) (p:Pt) (hm:C.P.follows .mixedOrders=true)
  (hB:(decide (p.size=l.length) && (cK l.toArray (Array.replicate l.length false) p && (Region.noSelect l.toArray && jS l)))=true)
  (h:G (.anyw n p) C l st M (gY l p) k):J C st M (.code (.region id l.toArray true)::k):=by
 simp only [Bool.and_eq_true,decide_eq_true_eq] at hB;obtain ⟨h3,h4,h5,h6⟩:=hB;refine .mk fun a w hf hd hw=>?_
 refine Run.step (a':=a) (w':={ w with drawn:=w.drawn+1 }) (fun cs=>stepR_region_draw) ?_
 refine eR (by simpa using h6) _ _ _ ?_
 simp only [Region.schedule,hm,Bool.true_or,if_true];refine wpAny_sound _ _ _ _ _ ?_;have h7:=h.go rfl h5 (Array.replicate l.length false) (DC.start _ _) h4 a _ hf hd hw.drawn;rw [h3] at h7;exact gB (fun a w hr=>⟨rfl,hr⟩) l.toArray.size _ _ _ _ (by simpa using h7)
theorem J.PB {id:Nat}{l:List Oper} (M0:List Row) (p:Pt) (hm:C.P.follows .mixedOrders=true)
  (hB:(decide (p.size=l.length) && (cK l.toArray (Array.replicate l.length false) p && (Region.noSelect l.toArray && jS l)))=true)
  (hs:M0.Sublist M) (h:G (.anys M0 p) C l st M (gY l p) k):J C st M (.code (.region id l.toArray true)::k):=by
 simp only [Bool.and_eq_true,decide_eq_true_eq] at hB;obtain ⟨h3,h4,h5,h6⟩:=hB;refine .mk fun a w hf hd hw=>?_
 refine Run.step (a':=a) (w':={ w with drawn:=w.drawn+1 }) (fun cs=>stepR_region_draw) ?_
 refine eR (by simpa using h6) _ _ _ ?_
 simp only [Region.schedule,hm,Bool.true_or,if_true];refine wpAny_sound _ _ _ _ _ ?_;have h7:=h.go hs rfl h5 (Array.replicate l.length false) (DC.start _ _) h4 a _ hf hd hw.drawn;rw [h3] at h7;exact gB (fun a w hr=>⟨rfl,hr⟩) l.toArray.size _ _ _ _ (by simpa using h7)
theorem G.nil {q:Md} (hq:(match q with|.seq|.quiet|.any .nil|.anyw _ .nil|.anyx _ _ .nil|.anys _ .nil=>true|_=>false)=true) (h:J C st M k):G q C all st M [] k:=by
 cases q with
 | seq=>exact ⟨JO.nil h⟩
 | quiet=>exact ⟨QO.nil h⟩
 | one i p=>cases hq
 | any p =>
  cases p with
  | nil =>
   refine ⟨fun _ _ listed _ hp a w hf hd hw=>?_⟩
   simp only [cK,List.isEmpty_iff] at hp;exact fun w1 hb=>⟨hp,h.go a w1 hf hd (hw.ext hb)⟩
  | _=>cases hq
 | anyw n p =>
  cases p with
  | nil =>
   refine ⟨fun _ _ listed _ hp a w hf hd hw=>?_⟩
   simp only [cK,List.isEmpty_iff] at hp;exact fun w1 hb=>⟨hp,h.go a w1 hf hd (hw.ext hb)⟩
  | _=>cases hq
 | anyx n L p =>
  cases p with
  | nil =>
   refine ⟨fun _ _ listed _ hp a w hf hd hw=>?_⟩
   simp only [xD,List.isEmpty_iff] at hp;exact fun w1 hb=>⟨hp,h.go a w1 hf hd (hw.ext hb)⟩
  | _=>cases hq
 | anys M0 p =>
  cases p with
  | nil =>
   refine ⟨fun _ _ _ listed _ hp a w hf hd hw=>?_⟩
   simp only [cK,List.isEmpty_iff] at hp;exact fun w1 hb=>⟨hp,h.go a w1 hf hd (hw.ext hb)⟩
  | _=>cases hq
 | ones M0 i p=>cases hq
theorem G.Qi {i j:Nat}{p p':Pt} (h1:G (.one i p) C all st M (lF all i (gY all p)) k) (h2:G (.one j p') C all st M (lF all j (gY all p')) k):G (.any (.f i p j p')) C all st M [] k:=by
 refine ⟨fun _ hsel listed hdc hp a w hf hd hw w1 hb=>?_⟩
 simp only [cK,Bool.and_eq_true,Bool.or_eq_true,beq_iff_eq] at hp;obtain ⟨hr,hsz,hp1,hp2⟩:=hp;have hmem:∀ x,x∈Region.ready .any all.toArray listed ↔ x=i∨x=j:=fun x=>by
  rcases hr with hr|hr<;>rw [hr]<;>simp [or_comm]
 refine ⟨fun e=>?_,fun x hx=>?_⟩
 ·rw [e] at hr;simp at hr
 ·rcases (hmem x).1 hx with rfl|rfl
  ·exact h1.go rfl hsel listed hdc hx hp1 a w1 hf hd (hw.ext hb)
  ·have:=h2.go rfl hsel listed hdc hx hp2 a w1 hf hd (hw.ext hb)
   rw [<- hsz] at this;exact this
theorem G.QR {M0:List Row}{i j:Nat}{p p':Pt} (h1:G (.ones M0 i p) C all st M (lF all i (gY all p)) k) (h2:G (.ones M0 j p') C all st M (lF all j (gY all p')) k):G (.anys M0 (.f i p j p')) C all st M [] k:=by
 refine ⟨fun hs _ hsel listed hdc hp a w hf hd hw w1 hb=>?_⟩
 simp only [cK,Bool.and_eq_true,Bool.or_eq_true,beq_iff_eq] at hp;obtain ⟨hr,hsz,hp1,hp2⟩:=hp;have hmem:∀ x,x∈Region.ready .any all.toArray listed ↔ x=i∨x=j:=fun x=>by
  rcases hr with hr|hr<;>rw [hr]<;>simp [or_comm]
 refine ⟨fun e=>?_,fun x hx=>?_⟩
 ·rw [e] at hr;simp at hr
 ·rcases (hmem x).1 hx with rfl|rfl
  ·exact h1.go hs rfl hsel listed hdc hx hp1 a w1 hf hd (hw.ext hb)
  ·have:=h2.go hs rfl hsel listed hdc hx hp2 a w1 hf hd (hw.ext hb)
   rw [<- hsz] at this;exact this
theorem G.op {v:Value} (hv:OpV C st (q.cls M) opn ty v) (hg:wnB all st gd=true) (hn:oU opn=true) (hd:Nat.blt d C.N=true) (hq:q.calm=some q') (h:G q' C all ((d,v)::st) M rest k) :
  G q C all st M ({ dst:=some d,op:=opn,type:=ty,pos,after,guard:=gd }::rest) k:=by
 cases q with
 | seq=>cases hq;exact ⟨JO.op hv hg hn hd h.go⟩
 | quiet=>cases hq;exact ⟨QO.op hv hg hd h.go⟩
 | one i p=>cases hq
 | any p =>
  cases p with
  | q i p =>
   cases hq;refine ⟨fun hl hsel listed hdc hp a w hf hdf hw=>?_⟩
   obtain ⟨ho,hl'⟩:=bS hl;simp only [cK,Bool.and_eq_true] at hp;have hr:i∈Region.ready .any all.toArray listed:=by simpa using hp.1.1
   refine lA (v:=v) ho (Region.noSelect_spec hsel) _ _ _ _ _ (jN.PE _ _) hw hdc (Region.free_spec ho hp.1.2) hr ?_ ?_
   ·refine .inl ⟨(Wn.PF (N:=C.N) hg).go a hf _ _ _ _ _,fun w2 hw2=>?_⟩
    exact hv.go a w2 hf hw2 (some d) pos after gd
   ·exact h.go hl' hsel _ (hdc.set hr) hp.2 _ w (hf.put hd v) hdf hw
  | _=>cases hq
 | anyw n p =>
  cases p with
  | q i p =>
   cases hq;refine ⟨fun hl hsel listed hdc hp a w hf hdf hw=>?_⟩
   obtain ⟨ho,hl'⟩:=bS hl;simp only [cK,Bool.and_eq_true] at hp;have hr:i∈Region.ready .any all.toArray listed:=by simpa using hp.1.1
   refine lA (v:=v) ho (Region.noSelect_spec hsel) _ _ _ _ _ (jN.PE _ _) (hw.forget (List.eraseIdx_sublist _ _)) hdc (Region.free_spec ho hp.1.2) hr ?_ ?_
   ·refine .inl ⟨(Wn.PF (N:=C.N) hg).go a hf _ _ _ _ _,fun w2 hw2=>?_⟩
    exact hv.go a w2 hf hw2 (some d) pos after gd
   ·exact h.go hl' hsel _ (hdc.set hr) hp.2 _ w (hf.put hd v) hdf hw
  | _=>cases hq
 | anyx n L p =>
  cases p with
  | q i p =>
   cases hq;refine ⟨fun hl hsel listed hdc hp a w hf hdf hw=>?_⟩
   obtain ⟨ho,hl'⟩:=bS hl;simp only [xD,Bool.and_eq_true] at hp;have hr:i∈Region.ready .any all.toArray listed:=by simpa using hp.1.1
   refine sV (v:=v) ho (Region.noSelect_spec hsel) _ _ _ _ _ (jN.PE _ _) hw hdc (Region.free_spec ho hp.1.2) hr ?_ ?_
   ·refine .inl ⟨(Wn.PF (N:=C.N) hg).go a hf _ _ _ _ _,fun w2 hw2=>?_⟩
    refine hv.go a w2 hf ?_ (some d) pos after gd;simp only [Md.cls];split
    ·exact hw2.elim (fun h=>h.forget (List.eraseIdx_sublist _ _)) And.right
    ·rename_i hL
     exact hw2.elim id fun h=>by rw [hL] at h;cases h.1
   ·exact h.go hl' hsel _ (hdc.set hr) hp.2 _ w (hf.put hd v) hdf hw
  | _=>cases hq
 | anys M0 p =>
  cases p with
  | q i p =>
   cases hq;refine ⟨fun hs hl hsel listed hdc hp a w hf hdf hw=>?_⟩
   obtain ⟨ho,hl'⟩:=bS hl;simp only [cK,Bool.and_eq_true] at hp;have hr:i∈Region.ready .any all.toArray listed:=by simpa using hp.1.1
   refine lA (v:=v) ho (Region.noSelect_spec hsel) _ _ _ _ _ (jN.PE _ _) (hw.forget hs) hdc (Region.free_spec ho hp.1.2) hr ?_ ?_
   ·refine .inl ⟨(Wn.PF (N:=C.N) hg).go a hf _ _ _ _ _,fun w2 hw2=>?_⟩
    exact hv.go a w2 hf hw2 (some d) pos after gd
   ·exact h.go hs hl' hsel _ (hdc.set hr) hp.2 _ w (hf.put hd v) hdf hw
  | _=>cases hq
 | ones M0 i p=>cases hq
def IU (v:Value) (want:Bool):Bool:=match v with
 | .bool b=>!(b == want)
 | _=>true
theorem Fq {N:Nat}{a:Act}{ops:Array Oper}{j t:Nat}{v:Value} (hf:fF N st a) (hj:(ops[j]?).bind (·.dst)=some t) (ht:kM st t=some v):yielded ops a.tmps j=match v with|.bool b=>some b|_=>none:=by
 simp only [yielded,hj,Option.bind_some,hf.get t _ ht];cases v<;>rfl
theorem G.skip {j t:Nat}{want:Bool}{v:Value} (hj:(all.toArray[j]?).bind (·.dst)=some t) (ht:kM st t=some v) (hb:IU v want=true) (hd:Nat.blt d C.N=true) (hq:q.calm=some q')
  (h:G q' C all ((d,undef)::st) M rest k) :
  G q C all st M ({ dst:=some d,op:=opn,type:=ty,pos,after,guard:=some (j,want) }::rest) k:=by
 have hw:∀ a,fF C.N st a->Region.wanted ({ dst:=some d,op:=opn,type:=ty,pos,after,guard:=some (j,want) }:Oper) (yielded all.toArray a.tmps)=false:=fun a hf=>by
  simp only [Region.wanted,Fq hf hj ht];cases v<;>first|rfl|(simpa [IU] using hb)
 cases q with
 | seq =>
  cases hq;refine ⟨fun a w hf hdf hsat idx hi=>?_⟩
  obtain ⟨i,r,rfl,ho,hr⟩:=tZ hi;exact Run.Qn ho (hw a hf) (h.go _ w (hf.put hd undef) hdf hsat r hr)
 | quiet =>
  cases hq;refine ⟨fun a hf hdf=>?_⟩
  refine wpQuiet_step fun K hK=>?_
  rw [hw a hf,if_neg (by simp)]
  exact hK _ (h.go _ (hf.put hd undef) hdf)
 | one i p=>cases hq
 | any p =>
  cases p with
  | q i p =>
   cases hq;refine ⟨fun hl hsel listed hdc hp a w hf hdf hsat=>?_⟩
   obtain ⟨ho,hl'⟩:=bS hl;simp only [cK,Bool.and_eq_true] at hp;have hr:i∈Region.ready .any all.toArray listed:=by simpa using hp.1.1
   refine lA (v:=undef) ho (Region.noSelect_spec hsel) _ _ _ _ _ (jN.PE _ _) hsat hdc (Region.free_spec ho hp.1.2) hr (.inr ⟨hw a hf,rfl⟩) ?_;exact h.go hl' hsel _ (hdc.set hr) hp.2 _ w (hf.put hd undef) hdf hsat
  | _=>cases hq
 | anyw n p =>
  cases p with
  | q i p =>
   cases hq;refine ⟨fun hl hsel listed hdc hp a w hf hdf hsat=>?_⟩
   obtain ⟨ho,hl'⟩:=bS hl;simp only [cK,Bool.and_eq_true] at hp;have hr:i∈Region.ready .any all.toArray listed:=by simpa using hp.1.1
   refine lA (v:=undef) ho (Region.noSelect_spec hsel) _ _ _ _ _ (jN.PE _ _) (hsat.forget (List.eraseIdx_sublist _ _)) hdc (Region.free_spec ho hp.1.2) hr (.inr ⟨hw a hf,rfl⟩) ?_;exact h.go hl' hsel _ (hdc.set hr) hp.2 _ w (hf.put hd undef) hdf hsat
  | _=>cases hq
 | anyx n L p =>
  cases p with
  | q i p =>
   cases hq;refine ⟨fun hl hsel listed hdc hp a w hf hdf hsat=>?_⟩
   obtain ⟨ho,hl'⟩:=bS hl;simp only [xD,Bool.and_eq_true] at hp;have hr:i∈Region.ready .any all.toArray listed:=by simpa using hp.1.1
   refine sV (v:=undef) ho (Region.noSelect_spec hsel) _ _ _ _ _ (jN.PE _ _) hsat hdc (Region.free_spec ho hp.1.2) hr (.inr ⟨hw a hf,rfl⟩) ?_;exact h.go hl' hsel _ (hdc.set hr) hp.2 _ w (hf.put hd undef) hdf hsat
  | _=>cases hq
 | anys M0 p =>
  cases p with
  | q i p =>
   cases hq;refine ⟨fun hs hl hsel listed hdc hp a w hf hdf hsat=>?_⟩
   obtain ⟨ho,hl'⟩:=bS hl;simp only [cK,Bool.and_eq_true] at hp;have hr:i∈Region.ready .any all.toArray listed:=by simpa using hp.1.1
   refine lA (v:=undef) ho (Region.noSelect_spec hsel) _ _ _ _ _ (jN.PE _ _) (hsat.forget hs) hdc (Region.free_spec ho hp.1.2) hr (.inr ⟨hw a hf,rfl⟩) ?_;exact h.go hs hl' hsel _ (hdc.set hr) hp.2 _ w (hf.put hd undef) hdf hsat
  | _=>cases hq
 | ones M0 i p=>cases hq
theorem G.PC {p:Prop} [Decidable p] (hv:OpV C st (q.cls M) opn ty (.bool (decide p))) (hg:wnB all st gd=true) (hn:oU opn=true) (hd:Nat.blt d C.N=true) (hq:q.calm=some q')
  (h1:p->G q' C all ((d,.bool true)::st) M rest k) (h2:¬ p->G q' C all ((d,.bool false)::st) M rest k) :
  G q C all st M ({ dst:=some d,op:=opn,type:=ty,pos,after,guard:=gd }::rest) k:=by
 refine G.op hv hg hn hd hq ?_;by_cases h:p
 ·simpa [h] using h1 h
 ·simpa [h] using h2 h
theorem G.PP {b:Bool} (hv:OpV C st (q.cls M) opn ty (.bool b)) (hg:wnB all st gd=true) (hn:oU opn=true) (hd:Nat.blt d C.N=true) (hq:q.calm=some q')
  (h1:b=true->G q' C all ((d,.bool true)::st) M rest k) (h2:b=false->G q' C all ((d,.bool false)::st) M rest k) :
  G q C all st M ({ dst:=some d,op:=opn,type:=ty,pos,after,guard:=gd }::rest) k:=by
 refine G.op hv hg hn hd hq ?_;cases b
 ·exact h2 rfl
 ·exact h1 rfl
def Eff (C:Ctx) (st:List (Nat×Value)) (M:List Row) (o:Oper) (Post:List (Nat×Value)->List Row->Prop):Prop :=
 ∀ a w,fF C.N st a->Sat C.w0 M w->∀ K:Act->World->Prop,(∀ st' M' a' w',Post st' M'->fF C.N st' a'->a'.defers=a.defers->Sat C.w0 M' w'->K a' w') ->
  o.upon C.P a K (fun _ _ _=>False) ((execOp a.eval o).run C.P w)
theorem G.ext {o:Option Nat} (hg:wnB all st gd=true) (hn:oU opn=true) (hq:q.ext=some q')
  (h:Eff C st M { dst:=o,op:=opn,type:=ty,pos,after,guard:=gd } fun st' M'=>M.Sublist M'/\G q' C all st' M' rest k) :
  G q C all st M ({ dst:=o,op:=opn,type:=ty,pos,after,guard:=gd }::rest) k:=by
 cases q with
 | seq =>
  cases hq;refine ⟨fun a w hf hdf hw idx hi=>?_⟩
  obtain ⟨i,r,rfl,ho,hr⟩:=tZ hi;refine Run.op ho ((Wn.PF (N:=C.N) hg).go a hf _ _ _ _ _) (.inr (zA hn)) (h a w hf hw _ fun st' M' a' w' hp hf' hd' hw'=>?_)
  exact hp.2.go a' w' hf' (hd'.trans hdf) hw' r hr
 | quiet=>cases hq
 | anyw n p=>cases p<;>cases hq
 | anyx n L p=>cases p<;>cases hq
 | ones M0 i p =>
  cases hq;refine ⟨fun hs hl hsel listed hdc hr hp a w hf hdf hw=>?_⟩
  obtain ⟨ho,hl'⟩:=bS hl;refine ⟨_,ho,?_⟩;rw [if_pos ((Wn.PF (N:=C.N) hg).go a hf _ _ _ _ _)];refine h a w hf hw _ fun st' M' a' w' hp2 hf' hd' hw'=>?_
  exact ⟨Sat C.w0 M0,jN.PE _ _,hw'.forget (hs.trans hp2.1),.inl fun u hu=>hu,hp2.2.go (hs.trans hp2.1) hl' hsel _ (hdc.set hr) hp a' w' hf' (hd'.trans hdf) hw'⟩
 | anys M0 p =>
  have key:∀ i p2,q'=.anys M0 p2->(∀ listed,cK all.toArray listed p=true->Region.ready .any all.toArray listed=[i]/\cK all.toArray (listed.setIfInBounds i true) p2=true)->gY all p=lF all i (gY all p2)->p.size=p2.size+1 ->
    AS C all M0 p st M ({ dst:=o,op:=opn,type:=ty,pos,after,guard:=gd }::rest) k:=by
   intro i p2 hq2 hplan hops hsize hs hl hsel listed hdc hp a w hf hdf hw;subst hq2;rw [hsize];rw [hops] at hl;obtain ⟨ho,hl'⟩:=bS hl;obtain ⟨hready,hp2⟩:=hplan listed hp;intro w1 hb;refine ⟨fun e=>(by rw [hready] at e;cases e),fun j hj=>?_⟩
   have hj':=hj;rw [hready] at hj';have e:j=i:=by simpa using hj'
   subst e;refine ⟨_,ho,?_⟩;rw [if_pos ((Wn.PF (N:=C.N) hg).go a hf _ _ _ _ _)];refine h a w1 hf (hw.ext hb) _ fun st' M' a' w' hp3 hf' hd' hw'=>?_
   exact ⟨Sat C.w0 M0,jN.PE _ _,hw'.forget (hs.trans hp3.1),.inl fun u hu=>hu,hp3.2.go (hs.trans hp3.1) hl' hsel _ (hdc.set hj) hp2 a' w' hf' (hd'.trans hdf) hw'⟩
  cases p with
  | e i p2 =>
   cases hq;exact ⟨key i p2 rfl (fun listed hp=>by simpa [cK] using hp) rfl rfl⟩
  | r i p2 =>
   cases hq;exact ⟨key i p2 rfl (fun listed hp=>by simp only [cK,Bool.and_eq_true,beq_iff_eq] at hp;exact ⟨hp.1.1,hp.2⟩) rfl rfl⟩
  | _=>cases hq
 | one i p =>
  cases hq;refine ⟨fun hl hsel listed hdc hr hp a w hf hdf hw=>?_⟩
  obtain ⟨ho,hl'⟩:=bS hl;refine ⟨_,ho,?_⟩;rw [if_pos ((Wn.PF (N:=C.N) hg).go a hf _ _ _ _ _)];refine h a w hf hw _ fun st' M' a' w' hp2 hf' hd' hw'=>?_
  exact ⟨Sat C.w0 M',jN.PE _ _,hw',.inl fun u hu=>hu.forget hp2.1,hp2.2.go hl' hsel _ (hdc.set hr) hp a' w' hf' (hd'.trans hdf) hw'⟩
 | any p =>
  have key:∀ i p2,q'=.any p2->(∀ listed,cK all.toArray listed p=true->Region.ready .any all.toArray listed=[i]/\cK all.toArray (listed.setIfInBounds i true) p2=true)->gY all p=lF all i (gY all p2)->p.size=p2.size+1 ->
    AO C all p st M ({ dst:=o,op:=opn,type:=ty,pos,after,guard:=gd }::rest) k:=by
   intro i p2 hq2 hplan hops hsize hl hsel listed hdc hp a w hf hdf hw;subst hq2;rw [hsize];rw [hops] at hl;obtain ⟨ho,hl'⟩:=bS hl;obtain ⟨hready,hp2⟩:=hplan listed hp;intro w1 hb;refine ⟨fun e=>(by rw [hready] at e;cases e),fun j hj=>?_⟩
   have hj':=hj;rw [hready] at hj';have e:j=i:=by simpa using hj'
   subst e;refine ⟨_,ho,?_⟩;rw [if_pos ((Wn.PF (N:=C.N) hg).go a hf _ _ _ _ _)];refine h a w1 hf (hw.ext hb) _ fun st' M' a' w' hp3 hf' hd' hw'=>?_
   exact ⟨Sat C.w0 M',jN.PE _ _,hw',.inl fun u hu=>hu.forget hp3.1,hp3.2.go hl' hsel _ (hdc.set hj) hp2 a' w' hf' (hd'.trans hdf) hw'⟩
  cases p with
  | e i p2 =>
   cases hq;exact ⟨key i p2 rfl (fun listed hp=>by simpa [cK] using hp) rfl rfl⟩
  | r i p2 =>
   cases hq;exact ⟨key i p2 rfl (fun listed hp=>by simp only [cK,Bool.and_eq_true,beq_iff_eq] at hp;exact ⟨hp.1.1,hp.2⟩) rfl rfl⟩
  | _=>cases hq
theorem G.res {o:Option Nat} (hg:wnB all st gd=true) (hn:oU opn=true) (hq:q.res=some q')
  (h:Eff C st M { dst:=o,op:=opn,type:=ty,pos,after,guard:=gd } fun st' M'=>G q' C all st' M' rest k) :
  G q C all st M ({ dst:=o,op:=opn,type:=ty,pos,after,guard:=gd }::rest) k:=by
 cases q with
 | seq =>
  cases hq;refine ⟨fun a w hf hdf hw idx hi=>?_⟩
  obtain ⟨i,r,rfl,ho,hr⟩:=tZ hi;refine Run.op ho ((Wn.PF (N:=C.N) hg).go a hf _ _ _ _ _) (.inr (zA hn)) (h a w hf hw _ fun st' M' a' w' hp hf' hd' hw'=>?_)
  exact hp.go a' w' hf' (hd'.trans hdf) hw' r hr
 | quiet=>cases hq
 | one i p=>cases hq
 | any p =>
  cases p with
  | r i p =>
   cases hq;refine ⟨fun hl hsel listed hdc hp a w hf hdf hw w1 hb=>?_⟩
   obtain ⟨ho,hl'⟩:=bS hl;simp only [cK,Bool.and_eq_true,beq_iff_eq] at hp;refine ⟨fun e=>(by rw [hp.1.1] at e;cases e),fun j hj=>?_⟩
   have hj':=hj;rw [hp.1.1] at hj';have e:j=i:=by simpa using hj'
   subst e;refine ⟨_,ho,?_⟩;rw [if_pos ((Wn.PF (N:=C.N) hg).go a hf _ _ _ _ _)];refine h a w1 hf (hw.ext hb) _ fun st' M' a' w' hp2 hf' hd' hw'=>?_
   exact ⟨Sat C.w0 M',jN.PE _ _,hw',.inr ⟨fun _ _=>trivial,hp.1.2⟩,hp2.go hl' hsel _ (hdc.set hj) hp.2 a' w' hf' (hd'.trans hdf) hw'⟩
  | _=>cases hq
 | anyw n p =>
  cases p with
  | r i p =>
   cases hq;refine ⟨fun hl hsel listed hdc hp a w hf hdf hw w1 hb=>?_⟩
   obtain ⟨ho,hl'⟩:=bS hl;simp only [cK,Bool.and_eq_true,beq_iff_eq] at hp;refine ⟨fun e=>(by rw [hp.1.1] at e;cases e),fun j hj=>?_⟩
   have hj':=hj;rw [hp.1.1] at hj';have e:j=i:=by simpa using hj'
   subst e;refine ⟨_,ho,?_⟩;rw [if_pos ((Wn.PF (N:=C.N) hg).go a hf _ _ _ _ _)];refine h a w1 hf (hw.ext hb) _ fun st' M' a' w' hp2 hf' hd' hw'=>?_
   exact ⟨Sat C.w0 M',jN.PE _ _,hw',.inr ⟨fun _ _=>trivial,hp.1.2⟩,hp2.go hl' hsel _ (hdc.set hj) hp.2 a' w' hf' (hd'.trans hdf) hw'⟩
  | _=>cases hq
 | anyx n L p=>cases p<;>cases hq
 | anys M0 p =>
  cases p with
  | r i p =>
   cases hq;refine ⟨fun hs hl hsel listed hdc hp a w hf hdf hw w1 hb=>?_⟩
   obtain ⟨ho,hl'⟩:=bS hl;simp only [cK,Bool.and_eq_true,beq_iff_eq] at hp;refine ⟨fun e=>(by rw [hp.1.1] at e;cases e),fun j hj=>?_⟩
   have hj':=hj;rw [hp.1.1] at hj';have e:j=i:=by simpa using hj'
   subst e;refine ⟨_,ho,?_⟩;rw [if_pos ((Wn.PF (N:=C.N) hg).go a hf _ _ _ _ _)];refine h a w1 hf (hw.ext hb) _ fun st' M' a' w' hp2 hf' hd' hw'=>?_
   exact ⟨Sat C.w0 M',jN.PE _ _,hw',.inr ⟨fun _ _=>trivial,hp.1.2⟩,hp2.go hl' hsel _ (hdc.set hj) hp.2 a' w' hf' (hd'.trans hdf) hw'⟩
  | _=>cases hq
 | ones M0 i p=>cases hq
theorem G.R3 {o:Option Nat}{n:Nat}{r:Row} (hg:wnB all st gd=true) (hn:oU opn=true) (hq:q.st n=some q')
  (h:Eff C st M { dst:=o,op:=opn,type:=ty,pos,after,guard:=gd } fun st' M'=>M'=M.set n r/\G q' C all st' M' rest k) :
  G q C all st M ({ dst:=o,op:=opn,type:=ty,pos,after,guard:=gd }::rest) k:=by
 cases q with
 | seq=>cases hq
 | quiet=>cases hq
 | one i p=>cases hq
 | any p=>cases hq
 | anys M0 p=>cases hq
 | ones M0 i p=>cases hq
 | anyx m L p =>
  cases p with
  | e i p =>
   simp only [Md.st] at hq;split at hq
   ·rename_i hmn
    cases hq;subst hmn;refine ⟨fun hl hsel listed hdc hp a w hf hdf hw w1 hb=>?_⟩
    obtain ⟨ho,hl'⟩:=bS hl;simp only [xD,Bool.and_eq_true,beq_iff_eq] at hp;refine ⟨fun e=>(by rw [hp.1.1] at e;cases e),fun j hj=>?_⟩
    have hj':=hj;rw [hp.1.1] at hj';have e:j=i:=by simpa using hj'
    subst e;refine ⟨_,ho,?_⟩;rw [if_pos ((Wn.PF (N:=C.N) hg).go a hf _ _ _ _ _)];refine h a w1 hf (hw.ext hb) _ fun st' M' a' w' hp2 hf' hd' hw'=>?_
    have he:M'.eraseIdx m=M.eraseIdx m:=by
     rw [hp2.1];apply List.ext_getElem?;intro x;simp only [List.getElem?_eraseIdx];split
     ·rw [List.getElem?_set_ne om]
     ·rw [List.getElem?_set_ne om]
    refine ⟨Sat C.w0 M',jN.PE _ _,hw',.inr ⟨fun u hu=>he ▸ hu.forget (List.eraseIdx_sublist _ _),hp.1.2⟩,?_⟩
    have:=hp2.2.go hl' hsel _ (hdc.set hj) hp.2 a' w' hf' (hd'.trans hdf) hw';rw [he] at this;exact this
   ·cases hq
  | _=>cases hq
 | anyw m p =>
  cases p with
  | e i p =>
   simp only [Md.st] at hq;split at hq
   ·rename_i hmn
    cases hq;subst hmn;refine ⟨fun hl hsel listed hdc hp a w hf hdf hw w1 hb=>?_⟩
    obtain ⟨ho,hl'⟩:=bS hl;simp only [cK,Bool.and_eq_true,beq_iff_eq] at hp;refine ⟨fun e=>(by rw [hp.1] at e;cases e),fun j hj=>?_⟩
    have hj':=hj;rw [hp.1] at hj';have e:j=i:=by simpa using hj'
    subst e;refine ⟨_,ho,?_⟩;rw [if_pos ((Wn.PF (N:=C.N) hg).go a hf _ _ _ _ _)];refine h a w1 hf (hw.ext hb) _ fun st' M' a' w' hp2 hf' hd' hw'=>?_
    have he:M'.eraseIdx m=M.eraseIdx m:=by
     rw [hp2.1];apply List.ext_getElem?;intro x;simp only [List.getElem?_eraseIdx];split
     ·rw [List.getElem?_set_ne om]
     ·rw [List.getElem?_set_ne om]
    refine ⟨Sat C.w0 (M'.eraseIdx m),jN.PE _ _,hw'.forget (List.eraseIdx_sublist _ _),.inl fun u hu=>he ▸ hu,?_⟩
    exact hp2.2.go hl' hsel _ (hdc.set hj) hp.2 a' w' hf' (hd'.trans hdf) hw'
   ·cases hq
  | _=>cases hq
theorem G.Rg {o:Option Nat}{M0:List Row} (hg:wnB all st gd=true) (hn:oU opn=true) (hq:q.sto=some (M0,q'))
  (h:Eff C st M { dst:=o,op:=opn,type:=ty,pos,after,guard:=gd } fun st' M'=>M0.Sublist M'/\G q' C all st' M' rest k) :
  G q C all st M ({ dst:=o,op:=opn,type:=ty,pos,after,guard:=gd }::rest) k:=by
 cases q with
 | anys M1 p =>
  cases p with
  | e i p =>
   cases hq;refine ⟨fun hs hl hsel listed hdc hp a w hf hdf hw w1 hb=>?_⟩
   obtain ⟨ho,hl'⟩:=bS hl;simp only [cK,Bool.and_eq_true,beq_iff_eq] at hp;refine ⟨fun e=>(by rw [hp.1] at e;cases e),fun j hj=>?_⟩
   have hj':=hj;rw [hp.1] at hj';have e:j=i:=by simpa using hj'
   subst e;refine ⟨_,ho,?_⟩;rw [if_pos ((Wn.PF (N:=C.N) hg).go a hf _ _ _ _ _)];refine h a w1 hf (hw.ext hb) _ fun st' M' a' w' hp2 hf' hd' hw'=>?_
   exact ⟨Sat C.w0 M0,jN.PE _ _,hw'.forget hp2.1,.inl fun u hu=>hu,hp2.2.go hp2.1 hl' hsel _ (hdc.set hj) hp.2 a' w' hf' (hd'.trans hdf) hw'⟩
  | _=>cases hq
 | _=>cases hq
end Go.Sl
/-
 The operations,one lemma each,for the small logic of memory.
-/
namespace Go.Sl
open Go.RowKit
class eV (P:Program) (T:TypeId):Prop where
 h:∀ w,(isAgg T).run P w=.ok false w
class gZ (P:Program) (T:TypeId) (n:outParam Nat):Prop where
 h1:∀ w,(isAgg T).run P w=.ok true w
 h2:∀ w,(sizeOf T).run P w=.ok n w
class cP (P:Program) (T:TypeId) (n:outParam Nat):Prop where
 h:∀ w,(sizeOf T).run P w=.ok n w
class bN (P:Program) (T:TypeId) (E sz:outParam Nat):Prop where
 h1:P.underlying T=some (.slice E)
 h2:∀ w,(sizeOf E).run P w=.ok sz w
class iD (P:Program) (T:TypeId):Prop where
 h:P.underlying T=some .string
class aV (P:Program) (T f:Nat) (off:outParam Nat):Prop where
 h:∀ a w,(Instr.fieldAt T (.pointer (some a)) f).run P w=.ok (.pointer (some (a.add off))) w
class fW (P:Program) (T:TypeId) (cs:outParam (List Value)):Prop where
 h:∀ w,∃ z,(zeroValue T).run P w=.ok z w/\z.cells=cs.toArray
variable {C:Ctx}{st:List (Nat×Value)}{M:List Row}{k:List Item}{q q':Md}{all rest:List Oper}{d:Nat}{ty:TypeId}{pos:String}{after:Array Edge}{gd:Option (Nat×Bool)}
theorem OpV.of {opn:Op}{v:Value} (h:∀ a w,fF C.N st a->Sat C.w0 M w->∀ dst pos after guard,(execOp a.eval ⟨dst,opn,ty,pos,after,guard⟩).run C.P w=.ok (.value v) w):OpV C st M opn ty v :=
 .mk fun a w hf hw dst pos after guard=>.inl (h a w hf hw dst pos after guard)
def evF (st:List (Nat×Value)) (x:Operand):Value:=(evS st x).getD undef
def Nf (st:List (Nat×Value)) (opn:Op):Bool:=opn.operands.toList.all fun x=>(evS st x).isSome
def MC (opn:Op):Bool:=match opn with|.select ..=>false|_=>true
theorem OpV.eval {opn:Op}{v:Value} (hk:(Nf st opn && MC opn)=true) (h:∀ w,(execOp (evF st) ⟨none,opn,ty, "",#[],none⟩).run C.P w=.ok (.value v) w):OpV C st M opn ty v:=by
 rw [Bool.and_eq_true] at hk;refine OpV.of fun a w hf _ dst pos after guard=>?_
 have e:execOp a.eval ⟨dst,opn,ty,pos,after,guard⟩=execOp (evF st) ⟨dst,opn,ty,pos,after,guard⟩:=by
  refine execOp_congr _ (fun cs b e=>?_) fun x hx=>?_
  ·have:=hk.2;simp only at e;subst e;simp [MC] at this
  ·have h1:=List.all_eq_true.1 hk.1 x (by simpa using hx)
   obtain ⟨u,hu⟩:=Option.isSome_iff_exists.1 h1;rw [hf.eval hu,evF,hu];rfl
 rw [e];have e2:execOp (evF st) ⟨dst,opn,ty,pos,after,guard⟩=execOp (evF st) ⟨none,opn,ty, "",#[],none⟩:=by
  cases opn<;>rfl
 rw [e2];exact h w
theorem OpV.move {x:Operand}{v:Value} (hx:evS st x=some v):OpV C st M (.move x) ty v :=
 OpV.of fun a w hf _ dst pos after guard=>by simp only [execOp,hf.eval hx];rfl
theorem OpV.assign {x:Operand}{v:Value} (hx:evS st x=some v):OpV C st M (.assign x) ty v :=
 OpV.of fun a w hf _ dst pos after guard=>by simp only [execOp,hf.eval hx];rfl
theorem OpV.pickT {c x y:Operand}{v:Value} (hc:evS st c=some (.bool true)) (hx:evS st x=some v):OpV C st M (.pick c x y) ty v :=
 OpV.of fun a w hf _ dst pos after guard=>by simp only [execOp,hf.eval hx,hf.eval hc];rfl
theorem OpV.pickF {c x y:Operand}{v:Value} (hc:evS st c=some (.bool false)) (hy:evS st y=some v):OpV C st M (.pick c x y) ty v :=
 OpV.of fun a w hf _ dst pos after guard=>by simp only [execOp,hf.eval hy,hf.eval hc];rfl
theorem OpV.not {t:TypeId}{x:Operand}{b:Bool} (hx:evS st x=some (.bool b)):OpV C st M (.unOp .not t x) ty (.bool (!b)) :=
 OpV.of fun a w hf _ dst pos after guard=>by simp only [execOp,hf.eval hx];rfl
theorem OpV.extract {x:Operand}{i:Nat}{vs:Array Value}{v:Value} (hx:evS st x=some (.tuple vs)) (hv:vs[i]?=some v):OpV C st M (.extract x i) ty v :=
 OpV.of fun a w hf _ dst pos after guard=>by simp only [execOp,hf.eval hx,Instr.extract,hv];rfl
theorem OpV.makeFunc {fn:Fn}{cap:Array Operand}{vs:Array Value} (hx:∀ a,fF C.N st a->cap.map a.eval=vs):OpV C st M (.makeFunc fn #[] cap) ty (.func fn #[] vs) :=
 OpV.of fun a w hf _ dst pos after guard=>by simp [execOp,Instr.makeFunc,hx a hf]
theorem mG {x:Int} (h1:-9223372036854775808<=x) (h2:x<=9223372036854775807):IntKind.i64.wrap x=x:=IntWalk.i64_in _ ⟨h1,h2⟩
theorem Ln {P:Program}{w:World}{ρ:Operand->Value}{dst:Option Tmp}{bop:BinOp}{t:TypeId}{x y:Operand}{yt:TypeId}{guard:Option (Nat×Bool)}{ki:IntKind}{a b:Int}{v:Value} (hx:ρ x=.int ki a) (hy:ρ y=.int ki b)
  (h:(binOp bop t (.int ki a) (.int ki b)).run P w=.ok v w):(execOp ρ ⟨dst,.binOp bop t x y yt,ty,pos,after,guard⟩).run P w=.ok (.value v) w:=by
 have hg:(eqGuard bop t x y (.int ki a) (.int ki b)).run P w=.ok () w:=by
  cases bop<;>rfl
 simp only [execOp,hx,hy,Sem.run_bind,hg,h,Result.andThen_ok];rfl
theorem OpV.PM {bop:BinOp}{t:TypeId}{x y:Operand}{yt:TypeId}{ki:IntKind}{a b:Int}{v:Value} (hx:evS st x=some (.int ki a)) (hy:evS st y=some (.int ki b)) (h:∀ w,(binOp bop t (.int ki a) (.int ki b)).run C.P w=.ok v w) :
  OpV C st M (.binOp bop t x y yt) ty v :=
 OpV.of fun ac w hf _ dst pos after guard=>Ln (hf.eval hx) (hf.eval hy) (h w)
theorem OpV.add {t:TypeId}{x y:Operand}{yt:TypeId}{a b:Int} (hx:evS st x=some (.int .i64 a)) (hy:evS st y=some (.int .i64 b)) (h1:-9223372036854775808<=a+b) (h2:a+b<=9223372036854775807):OpV C st M (.binOp .add t x y yt) ty (.int .i64 (a+b)) :=
 OpV.PM hx hy fun w=>by show Result.ok (Value.int .i64 (IntKind.i64.wrap (a+b))) w=_;rw [mG h1 h2]
theorem OpV.sub {t:TypeId}{x y:Operand}{yt:TypeId}{a b:Int} (hx:evS st x=some (.int .i64 a)) (hy:evS st y=some (.int .i64 b)) (h1:-9223372036854775808<=a-b) (h2:a-b<=9223372036854775807):OpV C st M (.binOp .sub t x y yt) ty (.int .i64 (a-b)) :=
 OpV.PM hx hy fun w=>by show Result.ok (Value.int .i64 (IntKind.i64.wrap (a-b))) w=_;rw [mG h1 h2]
theorem OpV.mul {t:TypeId}{x y:Operand}{yt:TypeId}{a b:Int} (hx:evS st x=some (.int .i64 a)) (hy:evS st y=some (.int .i64 b)) (h1:-9223372036854775808<=a*b) (h2:a*b<=9223372036854775807):OpV C st M (.binOp .mul t x y yt) ty (.int .i64 (a*b)) :=
 OpV.PM hx hy fun w=>by show Result.ok (Value.int .i64 (IntKind.i64.wrap (a*b))) w=_;rw [mG h1 h2]
theorem OpV.lss {t:TypeId}{x y:Operand}{yt:TypeId}{ki:IntKind}{a b:Int} (hx:evS st x=some (.int ki a)) (hy:evS st y=some (.int ki b)):OpV C st M (.binOp .lss t x y yt) ty (.bool (decide (a < b))) :=
 OpV.PM hx hy fun w=>by cases ki<;>rfl
theorem OpV.leq {t:TypeId}{x y:Operand}{yt:TypeId}{ki:IntKind}{a b:Int} (hx:evS st x=some (.int ki a)) (hy:evS st y=some (.int ki b)):OpV C st M (.binOp .leq t x y yt) ty (.bool (decide (a<=b))) :=
 OpV.PM hx hy fun w=>by cases ki<;>rfl
theorem OpV.gtr {t:TypeId}{x y:Operand}{yt:TypeId}{ki:IntKind}{a b:Int} (hx:evS st x=some (.int ki a)) (hy:evS st y=some (.int ki b)):OpV C st M (.binOp .gtr t x y yt) ty (.bool (decide (b < a))) :=
 OpV.PM hx hy fun w=>by cases ki<;>rfl
theorem OpV.geq {t:TypeId}{x y:Operand}{yt:TypeId}{ki:IntKind}{a b:Int} (hx:evS st x=some (.int ki a)) (hy:evS st y=some (.int ki b)):OpV C st M (.binOp .geq t x y yt) ty (.bool (decide (b<=a))) :=
 OpV.PM hx hy fun w=>by cases ki<;>rfl
theorem OpV.eql {t:TypeId}{x y:Operand}{yt:TypeId}{ki:IntKind}{a b:Int} (hx:evS st x=some (.int ki a)) (hy:evS st y=some (.int ki b)):OpV C st M (.binOp .eql t x y yt) ty (.bool (decide (a=b))) :=
 OpV.PM hx hy fun w=>by cases ki<;>rfl
theorem OpV.neq {t:TypeId}{x y:Operand}{yt:TypeId}{ki:IntKind}{a b:Int} (hx:evS st x=some (.int ki a)) (hy:evS st y=some (.int ki b)):OpV C st M (.binOp .neq t x y yt) ty (.bool (decide (a≠b))) :=
 OpV.PM hx hy fun w=>by
  have:(decide (a≠b))=(a != b):=by by_cases h:a=b<;>simp [h]
  rw [this];cases ki<;>rfl
theorem OpV.neg {t:TypeId}{x:Operand}{a:Int} (hx:evS st x=some (.int .i64 a)) (h1:-9223372036854775808<=-a) (h2:-a<=9223372036854775807):OpV C st M (.unOp .neg t x) ty (.int .i64 (-a)) :=
 OpV.of fun ac w hf _ dst pos after guard=>by
  simp only [execOp,hf.eval hx];show Result.ok (Next.value (Value.int .i64 (IntKind.i64.wrap (0-a)))) w=_
  rw [Int.zero_sub,mG h1 h2]
def CH (o off:Nat):Nat:=match off with
 | 0=>o
 | n+1=>o+(n+1)
theorem dV (o off:Nat):CH o off=o+off:=by cases off<;>rfl
theorem dS (b o off:Nat):(⟨b,o,none⟩:Addr).add off=⟨b,CH o off,none⟩:=by
 cases off with
 | zero=>rfl
 | succ n=>simp [Addr.add,CH]
theorem OpV.fieldAddr {T f off:Nat} [hT:aV C.P T f off] {x:Operand}{b o:Nat} (hx:evS st x=some (.pointer (some ⟨b,o,none⟩))):OpV C st M (.fieldAddr T x f) ty (.pointer (some ⟨b,CH o off,none⟩)) :=
 OpV.of fun a w hf _ dst pos after guard=>by
  simp only [execOp,hf.eval hx,Sem.run_bind,hT.h,Result.andThen_ok,dS];rfl
theorem OpV.indexAddr {T E sz:Nat} [hT:bN C.P T E sz] {x y:Operand}{b o n c:Nat}{ki:IntKind}{i:Nat}{e:Int} (hx:evS st x=some (.slice (some ⟨b,o,none⟩) n c)) (hy:evS st y=some (.int ki e)) (he:e=(i:Int)) (hi:i < n) :
  OpV C st M (.indexAddr T x y) ty (.pointer (some ⟨b,o+i*sz,none⟩)) :=
 OpV.of fun a w hf _ dst pos after guard=>by
  subst he;have h0:(0:Int)<=(i:Int)/\(i:Int) < (n:Int):=by omega
  have ha:(⟨b,o,none⟩:Addr).add (i*sz)=⟨b,o+i*sz,none⟩:=by rw [dS,dV]
  have hu:∀ w,(underlying T).run C.P w=.ok (.slice E) w:=fun w=>by simp [underlying,hT.h1]
  simp only [execOp,hf.eval hx,hf.eval hy,Instr.indexAt,asIntOf,Sem.run_bind,Sem.run_pure,Result.andThen_ok,hu];rw [if_pos h0];simp [hT.h2,ha]
structure LdV (C:Ctx) (M:List Row) (T:TypeId) (p:Addr) (v:Value):Prop where
 go:∀ w,Sat C.w0 M w->(loadVar T p).run C.P w=.ok v w
structure aC (C:Ctx) (M:List Row) (p:Addr) (v:Value):Prop where
 go:∀ w,Sat C.w0 M w->w.cell? p=some v
theorem aC.old {p:Addr}{v:Value} (hc:C.w0.cell? p=some v) (hp:p.block < C.w0.heap.size):aC C M p v:=.mk fun w hw=>hw.cellOld hc hp
theorem aC.blk {b:Nat}{e:TypeId}{cs:List Value}{n:Nat} (hm:Row.blk b e cs n∈M) {j:Nat}{v:Value} (hv:cs[j]?=some v):aC C M ⟨b,j,none⟩ v:=.mk fun w hw=>hw.cellBlk hm hv
def iT (C:Ctx) (M:List Row) (b o:Nat):List Value->Prop
 | []=>True
 | v::vs=>aC C M ⟨b,o,none⟩ v/\iT C M b (o+1) vs
theorem iT.get {b:Nat}:∀ {vs:List Value}{o:Nat},iT C M b o vs->∀ j v,vs[j]?=some v->aC C M ⟨b,o+j,none⟩ v
 | [],_,_,j,v,h=>by simp at h
 | u::us,o,hc,0,v,h=>by simp at h;subst h;exact hc.1
 | u::us,o,hc,j+1,v,h=>by
  have:=iT.get hc.2 j v (by simpa using h)
  rwa [Nat.add_assoc,Nat.add_comm 1 j] at this
theorem LdV.one {T:TypeId} [hT:eV C.P T] {p:Addr}{v:Value} (h:aC C M p v):LdV C M T p v:=.mk fun w hw=>by
 simp [loadVar,hT.h,h.go w hw]
theorem LdV.agg {T n:TypeId} [hT:gZ C.P T n] {b o:Nat}{vs:List Value} (hl:vs.length=n) (h:iT C M b o vs):LdV C M T ⟨b,o,none⟩ (.agg vs.toArray):=.mk fun w hw=>by
 have:=run_loadCells_list (P:=C.P) w ⟨b,o,none⟩ vs fun j v hv=>by
  rw [dS,dV];exact (h.get j v hv).go w hw
 rw [hl] at this;simp [loadVar,hT.h1,hT.h2,this]
theorem OpV.load {T:TypeId}{x:Operand}{p:Addr}{v:Value} (hx:evS st x=some (.pointer (some p))) (h:LdV C M T p v):OpV C st M (.load T x) ty v :=
 OpV.of fun a w hf hw dst pos after guard=>by
  simp only [execOp,hf.eval hx,Instr.loadAt,Instr.sureAddr,Sem.run_bind,Sem.run_pure,Result.andThen_ok,h.go w hw]
theorem OpV.lenSlice {T E sz:TypeId} [hT:bN C.P T E sz] {x:Operand}{a:Option Addr}{n c:Nat} (hx:evS st x=some (.slice a n c)):OpV C st M (.call { callee:=.builtin .len,args:=#[x],argTypes:=#[T] }) ty (.int .i64 n) :=
 OpV.of fun ac w hf _ dst pos after guard=>by
  have hu:∀ w,(underlying T).run C.P w=.ok (.slice E) w:=fun w=>by simp [underlying,hT.h1]
  simp [execOp,resolve,hf.eval hx,invoke,builtin,Builtin.len_,hu,goInt]
theorem OpV.lenString {T:TypeId} [hT:iD C.P T] {x:Operand}{s:ByteArray} (hx:evS st x=some (.string s)):OpV C st M (.call { callee:=.builtin .len,args:=#[x],argTypes:=#[T] }) ty (.int .i64 s.size) :=
 OpV.of fun ac w hf _ dst pos after guard=>by
  have hu:∀ w,(underlying T).run C.P w=.ok .string w:=fun w=>by simp [underlying,hT.h]
  simp [execOp,resolve,hf.eval hx,invoke,builtin,Builtin.len_,hu,goInt]
def evL (st:List (Nat×Value)):List Operand->Option (List Value)
 | []=>some []
 | x::r=>match evS st x,evL st r with
  | some v,some vs=>some (v::vs)
  | _,_=>none
theorem fF.evals {N:Nat}{a:Act} (h:fF N st a):∀ {xs:List Operand}{vs:List Value},evL st xs=some vs->xs.map a.eval=vs
 | [],vs,e=>by simp [evL] at e;simp [<- e]
 | x::r,vs,e=>by
  simp only [evL] at e;split at e
  ·rename_i v us hv hus
   cases e;simp [h.eval hv,h.evals hus]
  ·cases e
class Fun (P:Program) (g:FuncId):Prop where
 h:∀ args w,(callFunc g args).run P w=.ok (.enter g args) w
theorem zC {P:Program}{w:World}{g:FuncId} [hF:Fun P g] {a:Act}{f:Operand}{args:List Operand}{cap:Array Value}{vs:List Value}{at_:Array TypeId}{dst:Option Tmp}{guard:Option (Nat×Bool)}
  (hf:a.eval f=.func (.func g) #[] cap) (ha:args.map a.eval=vs):(execOp a.eval ⟨dst,.call { callee:=.value f,args:=args.toArray,argTypes:=at_ },ty,pos,after,guard⟩).run P w=.ok (.enter g (vs.toArray++cap)) w:=by
 subst ha;simp [execOp,resolve,hf,Deferred.ofValue,invoke,hF.h]
theorem OpV.call {g:FuncId} [hF:Fun C.P g] {f:Operand}{args:List Operand}{cap:Array Value}{vs:List Value}{at_:Array TypeId}{v:Value} (hf:evS st f=some (.func (.func g) #[] cap)) (ha:evL st args=some vs)
  (hc:∀ w,Sat C.w0 M w->Calls C.P g (vs.toArray++cap) w fun e w'=>e=.returned v/\Below w.heap.size w w'):OpV C st M (.call { callee:=.value f,args:=args.toArray,argTypes:=at_ }) ty v :=
 .mk fun a w hfit hw dst pos after guard=>.inr ⟨g,_,zC (hfit.eval hf) (hfit.evals ha),(hc w hw).mono fun e w' hh=>hh⟩
theorem OpV.call0 {g:FuncId} [hF:Fun C.P g] {args:List Operand}{vs:List Value}{at_:Array TypeId}{v:Value} (ha:evL st args=some vs)
  (hc:∀ w,Sat C.w0 M w->Calls C.P g vs.toArray w fun e w'=>e=.returned v/\Below w.heap.size w w'):OpV C st M (.call { callee:=.value (.func g),args:=args.toArray,argTypes:=at_ }) ty v :=
 OpV.call (cap:=#[]) rfl ha fun w hw=>by simpa using hc w hw
class O0 (P:Program) (T:TypeId):Prop where
 h:∀ a b c d w,(Op.equal T (.agg #[.int .i64 a,.int .i64 b]) (.agg #[.int .i64 c,.int .i64 d])).run P w=.ok (decide (a=c/\b=d)) w
 g:P.eqGuardType P.depth T=false
theorem Eff.val {o:Op}{Post:List (Nat×Value)->List Row->Prop} (hd:Nat.blt d C.N=true)
  (hx:∀ a w,fF C.N st a->Sat C.w0 M w->∃ v w' M',(execOp a.eval ⟨some d,o,ty,pos,after,gd⟩).run C.P w=.ok (.value v) w'/\Sat C.w0 M' w'/\Post ((d,v)::st) M'):Eff C st M ⟨some d,o,ty,pos,after,gd⟩ Post:=by
 intro a w hf hw K hK;obtain ⟨v,w',M',h1,h2,h3⟩:=hx a w hf hw;rw [h1];exact hK _ _ _ _ h3 (hf.put hd v) rfl h2
theorem Eff.Qj {o:Op}{Post:List (Nat×Value)->List Row->Prop}
  (hx:∀ a w,fF C.N st a->Sat C.w0 M w->∃ w' M',(execOp a.eval ⟨none,o,ty,pos,after,gd⟩).run C.P w=.ok .skip w'/\Sat C.w0 M' w'/\Post st M'):Eff C st M ⟨none,o,ty,pos,after,gd⟩ Post:=by
 intro a w hf hw K hK;obtain ⟨w',M',h1,h2,h3⟩:=hx a w hf hw;rw [h1];exact hK _ _ _ _ h3 hf rfl h2
theorem G.box {T:TypeId}{x:Operand}{v:Value}{cs:List Value} (hg:wnB all st gd=true) (hd:Nat.blt d C.N=true) (hq:q.ext=some q') (hx:evS st x=some v) (hcs:v.cells=cs.toArray)
  (h:∀ B,G q' C all ((d,.pointer (some ⟨B,0,none⟩))::st) (.blk B T cs cs.length::M) rest k) :
  G q C all st M ({ dst:=some d,op:=.box T x,type:=ty,pos,after,guard:=gd }::rest) k:=by
 refine G.ext hg rfl hq (Eff.val hd fun a w hf hw=>⟨_,_,_,?_,hw.alloc T cs,List.sublist_cons_self _ _,h _⟩)
 simp only [execOp,hf.eval hx,hcs,Instr.box,newVar,newRow];rfl
theorem G.alloc {T:TypeId}{cs:List Value} [hz:fW C.P T cs] (hg:wnB all st gd=true) (hd:Nat.blt d C.N=true) (hq:q.ext=some q')
  (h:∀ B,G q' C all ((d,.pointer (some ⟨B,0,none⟩))::st) (.blk B T cs cs.length::M) rest k) :
  G q C all st M ({ dst:=some d,op:=.alloc T,type:=ty,pos,after,guard:=gd }::rest) k:=by
 refine G.ext hg rfl hq (Eff.val hd fun a w hf hw=>⟨_,_,_,?_,hw.alloc T cs,List.sublist_cons_self _ _,h _⟩)
 obtain ⟨z,h1,h2⟩:=hz.h w;simp only [execOp,Instr.alloc,Sem.run_bind,h1,Result.andThen_ok,newVar,newRow,h2];rfl
def dU:List Value->Nat->List Value->List Value
 | cs,_,[]=>cs
 | cs,j,v::vs=>dU (cs.set j v) (j+1) vs
theorem pH:∀ (vs:List Value) (cs:List Value) (j:Nat),(dU cs j vs).length=cs.length
 | [],_,_=>rfl
 | v::vs,cs,j=>by rw [dU,pH];simp
theorem rD:∀ (vs:List Value) (cs:List Value) (j:Nat),j+vs.length<=cs.length->dU cs j vs=cs.take j++vs++cs.drop (j+vs.length)
 | [],cs,j,h=>by simp [dU]
 | v::vs,cs,j,h=>by
  simp only [List.length_cons] at h
  rw [dU,rD vs _ _ (by simp;omega)]
  apply List.ext_getElem?;intro i;simp only [List.getElem?_append,List.length_take,List.length_set,List.getElem?_take,List.getElem?_drop,List.length_append,List.length_cons];by_cases h1:i < j
  ·simp [show i < min (j+1) cs.length by omega,show i < min (j+1) cs.length+vs.length by omega,show i < min j cs.length by omega,show i < min j cs.length+(vs.length+1) by omega,show i < j+1 by omega,h1,List.getElem?_set_ne (by omega:j≠i)]
  ·by_cases h2:i=j
   ·subst h2
    simp [show i < min (i+1) cs.length by omega,show i < min (i+1) cs.length+vs.length by omega,show ¬ i < min i cs.length by omega,show i < min i cs.length+(vs.length+1) by omega,show i < cs.length by omega,show i-min i cs.length=0 by omega]
   ·by_cases h3:i < j+1+vs.length
    ·simp only [show ¬ i < min (j+1) cs.length by omega,show i < min (j+1) cs.length+vs.length by omega,show ¬ i < min j cs.length by omega,show i < min j cs.length+(vs.length+1) by omega,if_true,if_false]
     rw [show i-min j cs.length=(i-min (j+1) cs.length)+1 by omega,List.getElem?_cons_succ]
    ·simp only [show ¬ i < min (j+1) cs.length+vs.length by omega,show ¬ i < min j cs.length+(vs.length+1) by omega,if_false]
     rw [List.getElem?_set_ne om];congr 1;omega
theorem xE (rest:List Value):∀ (vs:List Value) (cs:List Value) (j:Nat),j+vs.length<=cs.length->dU (cs++rest) j vs=dU cs j vs++rest
 | [],cs,j,h=>rfl
 | v::vs,cs,j,h=>by
  simp only [List.length_cons] at h
  rw [dU,dU,List.set_append_left _ _ om,xE rest vs _ _ (by simp;omega)]
theorem Sat.setRow {w0 w:World} (h:Sat w0 M w) {i b:Nat}{e:TypeId}{cs:List Value}{n:Nat} (hi:M[i]?=some (Row.blk b e cs n)) {j:Nat}{vs:List Value} (hj:j+vs.length<=cs.length) (h1:∀ v∈vs,v.oneCell'=true) (P:Program) :
  ∃ w',(storeCells ⟨b,j,none⟩ vs).run P w=.ok () w'/\Sat w0 (M.set i (.blk b e (dU cs j vs) n)) w':=by
 obtain ⟨rs,hh,hl⟩:=h.hold _ (List.mem_of_getElem? hi);have hb:b < w.heap.size:=(Array.getElem?_eq_some_iff.1 hh).1;refine ⟨_,run_storeCells_at P b j e vs 0 _ w hh (by simp;omega) h1,?_⟩
 have hcs:(cs++rs).toArray.toList.take (j+0)++vs++(cs++rs).toArray.toList.drop (j+0+vs.length)=dU cs j vs++rs:=by
  rw [<- xE rs vs cs j hj,rD _ _ _ (by simp;omega)];simp
 rw [hcs];have hsz:(w.setRow b (dU cs j vs++rs).toArray).heap.size=w.heap.size:=by simp [World.setRow]
 refine h.change hi rfl rfl rfl (by rw [hsz];exact Nat.le_refl _) (fun k hk hk'=>?_) ⟨rs,setRow_heap w b _ _ e (0,0) hh,by rw [pH];exact hl⟩ (Nat.zero_le _) fun b' hb'=>⟨.inl hb',by cases hb';rw [hsz];exact hb⟩
 have hk2:b≠k:=fun e=>hk' e.symm
 simp only [World.setRow,Array.getElem?_modify,if_neg hk2]
theorem G.Qa {T n:TypeId}{i:Nat}{x y:Operand}{v:Value}{vs:List Value}{b j tot:Nat}{e:TypeId}{cs:List Value} (hg:wnB all st gd=true) (hq:q.res=some q')
  (hx:evS st x=some (.pointer (some ⟨b,j,none⟩))) (hm:M[i]?=some (.blk b e cs tot)) (hy:evS st y=some v) (hvs:v.cells=vs.toArray) (h1:vs.all (·.oneCell')=true) (hj:j+vs.length<=cs.length) [hT:cP C.P T n] (hn:vs.length=n)
  (h:G q' C all st (M.set i (.blk b e (dU cs j vs) tot)) rest k) :
  G q C all st M ({ dst:=none,op:=.store T x y,type:=ty,pos,after,guard:=gd }::rest) k:=by
 refine G.res hg rfl hq (Eff.Qj fun a w hf hw=>?_)
 obtain ⟨w',h2,h3⟩:=hw.setRow hm hj (fun v hv=>List.all_eq_true.1 h1 v hv) C.P
 refine ⟨w',_,?_,h3,h⟩;simp [execOp,hf.eval hx,hf.eval hy,Instr.storeAt,Instr.sureAddr,storeVar,hT.h,hvs,hn,h2]
theorem G.store {T n:TypeId}{i:Nat}{x y:Operand}{v:Value}{vs:List Value}{b j tot:Nat}{e:TypeId}{cs:List Value} (hg:wnB all st gd=true) (hq:q.res=some q')
  (hx:evS st x=some (.pointer (some ⟨b,j,none⟩))) (hm:M[i]?=some (.blk b e cs tot)) (hy:evS st y=some v) (hvs:v.cells=vs.toArray) (h1:vs.all (·.oneCell')=true) (hj:Nat.ble (j+vs.length) cs.length=true) [hT:cP C.P T n] (hn:vs.length=n)
  (h:G q' C all st (M.set i (.blk b e (dU cs j vs) tot)) rest k) :
  G q C all st M ({ dst:=none,op:=.store T x y,type:=ty,pos,after,guard:=gd }::rest) k :=
 G.Qa hg hq hx hm hy hvs h1 (by simpa using hj) hn h
theorem G.Q6 {T n:TypeId}{i:Nat}{x y:Operand}{v:Value}{vs:List Value}{b j tot:Nat}{e:TypeId}{cs:List Value} (hg:wnB all st gd=true) (hq:q.st i=some q')
  (hx:evS st x=some (.pointer (some ⟨b,j,none⟩))) (hm:M[i]?=some (.blk b e cs tot)) (hy:evS st y=some v) (hvs:v.cells=vs.toArray) (h1:vs.all (·.oneCell')=true) (hj:j+vs.length<=cs.length) [hT:cP C.P T n] (hn:vs.length=n)
  (h:G q' C all st (M.set i (.blk b e (dU cs j vs) tot)) rest k) :
  G q C all st M ({ dst:=none,op:=.store T x y,type:=ty,pos,after,guard:=gd }::rest) k:=by
 refine G.R3 (r:=.blk b e (dU cs j vs) tot) hg rfl hq (Eff.Qj fun a w hf hw=>?_)
 obtain ⟨w',h2,h3⟩:=hw.setRow hm hj (fun v hv=>List.all_eq_true.1 h1 v hv) C.P
 refine ⟨w',_,?_,h3,rfl,h⟩;simp [execOp,hf.eval hx,hf.eval hy,Instr.storeAt,Instr.sureAddr,storeVar,hT.h,hvs,hn,h2]
theorem G.Q7 {T n:TypeId}{M0:List Row}{i:Nat}{x y:Operand}{v:Value}{vs:List Value}{b j tot:Nat}{e:TypeId}{cs cs':List Value} (hg:wnB all st gd=true) (hq:q.sto=some (M0,q'))
  (hx:evS st x=some (.pointer (some ⟨b,j,none⟩))) (hm:M[i]?=some (.blk b e cs tot)) (hy:evS st y=some v) (hvs:v.cells=vs.toArray) (h1:vs.all (·.oneCell')=true) (hs:dU cs j vs=cs') (hj:j+vs.length<=cs.length) [hT:cP C.P T n] (hn:vs.length=n) (hsub:M0.Sublist (M.set i (.blk b e cs' tot)))
  (h:G q' C all st (M.set i (.blk b e cs' tot)) rest k) :
  G q C all st M ({ dst:=none,op:=.store T x y,type:=ty,pos,after,guard:=gd }::rest) k:=by
 subst hs;refine G.Rg hg rfl hq (Eff.Qj fun a w hf hw=>?_)
 obtain ⟨w',h2,h3⟩:=hw.setRow hm hj (fun v hv=>List.all_eq_true.1 h1 v hv) C.P
 refine ⟨w',_,?_,h3,hsub,h⟩;simp [execOp,hf.eval hx,hf.eval hy,Instr.storeAt,Instr.sureAddr,storeVar,hT.h,hvs,hn,h2]
theorem Ej {A:Type}:∀ {l:List A}{i:Nat}{x:A},l[i]?=some x->l.set i x=l
 | [],_,_,h=>by simp at h
 | a::l,0,x,h=>by simp at h;simp [h]
 | a::l,i+1,x,h=>by simp only [List.set_cons_succ];rw [Ej (by simpa using h)]
theorem G.Ql {T n:TypeId}{i:Nat}{x y:Operand}{v:Value}{vs:List Value}{b j tot:Nat}{e:TypeId}{cs:List Value} (hg:wnB all st gd=true) (hq:q.ext=some q')
  (hx:evS st x=some (.pointer (some ⟨b,j,none⟩))) (hm:M[i]?=some (.blk b e cs tot)) (hy:evS st y=some v) (hvs:v.cells=vs.toArray) (h1:vs.all (·.oneCell')=true) (hj:Nat.ble (j+vs.length) cs.length=true) (hsame:dU cs j vs=cs) [hT:cP C.P T n] (hn:vs.length=n)
  (h:G q' C all st M rest k) :
  G q C all st M ({ dst:=none,op:=.store T x y,type:=ty,pos,after,guard:=gd }::rest) k:=by
 refine G.ext hg rfl hq (Eff.Qj fun a w hf hw=>?_)
 obtain ⟨w',h2,h3⟩:=hw.setRow hm (by simpa using hj) (fun v hv=>List.all_eq_true.1 h1 v hv) C.P
 rw [hsame,Ej hm] at h3;refine ⟨w',M,?_,h3,List.Sublist.refl _,h⟩;simp [execOp,hf.eval hx,hf.eval hy,Instr.storeAt,Instr.sureAddr,storeVar,hT.h,hvs,hn,h2]
def uA (place:List (Nat×Nat)):List Value->List (Nat×Value)->Option (List Value)
 | cs,[]=>some cs
 | cs,(i,v)::r=>match place[i]? with
  | none=>none
  | some (off,size)=>match v.cells.toList with
   | vs=>if vs.length=size/\off+vs.length<=cs.length then uA place (dU cs off vs) r else none
theorem BT:∀ (vs:List Value) (cs:Array Value) (off j:Nat),
  (vs.zipIdx j).foldl (fun cs (p:Value×Nat)=>cs.setIfInBounds (off+p.2) p.1) cs=(dU cs.toList (off+j) vs).toArray
 | [],cs,off,j=>by simp [dU]
 | v::vs,cs,off,j=>by
  simp only [List.zipIdx_cons,List.foldl_cons];rw [BT vs _ off (j+1)];simp [dU,Nat.add_assoc]
theorem CI (place:List (Nat×Nat)):∀ (parts:List (Nat×Value)) (cs:List Value) (out:List Value),uA place cs parts=some out->Instr.fill (fun i=>place[i]?) cs.toArray parts=some out.toArray
 | [],cs,out,h=>by simp [uA] at h;simp [Instr.fill,h]
 | (i,v)::r,cs,out,h=>by
  simp only [uA] at h
  simp only [Instr.fill];split at h
  ·cases h
  ·rename_i off size hp
   simp only [hp];split at h
   ·rename_i hc
    obtain ⟨h1,h2⟩:=hc;rw [if_neg (by simp only [Array.length_toList] at h1 h2;simp;omega)]
    have:=BT v.cells.toList cs.toArray off 0;simp only [Nat.add_zero] at this;have e:v.cells.zipIdx.foldl (fun cs (x:Value×Nat)=>match x with|(c,j)=>cs.setIfInBounds (off+j) c) cs.toArray=(dU cs off v.cells.toList).toArray:=by
     rw [<- this,<- Array.foldl_toList,Array.toList_zipIdx]
    rw [e];exact CI place r _ out h
   ·cases h
class dN (P:Program) (T:TypeId) (zero:outParam (List Value)) (place:outParam (List (Nat×Nat))):Prop where
 h:∀ parts out w,Instr.fill (fun i=>place[i]?) zero.toArray parts=some out->(Instr.build T parts.toArray).run P w=.ok (.agg out) w
def evP (st:List (Nat×Value)):List (Nat×Operand)->Option (List (Nat×Value))
 | []=>some []
 | (i,x)::r=>match evS st x,evP st r with
  | some v,some vs=>some ((i,v)::vs)
  | _,_=>none
theorem fF.evP {N:Nat}{a:Act} (h:fF N st a):∀ {xs:List (Nat×Operand)}{vs:List (Nat×Value)},Sl.evP st xs=some vs->xs.map (fun (i,x)=>(i,a.eval x))=vs
 | [],vs,e=>by simp [Sl.evP] at e;simp [<- e]
 | (i,x)::r,vs,e=>by
  simp only [Sl.evP] at e;split at e
  ·rename_i v us hv hus
   cases e;simp [h.eval hv,h.evP hus]
  ·cases e
theorem OpV.build {T:TypeId}{zero:List Value}{place:List (Nat×Nat)} [hT:dN C.P T zero place] {parts:List (Nat×Operand)}{vs:List (Nat×Value)}{out:List Value} (hp:Sl.evP st parts=some vs) (ho:uA place zero vs=some out) :
  OpV C st M (.build T parts.toArray) ty (.agg out.toArray) :=
 OpV.of fun a w hf _ dst pos after guard=>by
  have:=hT.h vs out.toArray w (CI place vs zero out ho);have e:=hf.evP hp;simp only [execOp,List.map_toArray];rw [e];simp [this]
theorem G.call {X:Type}{g:FuncId} [hF:Fun C.P g] {f:Operand}{args:List Operand}{cap:Array Value}{vs:List Value}{at_:Array TypeId}{v:X->Value}{Mn:X->List Row} (hg:wnB all st gd=true) (hd:Nat.blt d C.N=true) (hq:q.ext=some q')
  (hf:evS st f=some (.func (.func g) #[] cap)) (ha:evL st args=some vs)
  (hc:∀ w,Sat C.w0 M w->Calls C.P g (vs.toArray++cap) w fun e w'=>∃ x,e=.returned (v x)/\Sat C.w0 (Mn x++M) w')
  (h:∀ x,G q' C all ((d,v x)::st) (Mn x++M) rest k) :
  G q C all st M ({ dst:=some d,op:=.call { callee:=.value f,args:=args.toArray,argTypes:=at_ },type:=ty,pos,after,guard:=gd }::rest) k:=by
 refine G.ext hg rfl hq fun a w hfit hw K hK=>?_
 rw [zC (hfit.eval hf) (hfit.evals ha)];refine (hc w hw).mono fun e w' hh=>?_
 obtain ⟨x,rfl,hs⟩:=hh;exact hK _ _ _ _ ⟨List.sublist_append_right _ _,h x⟩ (hfit.put hd _) rfl hs
theorem G.call0 {X:Type}{g:FuncId} [hF:Fun C.P g] {args:List Operand}{vs:List Value}{at_:Array TypeId}{v:X->Value}{Mn:X->List Row} (hg:wnB all st gd=true) (hd:Nat.blt d C.N=true) (hq:q.ext=some q')
  (ha:evL st args=some vs)
  (hc:∀ w,Sat C.w0 M w->Calls C.P g vs.toArray w fun e w'=>∃ x,e=.returned (v x)/\Sat C.w0 (Mn x++M) w')
  (h:∀ x,G q' C all ((d,v x)::st) (Mn x++M) rest k) :
  G q C all st M ({ dst:=some d,op:=.call { callee:=.value (.func g),args:=args.toArray,argTypes:=at_ },type:=ty,pos,after,guard:=gd }::rest) k :=
 G.call (cap:=#[]) hg hd hq rfl ha (fun w hw=>by simpa using hc w hw) h
def Ng (P:Program) (F:FuncId) (R:Ending->World->Prop) (cs:List Frame) (m:Machine):Prop :=
 ∃ v w' fr,R (.returned v) w'/\m=lone fr cs w'/\fr.fn=F/\fr.leaving P w' (.returned v)
abbrev fU (P:Program) (F:FuncId) (N:Nat) (R:Ending->World->Prop) (w0:World):Ctx :=
 { P,b:={ (default:Frame) with fn:=F,kind:=.normal },PHI:=Ng P F R,N,w0,D:=[] }
def pI (args:Array Value):List (Nat×Value)->Prop
 | []=>True
 | (t,v)::r=>args[t]?=some v/\pI args r
theorem pI.get {args:Array Value}:∀ {st:List (Nat×Value)},pI args st->∀ t v,kM st t=some v->args[t]?=some v
 | [],_,t,v,h=>by simp [kM] at h
 | (i,u)::r,hs,t,v,h=>by
  simp only [kM] at h
  split at h
  ·rename_i e
   have e':i=t:=by simpa using e
   subst e';cases h;exact hs.1
  ·exact pI.get hs.2 t v h
theorem enter {P:Program}{F:FuncId}{fn:Func}{c:Code}{args:Array Value}{w:World}{R:Ending->World->Prop}{N:Nat} (st:List (Nat×Value)) (hf:P.funcs[F]?=some fn) (hb:fn.body=some c) (hN:fn.ntmps=N) (ha:(args.size<=N)=True)
  (hst:pI args st) (h:J (fU P F N R w) st [] [.code c]):Calls P F args w R:=by
 intro cs;have ha':args.size<=N:=of_eq_true ha;have henter:Frame.enter P F args .normal=(fU P F N R w).b.atR { tmps:=args++Array.replicate (N-args.size) undef,defers:=[] } [.code c]:=by
  simp [Frame.enter,Frame.atR,hf,hb,hN,fU];rfl
 obtain ⟨m,h1,v,w',fr,h2,rfl,h3,h4⟩:=h.go { tmps:=args++Array.replicate (N-args.size) undef,defers:=[] } w
  ⟨by simp;omega,fun t v hv=>by
   have:=hst.get t v hv;have ht:=(Array.getElem?_eq_some_iff.1 this).1;rw [Array.getElem?_append_left ht];exact this⟩ rfl (Sat.start w) cs
 rw [<- henter] at h1;exact ⟨.returned v,w',fr,h2,h1,h3,h4⟩
def cD (C:Ctx) (st:List (Nat×Value)) (M:List Row) (r:ResultVar) (v:Value):Prop :=
 match r with
 | .tmp t=>kM st t=some v
 | .cell t T=>∃ p,kM st t=some (.pointer (some p))/\LdV C M T p v
theorem cD.tmp {t:Nat}{v:Value} (h:kM st t=some v):cD C st M (.tmp t) v:=h
theorem cD.cell {t:Nat}{T:TypeId}{p:Addr}{v:Value} (h:kM st t=some (.pointer (some p))) (h2:LdV C M T p v):cD C st M (.cell t T) v:=⟨p,h,h2⟩
def CJ (tmps:Array Value) (r:ResultVar):Sem Value :=
 match r with
 | .tmp t=>pure (tmps.getD t undef)
 | .cell t T=>do loadVar T (<- asAddr (tmps.getD t undef))
theorem cD.run {r:ResultVar}{v:Value} (h:cD C st M r v) {a:Act}{w:World} (hf:fF C.N st a) (hw:Sat C.w0 M w):(CJ a.tmps r).run C.P w=.ok v w:=by
 cases r with
 | tmp t=>simp [CJ,hf.get t v h]
 | cell t T =>
  obtain ⟨p,h1,h2⟩:=h;simp [CJ,hf.get t _ h1,asAddr,h2.go w hw]
structure fI (C:Ctx) (st:List (Nat×Value)) (M:List Row) (fn:Func) (v:Value):Prop where
 go:∀ a w,fF C.N st a->Sat C.w0 M w->(results fn a.tmps).run C.P w=.ok v w
theorem nU (fn:Func) (tmps:Array Value):results fn tmps=(do let vs <- fn.results.mapM (CJ tmps);pure (if h:vs.size=1 then vs[0] else .tuple vs)):=rfl
theorem fI.zero {fn:Func} (hr:fn.results=#[]):fI C st M fn (.tuple #[]):=.mk fun a w hf hw=>by
 simp [results,hr]
theorem fI.one {fn:Func}{r:ResultVar}{v:Value} (hr:fn.results=#[r]) (h:cD C st M r v):fI C st M fn v:=.mk fun a w hf hw=>by
 simp [nU,hr,h.run hf hw]
theorem fI.R2 {fn:Func}{r1 r2:ResultVar}{v1 v2:Value} (hr:fn.results=#[r1,r2]) (h1:cD C st M r1 v1) (h2:cD C st M r2 v2):fI C st M fn (.tuple #[v1,v2]):=.mk fun a w hf hw=>by
 simp [nU,hr,h1.run hf hw,h2.run hf hw]
theorem fI.QI {fn:Func}{r1 r2 r3:ResultVar}{v1 v2 v3:Value} (hr:fn.results=#[r1,r2,r3]) (h1:cD C st M r1 v1) (h2:cD C st M r2 v2) (h3:cD C st M r3 v3):fI C st M fn (.tuple #[v1,v2,v3]):=.mk fun a w hf hw=>by
 simp [nU,hr,h1.run hf hw,h2.run hf hw,h3.run hf hw]
theorem GH {P:Program}{F:FuncId}{N:Nat}{R:Ending->World->Prop}{w0:World}{fn:Func}{v:Value} (hf:P.funcs[F]?=some fn) (hr:fI (fU P F N R w0) st M fn v) (hR:∀ w,Sat w0 M w->R (.returned v) w) :
  J (fU P F N R w0) st M (.code .ret::k):=by
 refine .mk fun a w hfit hd hw cs=>?_
 refine ⟨_,.one (stepR_ret rfl),v,w,_,hR w hw,rfl,rfl,rfl,hd,rfl,fn,hf,hr.go a w hfit hw⟩
theorem zD {P:Program}{F:FuncId}{N:Nat}{R:Ending->World->Prop}{w0:World}{fn:Func}{v:Value} (hf:P.funcs[F]?=some fn) (hr:fI (fU P F N R w0) st M fn v) (hR:∀ w,Sat w0 M w->R (.returned v) w) :
  J (fU P F N R w0) st M []:=by
 refine .mk fun a w hfit hd hw cs=>?_
 refine ⟨_,.one (stepR_end rfl),v,w,_,hR w hw,rfl,rfl,rfl,hd,rfl,fn,hf,hr.go a w hfit hw⟩
def bG (w:World) (b o:Nat) (cs:List Value):Prop:=b < w.heap.size/\∀ j v,cs[j]?=some v->w.cell? ⟨b,o+j,none⟩=some v
theorem bG.below {w w':World}{b o:Nat}{cs:List Value} (h:bG w b o cs) (hb:Below w.heap.size w w'):bG w' b o cs :=
 ⟨Nat.lt_of_lt_of_le h.1 hb.size,fun j v hv=>(hb.cell (p:=⟨b,o+j,none⟩) h.1).trans (h.2 j v hv)⟩
theorem aC.P0 {b o:Nat}{cs:List Value}{v:Value} (h:bG C.w0 b o cs) (hv:cs[0]?=some v):aC C M ⟨b,o,none⟩ v:=aC.old (h.2 0 v hv) h.1
theorem aC.rowS {b o j:Nat}{cs:List Value}{v:Value} (h:bG C.w0 b o cs) (hv:cs[j]?=some v):aC C M ⟨b,o+j,none⟩ v:=aC.old (h.2 j v hv) h.1
theorem iT.of {b:Nat}:∀ {vs:List Value}{o:Nat},(∀ j v,vs[j]?=some v->aC C M ⟨b,o+j,none⟩ v)->iT C M b o vs
 | [],_,_=>trivial
 | v::vs,o,h=>⟨h 0 v rfl,iT.of fun j u hu=>by
   have:=h (j+1) u (by simpa using hu)
   rwa [Nat.add_assoc,Nat.add_comm 1 j]⟩
theorem LdV.Pv {T n:Nat} [hT:gZ C.P T n] {b o:Nat}{cs:List Value} (h:bG C.w0 b o cs) (hl:cs.length=n):LdV C M T ⟨b,o,none⟩ (.agg cs.toArray) :=
 LdV.agg hl (iT.of fun j v hv=>aC.rowS h hv)
theorem LdV.Pw {T n:Nat} [hT:gZ C.P T n] {b tot:Nat}{e:TypeId}{cs:List Value} (hm:Row.blk b e cs tot∈M) (hl:cs.length=n):LdV C M T ⟨b,0,none⟩ (.agg cs.toArray) :=
 LdV.agg hl (iT.of fun j v hv=>by rw [Nat.zero_add];exact aC.blk hm hv)
theorem aM {P:Program}{T f n off:Nat}{fields:Array Field}{fd:Field} (hu:∀ w,(underlying T).run P w=.ok (.struct fields) w) (hf:fields[f]?=some fd) (hs:∀ w,(sizeOf fd.type).run P w=.ok n w) (hn:n≠0) (ho:fd.offset=off):aV P T f off:=⟨fun a w=>by
 subst ho;simp [Instr.fieldAt,hu,hf,Instr.sureAddr,fieldPlace,hs,hn]⟩
theorem sW {p p':Nat->Option (Nat×Nat)}:∀ (parts:List (Nat×Value)) (cs out:Array Value),(∀ i x,p i=some x->p' i=some x)->Instr.fill p cs parts=some out->Instr.fill p' cs parts=some out
 | [],cs,out,_,h=>h
 | (i,v)::r,cs,out,hp,h=>by
  simp only [Instr.fill] at h ⊢
  cases hi:p i with
  | none=>rw [hi] at h;cases h
  | some x =>
   obtain ⟨off,size⟩:=x;rw [hp i _ hi];simp only [hi] at h ⊢
   split at h
   ·cases h
   ·rename_i hc
    rw [if_neg hc];exact sW r _ out hp h
theorem HL {P:Program}{T E n sz:Nat}{z:Value}{zs:List Value}{place:List (Nat×Nat)} (hz:∀ w,(zeroValue T).run P w=.ok z w) (hu:∀ w,(underlying T).run P w=.ok (.array n E) w) (hs:∀ w,(sizeOf E).run P w=.ok sz w) (hzs:z.cells=zs.toArray)
  (hp:(List.range place.length).all (fun i=>decide (place[i]?=some (i*sz,sz)))=true):dN P T zs place:=⟨fun parts out w h=>by
 have:Instr.fill (fun i=>some (i*sz,sz)) zs.toArray parts=some out:=by
  refine sW parts _ out (fun i x hx=>?_) h
  have hi:i < place.length:=(List.getElem?_eq_some_iff.1 hx).1;have:=List.all_eq_true.1 hp i (List.mem_range.2 hi);simp only [decide_eq_true_eq] at this;rw [<- this];exact hx
 simp [Instr.build,hz,hu,hs,hzs,this]⟩
def aE (w:World) (a:Option Addr) (sz:Nat) (l:List (List Value)):Prop :=
 0 < l.length->∃ b off,a=some ⟨b,off,none⟩/\∀ i cs,l[i]?=some cs->bG w b (off+i*sz) cs
theorem aE.below {w w':World}{a:Option Addr}{sz:Nat}{l:List (List Value)} (h:aE w a sz l) (hb:Below w.heap.size w w'):aE w' a sz l:=fun h0 =>
 let ⟨b,off,h1,h2⟩:=h h0
 ⟨b,off,h1,fun i cs hi=>(h2 i cs hi).below hb⟩
theorem aE.at {w:World}{a:Option Addr}{sz:Nat}{A:Type}{f:A->List Value}{l:List A} (h:aE w a sz (l.map f)) (i:Nat) (hi:i < l.length):∃ b off,a=some ⟨b,off,none⟩/\bG w b (off+i*sz) (f l[i]):=by
 obtain ⟨b,off,h1,h2⟩:=h (by simp;omega)
 exact ⟨b,off,h1,h2 i _ (by simp [hi])⟩
theorem aE.nil {w:World}{a:Option Addr}{sz:Nat}:aE w a sz []:=fun h=>by simp at h
theorem G.move {x:Operand}{v:Value} (hx:evS st x=some v) (hg:wnB all st gd=true) (hd:Nat.blt d C.N=true) (hq:q.calm=some q') (h:G q' C all ((d,v)::st) M rest k) :
  G q C all st M ({ dst:=some d,op:=.move x,type:=ty,pos,after,guard:=gd }::rest) k:=G.op (OpV.move hx) hg rfl hd hq h
theorem G.assign {x:Operand}{v:Value} (hx:evS st x=some v) (hg:wnB all st gd=true) (hd:Nat.blt d C.N=true) (hq:q.calm=some q') (h:G q' C all ((d,v)::st) M rest k) :
  G q C all st M ({ dst:=some d,op:=.assign x,type:=ty,pos,after,guard:=gd }::rest) k:=G.op (OpV.assign hx) hg rfl hd hq h
theorem G.pickT {c x y:Operand}{v:Value} (hc:evS st c=some (.bool true)) (hx:evS st x=some v) (hg:wnB all st gd=true) (hd:Nat.blt d C.N=true) (hq:q.calm=some q') (h:G q' C all ((d,v)::st) M rest k) :
  G q C all st M ({ dst:=some d,op:=.pick c x y,type:=ty,pos,after,guard:=gd }::rest) k:=G.op (OpV.pickT hc hx) hg rfl hd hq h
theorem G.pickF {c x y:Operand}{v:Value} (hc:evS st c=some (.bool false)) (hy:evS st y=some v) (hg:wnB all st gd=true) (hd:Nat.blt d C.N=true) (hq:q.calm=some q') (h:G q' C all ((d,v)::st) M rest k) :
  G q C all st M ({ dst:=some d,op:=.pick c x y,type:=ty,pos,after,guard:=gd }::rest) k:=G.op (OpV.pickF hc hy) hg rfl hd hq h
theorem G.not {t:TypeId}{x:Operand}{b:Bool} (hx:evS st x=some (.bool b)) (hg:wnB all st gd=true) (hd:Nat.blt d C.N=true) (hq:q.calm=some q') (h:G q' C all ((d,.bool (!b))::st) M rest k) :
  G q C all st M ({ dst:=some d,op:=.unOp .not t x,type:=ty,pos,after,guard:=gd }::rest) k:=G.op (OpV.not hx) hg rfl hd hq h
theorem G.extract {x:Operand}{i:Nat}{vs:Array Value}{v:Value} (hx:evS st x=some (.tuple vs)) (hv:vs[i]?=some v) (hg:wnB all st gd=true) (hd:Nat.blt d C.N=true) (hq:q.calm=some q') (h:G q' C all ((d,v)::st) M rest k) :
  G q C all st M ({ dst:=some d,op:=.extract x i,type:=ty,pos,after,guard:=gd }::rest) k:=G.op (OpV.extract hx hv) hg rfl hd hq h
theorem G.fieldAddr {T f off:Nat}{x:Operand}{b o:Nat} (hx:evS st x=some (.pointer (some ⟨b,o,none⟩))) [hT:aV C.P T f off] (hg:wnB all st gd=true) (hd:Nat.blt d C.N=true) (hq:q.calm=some q') (h:G q' C all ((d,.pointer (some ⟨b,CH o off,none⟩))::st) M rest k) :
  G q C all st M ({ dst:=some d,op:=.fieldAddr T x f,type:=ty,pos,after,guard:=gd }::rest) k:=G.op (OpV.fieldAddr hx) hg rfl hd hq h
theorem G.indexAddr {T E sz:Nat}{x y:Operand}{b o n c:Nat}{ki:IntKind}{i:Nat}{e:Int} (hx:evS st x=some (.slice (some ⟨b,o,none⟩) n c)) (hy:evS st y=some (.int ki e)) (he:e=(i:Int)) (hi:i < n) [hT:bN C.P T E sz] (hg:wnB all st gd=true) (hd:Nat.blt d C.N=true) (hq:q.calm=some q') (h:G q' C all ((d,.pointer (some ⟨b,o+i*sz,none⟩))::st) M rest k) :
  G q C all st M ({ dst:=some d,op:=.indexAddr T x y,type:=ty,pos,after,guard:=gd }::rest) k:=G.op (OpV.indexAddr hx hy he hi) hg rfl hd hq h
theorem G.load {T:TypeId}{x:Operand}{p:Addr}{v:Value} (hx:evS st x=some (.pointer (some p))) (hl:LdV C (q.cls M) T p v) (hg:wnB all st gd=true) (hd:Nat.blt d C.N=true) (hq:q.calm=some q') (h:G q' C all ((d,v)::st) M rest k) :
  G q C all st M ({ dst:=some d,op:=.load T x,type:=ty,pos,after,guard:=gd }::rest) k:=G.op (OpV.load hx hl) hg rfl hd hq h
theorem G.lenSlice {T E sz:TypeId}{x:Operand}{a:Option Addr}{n c:Nat} (hx:evS st x=some (.slice a n c)) [hT:bN C.P T E sz] (hg:wnB all st gd=true) (hd:Nat.blt d C.N=true) (hq:q.calm=some q') (h:G q' C all ((d,.int .i64 n)::st) M rest k) :
  G q C all st M ({ dst:=some d,op:=.call { callee:=.builtin .len,args:=#[x],argTypes:=#[T] },type:=ty,pos,after,guard:=gd }::rest) k:=G.op (OpV.lenSlice hx) hg rfl hd hq h
theorem G.lenString {T:TypeId}{x:Operand}{s:ByteArray} (hx:evS st x=some (.string s)) [hT:iD C.P T] (hg:wnB all st gd=true) (hd:Nat.blt d C.N=true) (hq:q.calm=some q') (h:G q' C all ((d,.int .i64 s.size)::st) M rest k) :
  G q C all st M ({ dst:=some d,op:=.call { callee:=.builtin .len,args:=#[x],argTypes:=#[T] },type:=ty,pos,after,guard:=gd }::rest) k:=G.op (OpV.lenString hx) hg rfl hd hq h
theorem G.build {T:TypeId}{zero:List Value}{place:List (Nat×Nat)}{parts:List (Nat×Operand)}{vs:List (Nat×Value)}{out:List Value} (hp:Sl.evP st parts=some vs) [hT:dN C.P T zero place] (ho:uA place zero vs=some out) (hg:wnB all st gd=true) (hd:Nat.blt d C.N=true) (hq:q.calm=some q') (h:G q' C all ((d,.agg out.toArray)::st) M rest k) :
  G q C all st M ({ dst:=some d,op:=.build T parts.toArray,type:=ty,pos,after,guard:=gd }::rest) k:=G.op (OpV.build hp ho) hg rfl hd hq h
theorem G.add {t:TypeId}{x y:Operand}{yt:TypeId}{a b:Int} (hx:evS st x=some (.int .i64 a)) (hy:evS st y=some (.int .i64 b)) (h1:-9223372036854775808<=a+b) (h2:a+b<=9223372036854775807) (hg:wnB all st gd=true) (hd:Nat.blt d C.N=true) (hq:q.calm=some q') (h:G q' C all ((d,.int .i64 (a+b))::st) M rest k) :
  G q C all st M ({ dst:=some d,op:=.binOp .add t x y yt,type:=ty,pos,after,guard:=gd }::rest) k:=G.op (OpV.add hx hy h1 h2) hg rfl hd hq h
theorem G.sub {t:TypeId}{x y:Operand}{yt:TypeId}{a b:Int} (hx:evS st x=some (.int .i64 a)) (hy:evS st y=some (.int .i64 b)) (h1:-9223372036854775808<=a-b) (h2:a-b<=9223372036854775807) (hg:wnB all st gd=true) (hd:Nat.blt d C.N=true) (hq:q.calm=some q') (h:G q' C all ((d,.int .i64 (a-b))::st) M rest k) :
  G q C all st M ({ dst:=some d,op:=.binOp .sub t x y yt,type:=ty,pos,after,guard:=gd }::rest) k:=G.op (OpV.sub hx hy h1 h2) hg rfl hd hq h
theorem G.mul {t:TypeId}{x y:Operand}{yt:TypeId}{a b:Int} (hx:evS st x=some (.int .i64 a)) (hy:evS st y=some (.int .i64 b)) (h1:-9223372036854775808<=a*b) (h2:a*b<=9223372036854775807) (hg:wnB all st gd=true) (hd:Nat.blt d C.N=true) (hq:q.calm=some q') (h:G q' C all ((d,.int .i64 (a*b))::st) M rest k) :
  G q C all st M ({ dst:=some d,op:=.binOp .mul t x y yt,type:=ty,pos,after,guard:=gd }::rest) k:=G.op (OpV.mul hx hy h1 h2) hg rfl hd hq h
theorem G.neg {t:TypeId}{x:Operand}{a:Int} (hx:evS st x=some (.int .i64 a)) (h1:-9223372036854775808<=-a) (h2:-a<=9223372036854775807) (hg:wnB all st gd=true) (hd:Nat.blt d C.N=true) (hq:q.calm=some q') (h:G q' C all ((d,.int .i64 (-a))::st) M rest k) :
  G q C all st M ({ dst:=some d,op:=.unOp .neg t x,type:=ty,pos,after,guard:=gd }::rest) k:=G.op (OpV.neg hx h1 h2) hg rfl hd hq h
theorem G.lss {t:TypeId}{x y:Operand}{yt:TypeId}{ki:IntKind}{a b:Int} (hx:evS st x=some (.int ki a)) (hy:evS st y=some (.int ki b)) (hg:wnB all st gd=true) (hd:Nat.blt d C.N=true) (hq:q.calm=some q') (h1:a < b->G q' C all ((d,.bool true)::st) M rest k) (h2:¬ (a < b)->G q' C all ((d,.bool false)::st) M rest k) :
  G q C all st M ({ dst:=some d,op:=.binOp .lss t x y yt,type:=ty,pos,after,guard:=gd }::rest) k:=G.PC (OpV.lss hx hy) hg rfl hd hq h1 h2
theorem G.leq {t:TypeId}{x y:Operand}{yt:TypeId}{ki:IntKind}{a b:Int} (hx:evS st x=some (.int ki a)) (hy:evS st y=some (.int ki b)) (hg:wnB all st gd=true) (hd:Nat.blt d C.N=true) (hq:q.calm=some q') (h1:a<=b->G q' C all ((d,.bool true)::st) M rest k) (h2:¬ (a<=b)->G q' C all ((d,.bool false)::st) M rest k) :
  G q C all st M ({ dst:=some d,op:=.binOp .leq t x y yt,type:=ty,pos,after,guard:=gd }::rest) k:=G.PC (OpV.leq hx hy) hg rfl hd hq h1 h2
theorem G.gtr {t:TypeId}{x y:Operand}{yt:TypeId}{ki:IntKind}{a b:Int} (hx:evS st x=some (.int ki a)) (hy:evS st y=some (.int ki b)) (hg:wnB all st gd=true) (hd:Nat.blt d C.N=true) (hq:q.calm=some q') (h1:b < a->G q' C all ((d,.bool true)::st) M rest k) (h2:¬ (b < a)->G q' C all ((d,.bool false)::st) M rest k) :
  G q C all st M ({ dst:=some d,op:=.binOp .gtr t x y yt,type:=ty,pos,after,guard:=gd }::rest) k:=G.PC (OpV.gtr hx hy) hg rfl hd hq h1 h2
theorem G.geq {t:TypeId}{x y:Operand}{yt:TypeId}{ki:IntKind}{a b:Int} (hx:evS st x=some (.int ki a)) (hy:evS st y=some (.int ki b)) (hg:wnB all st gd=true) (hd:Nat.blt d C.N=true) (hq:q.calm=some q') (h1:b<=a->G q' C all ((d,.bool true)::st) M rest k) (h2:¬ (b<=a)->G q' C all ((d,.bool false)::st) M rest k) :
  G q C all st M ({ dst:=some d,op:=.binOp .geq t x y yt,type:=ty,pos,after,guard:=gd }::rest) k:=G.PC (OpV.geq hx hy) hg rfl hd hq h1 h2
theorem G.eql {t:TypeId}{x y:Operand}{yt:TypeId}{ki:IntKind}{a b:Int} (hx:evS st x=some (.int ki a)) (hy:evS st y=some (.int ki b)) (hg:wnB all st gd=true) (hd:Nat.blt d C.N=true) (hq:q.calm=some q') (h1:a=b->G q' C all ((d,.bool true)::st) M rest k) (h2:¬ (a=b)->G q' C all ((d,.bool false)::st) M rest k) :
  G q C all st M ({ dst:=some d,op:=.binOp .eql t x y yt,type:=ty,pos,after,guard:=gd }::rest) k:=G.PC (OpV.eql hx hy) hg rfl hd hq h1 h2
theorem G.neq {t:TypeId}{x y:Operand}{yt:TypeId}{ki:IntKind}{a b:Int} (hx:evS st x=some (.int ki a)) (hy:evS st y=some (.int ki b)) (hg:wnB all st gd=true) (hd:Nat.blt d C.N=true) (hq:q.calm=some q') (h1:a≠b->G q' C all ((d,.bool true)::st) M rest k) (h2:¬ (a≠b)->G q' C all ((d,.bool false)::st) M rest k) :
  G q C all st M ({ dst:=some d,op:=.binOp .neq t x y yt,type:=ty,pos,after,guard:=gd }::rest) k:=G.PC (OpV.neq hx hy) hg rfl hd hq h1 h2
theorem G.Ro {ts:Array TypeId}{x y:Operand}{ki:IntKind}{a b:Int} (hx:evS st x=some (.int ki a)) (hy:evS st y=some (.int ki b)) (hg:wnB all st gd=true) (hd:Nat.blt d C.N=true) (hq:q.calm=some q') (h:G q' C all ((d,.int ki (Max.max a b))::st) M rest k) :
  G q C all st M ({ dst:=some d,op:=.call { callee:=.builtin .max,args:=#[x,y],argTypes:=ts },type:=ty,pos,after,guard:=gd }::rest) k :=
 G.op (OpV.of fun ac w hf _ dst pos after guard=>by
  have:(if b > a then b else a)=Max.max a b:=by split<;>omega
  simp [execOp,resolve,hf.eval hx,hf.eval hy,invoke,builtin,run_max_int2,this]) hg rfl hd hq h
theorem G.Rm {ts:Array TypeId}{x y:Operand}{ki:IntKind}{a b:Int} (hx:evS st x=some (.int ki a)) (hy:evS st y=some (.int ki b)) (hg:wnB all st gd=true) (hd:Nat.blt d C.N=true) (hq:q.calm=some q') (h:G q' C all ((d,.int ki (Min.min a b))::st) M rest k) :
  G q C all st M ({ dst:=some d,op:=.call { callee:=.builtin .min,args:=#[x,y],argTypes:=ts },type:=ty,pos,after,guard:=gd }::rest) k :=
 G.op (OpV.of fun ac w hf _ dst pos after guard=>by
  have:(if b < a then b else a)=Min.min a b:=by split<;>omega
  simp [execOp,resolve,hf.eval hx,hf.eval hy,invoke,builtin,run_min_int2,this]) hg rfl hd hq h
theorem G.PH {g:FuncId}{args:List Operand}{vs:List Value}{at_:Array TypeId}{v:Value} (ha:evL st args=some vs) (hg:wnB all st gd=true) (hd:Nat.blt d C.N=true) (hq:q.calm=some q') [hF:Fun C.P g]
  (hc:∀ w,Sat C.w0 (q.cls M) w->Calls C.P g vs.toArray w fun e w'=>e=.returned v/\Below w.heap.size w w') (h:G q' C all ((d,v)::st) M rest k) :
  G q C all st M ({ dst:=some d,op:=.call { callee:=.value (.func g),args:=args.toArray,argTypes:=at_ },type:=ty,pos,after,guard:=gd }::rest) k:=G.op (OpV.call0 ha hc) hg rfl hd hq h
theorem G.PQ {g:FuncId}{f:Operand}{cap:Array Value}{args:List Operand}{vs:List Value}{at_:Array TypeId}{v:Value} (hf:evS st f=some (.func (.func g) #[] cap)) (ha:evL st args=some vs) (hg:wnB all st gd=true) (hd:Nat.blt d C.N=true) (hq:q.calm=some q') [hF:Fun C.P g]
  (hc:∀ w,Sat C.w0 (q.cls M) w->Calls C.P g (vs.toArray++cap) w fun e w'=>e=.returned v/\Below w.heap.size w w') (h:G q' C all ((d,v)::st) M rest k) :
  G q C all st M ({ dst:=some d,op:=.call { callee:=.value f,args:=args.toArray,argTypes:=at_ },type:=ty,pos,after,guard:=gd }::rest) k:=G.op (OpV.call hf ha hc) hg rfl hd hq h
end Go.Sl
