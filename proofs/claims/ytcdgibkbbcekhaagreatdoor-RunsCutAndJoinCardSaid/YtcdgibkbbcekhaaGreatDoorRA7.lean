/-
  Contracts of the rational numbers: plus, less, times, over, do, Add, Sub, Mul, Cmp, Make, Int.
-/
import Derived.Test.YtcdgibkbbcekhaaGreatDoorRA6
import Derived.ProofKit
import Derived.Test.YtcdgibkbbcekhaaGreatDoorRows
set_option linter.unusedVariables false
set_option linter.unusedSimpArgs false
set_option linter.unusedSectionVars false
namespace Go.Proofs.YtcdgibkbbcekhaaGreatDoor
open Go.RowKit Go.Sl Go.Num
theorem nB_lt_pow {n k:Nat} (h:(nB n).length≤k):n < 256 ^ k:=by
 have:=vB_lt (nB n)
 rw [vB_nB] at this
 exact Nat.lt_of_lt_of_le this (Nat.pow_le_pow_right (by decide) h)
theorem nB_mul {m n k l:Nat} (h1:(nB m).length≤k) (h2:(nB n).length≤l):(nB (m*n)).length≤k+l:=by
 refine nB_bound ?_
 rw [Nat.pow_add]
 exact Nat.mul_lt_mul'' (nB_lt_pow h1) (nB_lt_pow h2)
end Go.Proofs.YtcdgibkbbcekhaaGreatDoor
/-
 Sizes of numbers,lists of integers,slices in memory: what all chapters share.
-/
namespace Go.Proofs.YtcdgibkbbcekhaaGreatDoor
open Go.RowKit Go.Sl Go.Num
def fewQ (k:Nat) (a:Q3):Prop:=a.num.length≤k∧a.den.length≤k
theorem fewQ_le {a:Q3}{j k:Nat} (h:fewQ j a) (hk:j≤k):fewQ k a:=⟨Nat.le_trans h.1 hk,Nat.le_trans h.2 hk⟩
theorem SlAt.all {w:World}{a:Option Addr}{sz:Nat}{A:Type}{f:A→List Value}{l:List A} (h:SlAt w a sz (l.map f)) (h0:0 < l.length):∃ b off,a=some ⟨b,off,none⟩∧∀ i (hi:i < l.length),RowAt w b (off+i*sz) (f l[i]):=by
 obtain ⟨b,off,h1,h2⟩:=h (by simpa using h0)
 exact ⟨b,off,h1,fun i hi=>h2 i _ (by simp [hi])⟩
def prv {A:Type} (l:List A):Nat→Option A
 | 0=>none
 | k+1=>l[k]?
def isV (s:Int):List Value:=[.int .i64 s]
theorem isV_len (s:Int):(isV s).length=1:=rfl
theorem is_set {p:List Int}{j:Nat}{v:Int} (h:j < p.length):setL (flat isV p) (0+j*1) [.int .i64 v]=flat isV (p.set j v):=flat_set1 isV_len h rfl
theorem is_get:∀ {p:List Int}{j:Nat} (h:j < p.length),(flat isV p)[0+j*1]?=some (.int .i64 p[j])
 | x::p,0,_=>rfl
 | x::p,j+1,h=>by
  have:=is_get (p:=p) (j:=j) (by simpa using h)
  rw [Nat.zero_add,Nat.mul_one] at this ⊢
  rw [flat_cons]
  simpa [isV] using this
theorem isV_one (s:Int):(isV s).all (·.oneCell')=true:=rfl
theorem isRep (x:Int) (n:Nat):flat isV (List.replicate n x)=List.replicate n (.int .i64 x):=by
 induction n with
 | zero=>rfl
 | succ n ih=>rw [List.replicate_succ,List.replicate_succ,flat_cons,ih];rfl
theorem isLen (l:List Int):(flat isV l).length=l.length:=by rw [flat_len isV_len,Nat.mul_one]
theorem getD_eq {S:List Int}{x:Nat} (h:x < S.length):S.getD x 0=S[x]:=by rw [List.getD_eq_getElem?_getD,List.getElem?_eq_getElem h];rfl
theorem nil_or_snoc {A:Type} (l:List A):l=[]∨∃ o p,l=o++[p]:=by
 rcases List.eq_nil_or_concat l with rfl|⟨o,p,rfl⟩
 ·exact .inl rfl
 ·exact .inr ⟨o,p,List.concat_eq_append⟩
theorem blkSlA {w0 w:World}{M:List Row}{A:Type}{f:A→List Value}{sz b tot:Nat}{e:TypeId}{l:List A} (hw:Sat w0 M w) (hf:∀ x,(f x).length=sz) (hm:Row.blk b e (flat f l) tot∈M:=by (repeat (first|exact List.Mem.head _|apply List.Mem.tail))):SlAt w (some ⟨b,0,none⟩) sz (l.map f)∧w0.heap.size≤b:=⟨SlAt.ofBlk hf hw hm,((hw.old _ hm).2 _ rfl).1⟩
end Go.Proofs.YtcdgibkbbcekhaaGreatDoor
/-
 Lists in which two elements change places;the order that insertion brings about.
-/
namespace Go.Proofs.YtcdgibkbbcekhaaGreatDoor
open Go.RowKit Go.Sl Go.Num
theorem swap_perm (l:List Int) (i j:Nat) (hi:i < l.length) (hj:j < l.length):((l.set i l[j]).set j l[i]).Perm l:=by
 have h:=Array.swap_perm (xs:=l.toArray) (i:=i) (j:=j) (by simpa using hi) (by simpa using hj)
 have h2:=h.toList
 simpa using h2
def swp (S:List Int) (x y:Nat):List Int:=(S.set x (S.getD y 0)).set y (S.getD x 0)
theorem swp_len (S:List Int) (x y:Nat):(swp S x y).length=S.length:=by rw [swp,List.length_set,List.length_set]
theorem swp_eq {S:List Int}{x y:Nat} (hx:x < S.length) (hy:y < S.length):swp S x y=(S.set x S[y]).set y S[x]:=by rw [swp,getD_eq hx,getD_eq hy]
theorem swp_fst {S:List Int}{x y:Nat} (hx:x < S.length) (hy:y < S.length):(swp S x y).getD x 0=S.getD y 0:=by
 rw [getD_eq (by rw [swp_len];exact hx),getD_eq hy]
 simp only [swp_eq hx hy,List.getElem_set]
 split
 ·rename_i h;subst h;rfl
 ·rfl
theorem swp_snd {S:List Int}{x y:Nat} (hx:x < S.length) (hy:y < S.length):(swp S x y).getD y 0=S.getD x 0:=by
 rw [getD_eq (by rw [swp_len];exact hy),getD_eq hx]
 simp only [swp_eq hx hy,List.getElem_set_self]
theorem swp_oth {S:List Int}{x y z:Nat} (hx:x < S.length) (hy:y < S.length) (h1:z≠x) (h2:z≠y):(swp S x y).getD z 0=S.getD z 0:=by
 rw [swp_eq hx hy,List.getD_eq_getElem?_getD,List.getElem?_set_ne (by omega),List.getElem?_set_ne (by omega),List.getD_eq_getElem?_getD]
theorem swp_perm {S:List Int}{x y:Nat} (hx:x < S.length) (hy:y < S.length):(swp S x y).Perm S:=by
 rw [swp_eq hx hy];exact swap_perm S x y hx hy
end Go.Proofs.YtcdgibkbbcekhaaGreatDoor
/-
 Maps from integers to integers.
-/
namespace Go.Proofs.YtcdgibkbbcekhaaGreatDoor
open Go.RowKit Go.Sl Go.Num
instance:TMap Tryz.prog 152 3 3 (.int .i64 0):=⟨by kernel_rfl,fun w=>Tryz.zeroValue3 w⟩
instance tkI:TKey Tryz.prog 3 (Value.int .i64):=TKey.int (by kernel_rfl)
def iv (p:Int×Int):Int×Value:=(p.1,.int .i64 p.2)
def bump (x:Int):List (Int×Int)→List (Int×Int)
 | []=>[(x,1)]
 | (y,n)::r=>if x=y then (x,n+1)::r else (y,n)::bump x r
def cnt (x:Int):List (Int×Int)→Int
 | []=>0
 | (y,n)::r=>if x=y then n else cnt x r
theorem get_iv (x:Int):∀ L:List (Int×Int),(getM x (L.map iv)).getD (.int .i64 0)=.int .i64 (cnt x L)
 | []=>rfl
 | (y,n)::r=>by
  rw [List.map_cons,iv,getM,cnt]
  split
  ·rfl
  ·exact get_iv x r
def setC (x n:Int):List (Int×Int)→List (Int×Int)
 | []=>[(x,n)]
 | (y,m)::r=>if x=y then (x,n)::r else (y,m)::setC x n r
theorem put_setC (x n:Int):∀ L:List (Int×Int),putM x (.int .i64 n) (L.map iv)=(setC x n L).map iv
 | []=>rfl
 | (y,m)::r=>by
  rw [List.map_cons,iv,putM,setC]
  split
  ·rfl
  ·rw [put_setC x n r];rfl
theorem cnt_setC (x y n:Int):∀ L:List (Int×Int),cnt x (setC y n L)=if x=y then n else cnt x L
 | []=>rfl
 | (z,m)::r=>by
  rw [setC]
  by_cases h:y=z
  ·subst h
   rw [if_pos rfl,cnt,cnt]
   by_cases h2:x=y
   ·rw [if_pos h2,if_pos h2]
   ·rw [if_neg h2,if_neg h2,if_neg h2]
  ·rw [if_neg h,cnt,cnt,cnt_setC x y n r]
   by_cases h2:x=z
   ·rw [if_pos h2,if_pos h2,if_neg (by omega)]
   ·rw [if_neg h2,if_neg h2]
end Go.Proofs.YtcdgibkbbcekhaaGreatDoor
/-
 How arguments read: what all chapters share.
-/
namespace Go.Proofs.YtcdgibkbbcekhaaGreatDoor
open Go.RowKit Go.Sl Go.Num Go.ChangeShapes Go.WideShapes
theorem own:ownKnob Tryz.prog.godebug=none:=by kernel_rfl
theorem laidOut:laidOutB Tryz.prog=true:=by kernel_rfl
theorem rInt:Reads Tryz.prog 3 isV (fun _ _=>True):=(Reads.int Tryz.underlying3).mono fun _ _ _=>trivial
theorem rInts:Reads Tryz.prog 44 (fun s:Sld Int=>[s.v]) (fun w s=>SlAt w s.ad 1 (s.l.map isV)∧s.l.length≤s.cap):=(Reads.slice (sz:=1) Tryz.underlying44 (by kernel_rfl) (by decide) rInt).mono fun _ _ h=>⟨h.1,h.2.1⟩
abbrev laidL:List (String×DataW Unit):=[("unicode/utf8.acceptRanges",Rows.laid_unicode_utf8_acceptRanges),("unicode/utf8.first",Rows.laid_unicode_utf8_first)]
end Go.Proofs.YtcdgibkbbcekhaaGreatDoor
/-
 Calls that lay rows;rows brought to the front;what later chapters share.
-/
namespace Go.Sl
open Go.RowKit
variable {C:Ctx}{st:List (Nat×Value)}{M:List Row}{k:List Item}{q q':Md}{all rest:List Oper}{d:Nat}{opn:Op}{ty:TypeId}{pos:String}{after:Array Edge}{gd:Option (Nat×Bool)}
theorem G.cX {X:Type}{g:FuncId}{args:List Operand}{vs:List Value}{at_:Array TypeId}{v:X→Value}{w:World} [hF:Fun C.P g]
  (hc:∀ w',Below w.heap.size w w'→Calls C.P g vs.toArray w' fun e w''=>∃ x,e=.returned (v x)∧Below w'.heap.size w' w'') (h:∀ x,G q' C all ((d,v x)::st) M rest k) (hw:w=C.w0:=by rfl) (ha:evL st args=some vs:=by rfl) (hs:sideB all st gd d C.N q.ext=some q':=by rfl) :
  G q C all st M ({ dst:=some d,op:=.call { callee:=.value (.func g),args:=args.toArray,argTypes:=at_ },type:=ty,pos,after,guard:=gd }::rest) k:=by
 subst hw
 obtain ⟨g1,g2,g3⟩:=sideB_ok hs
 exact G.call0 (X:=X) (v:=v) (Mn:=fun _=>[]) g1 g2 g3 ha (fun w hw=>(hc w hw.below).mono fun e w' ⟨x,h1,h2⟩=>⟨x,h1,hw.ext h2⟩) h
theorem G.cR {X:Type}{g:FuncId}{args:List Operand}{vs:List Value}{at_:Array TypeId}{v:X→Value}{Mn:X→List Row} (ha:evL st args=some vs) (hs:sideB all st gd d C.N q.ext=some q') [hF:Fun C.P g]
  (hc:∀ w,Sat C.w0 M w→Calls C.P g vs.toArray w fun e w'=>∃ x,e=.returned (v x)∧Sat C.w0 (Mn x++M) w') (h:∀ x,G q' C all ((d,v x)::st) (Mn x++M) rest k) :
  G q C all st M ({ dst:=some d,op:=.call { callee:=.value (.func g),args:=args.toArray,argTypes:=at_ },type:=ty,pos,after,guard:=gd }::rest) k:=by
 obtain ⟨g1,g2,g3⟩:=sideB_ok hs
 exact G.call0 g1 g2 g3 ha hc h
end Go.Sl
namespace Go.Sl
end Go.Sl
namespace Go.Sl
open Go.RowKit
theorem G.ownForm {C:Ctx}{st:List (Nat×Value)}{M:List Row}{k:List Item}{all rest:List Oper}{base E size n i:Nat}{v:Value}{xs:List Value} (hm:M[i]?=some (.own base v E size n xs)) (h:∀ a c,v=.slice a n c→G .seq C all st M rest k):G .seq C all st M rest k :=
 ⟨fun a w hf hd hw=>by
  obtain ⟨hl,hv⟩:=hw.hold _ (List.mem_of_getElem? hm)
  rcases hv with ⟨rfl,rfl⟩|⟨g,cap,cur,rfl,_⟩
  ·exact (h _ _ rfl).go a w hf hd hw
  ·exact (h _ _ rfl).go a w hf hd hw⟩
end Go.Sl
namespace Go.Sl
open Go.RowKit Go.ChangeShapes Go.WideShapes
end Go.Sl
namespace Go.Sl
open Go.RowKit
end Go.Sl
namespace Go.Sl
open Go.RowKit
variable {C:Ctx}{st:List (Nat×Value)}{M:List Row}{k:List Item}{q q':Md}{all rest:List Oper}{d:Nat}{opn:Op}{ty:TypeId}{pos:String}{after:Array Edge}{gd:Option (Nat×Bool)}
theorem G.cP {X:Type}{g:FuncId}{args:List Operand}{vs:List Value}{at_:Array TypeId} (v:X→Value) (T:List Row) (Tn:X→List Row) {M1:List Row} (ha:evL st args=some vs) (hs:sideB all st gd d C.N q.res=some q') [hF:Fun C.P g] (hp:M.Perm (T++M1))
  (hc:∀ w,Sat C.w0 (T++M1) w→Calls C.P g vs.toArray w fun e w'=>∃ x,e=.returned (v x)∧Sat C.w0 (Tn x++M1) w') (h:∀ x,G q' C all ((d,v x)::st) (Tn x++M1) rest k) :
  G q C all st M ({ dst:=some d,op:=.call { callee:=.value (.func g),args:=args.toArray,argTypes:=at_ },type:=ty,pos,after,guard:=gd }::rest) k :=
 G.cM v (fun x=>Tn x++M1) hs ha (fun w hw=>hc w (hw.perm hp)) h
theorem G.nilOwn {E size:Nat} (h:G .seq C all st (.own 0 (.slice none 0 0) E size 0 []::M) rest k):G .seq C all st M rest k :=
 ⟨fun a w hf hd hw=>h.go a w hf hd (hw.new (Below.refl _ _) ⟨by simp,.inl ⟨rfl,rfl⟩⟩ (Nat.zero_le _) fun b hb=>by simp [Row.sup,Value.ownBlock] at hb)⟩
theorem G.blkCut {A:Type}{f:A→List Value}{g cap E size:Nat}{l l':List A} (m:Nat) {F:Row→List Row} (hf:∀ x,(f x).length=size) (hm:RAt (.blk g E (flat f l) (cap*size)) M F) (h1:m≤cap) (h2:cap≤maxLen) (h3:m≤l.length) (h4:l.take m=l') (h:G .seq C all st (F (.own 0 (.slice (some ⟨g,0,none⟩) m cap) E size m (flat f l'))) rest k):G .seq C all st M rest k :=
 ⟨fun a w hfit hd hw=>by
  obtain ⟨i,h5,h6⟩:=hm.idx
  obtain ⟨rs,h7,h8⟩:=hw.hold _ (List.mem_of_getElem? h5)
  rw [← h6] at h
  refine h.go a w hfit hd (hw.swap h5 (r':=.own 0 (.slice (some ⟨g,0,none⟩) m cap) E size m (flat f l')) ?_ rfl fun b hb=>?_)
  ·subst h4
   have h9:m*size≤(flat f l).length:=by rw [flat_len hf];exact Nat.mul_le_mul_right _ h3
   refine ⟨by rw [flat_len hf,List.length_take,Nat.min_eq_left h3],.inr ⟨g,cap,_,rfl,Nat.zero_le _,h7,h1,h2,by simp [h8],?_⟩⟩
   rw [← flat_take hf l m,List.take_append_of_le_length h9]
  ·cases hb;rfl⟩
structure NstAt {A:Type} (f:A→List Value) (sz:Nat) (adr:A→Option Addr) (sz2:Nat) (F2:A→List (List Value)) (w:World) (a:Option Addr) (L:List A):Prop where
 out:SlAt w a sz (L.map f)
 inn:∀ r∈L,SlAt w (adr r) sz2 (F2 r)
section
variable {A:Type}{f:A→List Value}{sz:Nat}{adr:A→Option Addr}{sz2:Nat}{F2:A→List (List Value)}
theorem NstAt.below {w w':World}{a:Option Addr}{L:List A} (h:NstAt f sz adr sz2 F2 w a L) (hb:Below w.heap.size w w'):NstAt f sz adr sz2 F2 w' a L:=⟨h.out.below hb,fun r hr=>(h.inn r hr).below hb⟩
def nstRow (N:Nat) (f:A→List Value) (sz:Nat) (adr:A→Option Addr) (sz2:Nat) (F2:A→List (List Value)) (a:Option Addr) (L:List A):Row :=
 .fact N (fun b=>slSup N a (L.map f) b∨∃ r∈L,slSup N (adr r) (F2 r) b) (fun w=>NstAt f sz adr sz2 F2 w a L) fun w w' h hw =>
  ⟨slKeep w w' (fun b hb=>h b (hb.imp id .inl)) hw.out,fun r hr=>slKeep w w' (fun b hb=>h b (hb.imp id fun hb=>.inr ⟨r,hr,hb⟩)) (hw.inn r hr)⟩
theorem Sat.nst {w0 w:World}{N:Nat}{a:Option Addr}{L:List A} (h:Sat w0 M w) (hm:nstRow N f sz adr sz2 F2 a L∈M:=by (repeat (first|exact List.Mem.head _|apply List.Mem.tail))):NstAt f sz adr sz2 F2 w a L:=h.hold _ hm
end
end Go.Sl
/-
 Contracts of curves: Check of the program and of the specification.
-/
namespace Go.Proofs.YtcdgibkbbcekhaaGreatDoor
open Go.RowKit Go.Sl Go.Num
abbrev Pnt:=Int×Q3
def ptV (p:Pnt):List Value:=[.int .i64 p.1,.bool p.2.neg,.string (bs p.2.num),.string (bs p.2.den)]
def fewPts (l:List Pnt):Prop:=l.length≤20∧∀ p∈l,fewQ 12 p.2
def ptsErr (prev:Option Pnt):List Pnt→Int
 | []=>0
 | p::r=>if p.1 < -1000∨2000 < p.1 then 3 else if ¬ validQ p.2∨p.2.neg=true then 1 else
  match prev with
  | none=>ptsErr (some p) r
  | some q=>if p.1≤q.1∨sgnR (qR p.2-qR q.2) < 0 then 1 else ptsErr (some p) r
def curveErr (l:List Pnt):Int:=if l.length < 1∨16 < l.length then 2 else ptsErr none l
end Go.Proofs.YtcdgibkbbcekhaaGreatDoor
/-
 The flow of a curve: plain laws,and the contracts of the program and of the specification.
-/
namespace Go.Proofs.YtcdgibkbbcekhaaGreatDoor
open Go.RowKit Go.Sl Go.Num
def nx (l:List Pnt) (s:Int):Nat:=l.findIdx fun p=>decide (s < p.1)
def between (p q:Pnt) (s:Int):Rat:=qR p.2+((s-p.1:Int):Rat) / ((q.1-p.1:Int):Rat)*(qR q.2-qR p.2)
def curveAt (l:List Pnt) (s:Int):Rat :=
 match nx l s with
 | 0=>0
 | n+1=>match l[n]? with
  | none=>0
  | some p=>match l[n+1]? with
   | none=>qR p.2
   | some q=>between p q s
theorem ptsErr_ok {prev:Option Pnt}:∀ {l:List Pnt},ptsErr prev l=0→(∀ p∈l,-1000≤p.1∧p.1≤2000∧validQ p.2)∧(∀ q,prev=some q→∀ p,l[0]?=some p→q.1 < p.1)∧∀ k (h:k+1 < l.length),l[k].1 < l[k+1].1
 | [],_=>⟨by simp,by simp,by simp⟩
 | p::r,h=>by
  rw [ptsErr.eq_def] at h
  dsimp only at h
  split at h
  ·cases h
  split at h
  ·cases h
  rename_i c1 c2
  have c3:validQ p.2:=Classical.byContradiction fun e=>c2 (.inl e)
  cases prev with
  | none =>
   obtain ⟨i1,i2,i3⟩:=ptsErr_ok (l:=r) h
   refine ⟨fun x hx=>?_,by simp,fun k hk=>?_⟩
   ·rcases List.mem_cons.1 hx with rfl|hx
    ·exact ⟨by omega,by omega,c3⟩
    ·exact i1 x hx
   ·cases k with
    | zero=>exact i2 p rfl _ (List.getElem?_eq_getElem (by simpa using hk))
    | succ j=>exact i3 j (by simpa using hk)
  | some q =>
   dsimp only at h
   split at h
   ·cases h
   rename_i c4
   obtain ⟨i1,i2,i3⟩:=ptsErr_ok (l:=r) h
   refine ⟨fun x hx=>?_,fun x hx y hy=>?_,fun k hk=>?_⟩
   ·rcases List.mem_cons.1 hx with rfl|hx
    ·exact ⟨by omega,by omega,c3⟩
    ·exact i1 x hx
   ·cases hx;cases hy;omega
   ·cases k with
    | zero=>exact i2 p rfl _ (List.getElem?_eq_getElem (by simpa using hk))
    | succ j=>exact i3 j (by simpa using hk)
structure RightC (l:List Pnt):Prop where
 len:1≤l.length∧l.length≤16
 mem:∀ k (h:k < l.length),-1000≤l[k].1∧l[k].1≤2000∧validQ l[k].2
 lt:∀ k (h:k+1 < l.length),l[k].1 < l[k+1].1
theorem RightC.le {l:List Pnt} (h:RightC l):∀ d i (hj:i+d < l.length),l[i].1≤l[i+d].1
 | 0,i,hj=>Int.le_refl _
 | d+1,i,hj=>by
  have h1:=h.le d i (by omega)
  have h2:=h.lt (i+d) hj
  have h3:l[i+(d+1)].1=l[i+d+1].1:=rfl
  omega
def curveFlow (l:List Pnt) (s:Int):Rat:=if curveErr l=0 then curveAt l s else 0
end Go.Proofs.YtcdgibkbbcekhaaGreatDoor
/-
 Contracts of spans: right,Check,rate,Rate,of the program and of the specification.
-/
namespace Go.Proofs.YtcdgibkbbcekhaaGreatDoor
open Go.RowKit Go.Sl Go.Num
structure Spn where
 from_:Int
 to_:Int
 wt:Q3
 dat:Int
 pts:List Pnt
 adr:Option Addr
 cap:Nat
def spV (s:Spn):List Value:=[.int .i64 s.from_,.int .i64 s.to_,.bool s.wt.neg,.string (bs s.wt.num),.string (bs s.wt.den),.int .i64 s.dat,.slice s.adr s.pts.length s.cap]
def fewS (s:Spn):Prop:=fewPts s.pts∧fewQ 80 s.wt
def PtsAt (w:World) (s:Spn):Prop:=SlAt w s.adr 4 (s.pts.map ptV)
def SpansAt (w:World) (a:Option Addr) (l:List Spn):Prop:=SlAt w a 7 (l.map spV)∧∀ s∈l,PtsAt w s
theorem SpansAt.below {w w':World}{a:Option Addr}{l:List Spn} (h:SpansAt w a l) (hb:Below w.heap.size w w'):SpansAt w' a l:=⟨h.1.below hb,fun s hs=>(h.2 s hs).below hb⟩
def RightS (s:Spn):Prop:=(0≤s.from_∧s.from_ < s.to_∧s.to_≤1402560∧-1000≤s.dat∧s.dat≤1000)∧validQ s.wt∧curveErr s.pts=0
instance (s:Spn):Decidable (RightS s):=by unfold RightS;exact inferInstance
def spErr (last:Int):List Spn→Int
 | []=>0
 | s::r=>if (!decide (RightS s) || decide (s.from_ < last))=true then 1 else spErr s.to_ r
def spansErr (l:List Spn):Int:=if 400 < l.length then 2 else spErr 0 l
end Go.Proofs.YtcdgibkbbcekhaaGreatDoor
