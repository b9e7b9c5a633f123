/-
  More operations: a slice of a slice; append; slices of the call's own.
-/
import Derived.Test.YtcdgibkbbcekhaaGreatDoorRH11
import Derived.Maps.AppendAt
import Derived.OwnWalk
import Derived.Laws.MakeOwn
import Derived.Great.BuildSlice
import Derived.ProofKit
import Derived.OpenShut
import Derived.ShutString
import Derived.ChangeOld
import Derived.Below
import Derived.Carry
import Derived.Test.YtcdgibkbbcekhaaGreatDoorProg
import Derived.Test.YtcdgibkbbcekhaaGreatDoorRows
set_option linter.unusedVariables false
set_option linter.unusedSimpArgs false
set_option linter.unusedSectionVars false
namespace Go.Sl
open Go.RowKit
variable {C:Ctx}{st:List (Nat×Value)}{M:List Row}{k:List Item}{q q':Md}{all rest:List Oper}{d:Nat}{ty:TypeId}{pos:String}{after:Array Edge}{gd:Option (Nat×Bool)}
theorem subA_at {w:World}{a:Option Addr}{sz c lo hi:Nat}{A:Type}{f:A→List Value}{l:List A} (h:SlAt w a sz (l.map f)) (h1:lo≤hi) (h2:hi≤l.length) (h3:l.length≤c) :
  SlAt w (subA a c lo sz) sz (((l.drop lo).take (hi-lo)).map f):=by
 intro h0
 simp only [List.length_map,List.length_take,List.length_drop] at h0
 obtain ⟨b,off,rfl,hr⟩:=h (by simp;omega)
 refine ⟨b,off+lo*sz,?_,fun i cs hi=>?_⟩
 ·rw [subA,if_neg (by omega),Option.map_some,addr_add,addO_eq]
 ·have:=List.getElem?_eq_some_iff.1 hi
  obtain ⟨h4,h5⟩:=this
  simp only [List.length_map,List.length_take,List.length_drop] at h4
  have:=hr (lo+i) cs (by
   rw [← h5]
   simp only [List.getElem_map,List.getElem_take,List.getElem_drop]
   rw [List.getElem?_eq_getElem (by simp;omega)];simp)
  rwa [show off+(lo+i)*sz=off+lo*sz+i*sz by rw [Nat.add_mul];omega] at this
end Go.Sl
/-
 Arrays behind a pointer;comparisons whose sides are the same.
-/
namespace Go.Sl
open Go.RowKit
variable {C:Ctx}{st:List (Nat×Value)}{M:List Row}{k:List Item}{q q':Md}{all rest:List Oper}{d:Nat}{ty:TypeId}{pos:String}{after:Array Edge}{gd:Option (Nat×Bool)}
theorem OpV.indexArr {T len E sz:Nat} [hT:TArr C.P T len E sz] {x y:Operand}{b o:Nat}{ki:IntKind}{i:Nat}{e:Int} (hx:evS st x=some (.pointer (some ⟨b,o,none⟩))) (hy:evS st y=some (.int ki e)) (he:e=(i:Int)) (hi:i < len) :
  OpV C st M (.indexAddr T x y) ty (.pointer (some ⟨b,addO o (i*sz),none⟩)) :=
 OpV.of fun a w hf _ dst pos after guard=>by
  subst he
  have h0:(0:Int)≤(i:Int)∧(i:Int) < (len:Int):=by omega
  have hu:∀ w,(underlying T).run C.P w=.ok (.array len E) w:=fun w=>by simp [underlying,hT.h1]
  simp only [execOp,hf.eval hx,hf.eval hy,Instr.indexAt,Instr.sureAddr,asIntOf,Sem.run_bind,Sem.run_pure,Result.andThen_ok,hu]
  rw [if_pos h0]
  simp [hT.h2,addr_add]
theorem G.indexArr {T len E sz:Nat}{x y:Operand}{b o o':Nat}{ki:IntKind}{i:Nat}{e:Int} (hx:evS st x=some (.pointer (some ⟨b,o,none⟩))) (hy:evS st y=some (.int ki e)) (he:e=(i:Int)) [hT:TArr C.P T len E sz] (hi:i < len) (ho:addO o (i*sz)=o') (hg:wnB all st gd=true) (hd:Nat.blt d C.N=true) (hq:q.calm=some q') (h:G q' C all ((d,.pointer (some ⟨b,o',none⟩))::st) M rest k) :
  G q C all st M ({ dst:=some d,op:=.indexAddr T x y,type:=ty,pos,after,guard:=gd }::rest) k:=G.op (ho ▸ OpV.indexArr hx hy he hi) hg rfl hd hq h
end Go.Sl
/-
 The arguments of a law: what their reading tells of their cells.
-/
namespace Go.Sl
open Go.RowKit Go.ChangeShapes Go.WideShapes
variable {P:Program}{T E:TypeId}
section
variable {A1 A2 A3 A4 A5 A6:Type}{f1:A1→List Value}{f2:A2→List Value}{f3:A3→List Value}{f4:A4→List Value}{f5:A5→List Value}{f6:A6→List Value}{G1:World→A1→Prop}{G2:World→A2→Prop}{G3:World→A3→Prop}{G4:World→A4→Prop}{G5:World→A5→Prop}{G6:World→A6→Prop}{d1 d2 d3 d4 d5 d6:Field}{n:Nat}
end
theorem pieces_same (sz:Nat):∀ (n:Nat) (cs:List Value) (i:Nat),i < n→(pieces (List.replicate n sz) cs)[i]?=some ((cs.drop (i*sz)).take sz)
 | 0,_,_,h=>by omega
 | n+1,cs,0,_=>by simp [List.replicate_succ,pieces]
 | n+1,cs,i+1,h=>by
  simp only [List.replicate_succ,pieces,List.getElem?_cons_succ]
  rw [pieces_same sz n _ i (by omega),List.drop_drop,Nat.add_mul,Nat.one_mul,Nat.add_comm]
theorem Reads.array {A:Type}{f:A→List Value}{G:World→A→Prop}{n sz:Nat} (ht:P.underlying T=some (.array n E)) (hn:P.cellsOf T=n*sz) (hE:P.cellsOf E=sz) (h:Reads P E f G) :
  Reads P T (fun l:List A=>flat f l) (fun w l=>l.length=n∧∀ a∈l,G w a):=.mk fun enc w fuel cs x hx=>by
 obtain ⟨xs,m,-,-,hl,hlen,hf⟩:=DataW.trod_array ht hx
 rw [hE] at hf
 have hplen:(pieces (List.replicate n sz) cs).length=n:=by
  have:∀ (ns:List Nat) (cs:List Value),(pieces ns cs).length=ns.length:=by
   intro ns
   induction ns with
   | nil=>intro cs;rfl
   | cons a r ih=>intro cs;simp [pieces,ih]
  rw [this];simp
 obtain ⟨aas,h1,h2⟩:=choose_list (fun p a=>p=f a∧G w a) (pieces (List.replicate n sz) cs) fun p hp=>by
  obtain ⟨i,hi,rfl⟩:=List.mem_iff_getElem.1 hp
  have hi':i < n:=by omega
  have e:=pieces_same sz n cs i hi'
  rw [List.getElem?_eq_getElem hi] at e
  have e:=Option.some.inj e
  rw [e]
  have h3:=hf i hi'
  rw [List.getElem?_eq_getElem (by omega)] at h3
  exact h.go enc w _ _ _ h3
 refine ⟨aas,?_,by omega,fun a ha=>?_⟩
 ·have hj:=pieces_join (List.replicate n sz) cs (by rw [hl,hn];simp)
  refine hj.symm.trans ?_
  show _=(aas.map f).flatten
  congr 1
  refine List.ext_getElem (by simp;omega) fun i hi1 hi2=>?_
  simp only [List.getElem_map]
  exact (h2 i _ _ (List.getElem?_eq_getElem hi1) (List.getElem?_eq_getElem (by simpa using hi2))).1
 ·obtain ⟨i,hi,rfl⟩:=List.mem_iff_getElem.1 ha
  exact (h2 i _ _ (List.getElem?_eq_getElem (by omega)) (List.getElem?_eq_getElem hi)).2
theorem Reads.argAgg {A:Type}{f:A→List Value}{G:World→A→Prop} (h:Reads P T f G) {H:Type}{enc:TypeId×Value→H}{W:World}{v:Value}{d:DataW H}{ps:List MemPlace} (hk:∃ cs,v=.agg cs) (hv:DataW.Trod enc P W 0 (fun _=>true) true T v d ps):∃ a,v=.agg (f a).toArray∧G W a:=by
 obtain ⟨cs,rfl⟩:=hk
 obtain ⟨a,h1,h2⟩:=h.arg hv
 refine ⟨a,?_,h2⟩
 have:cs.toList=f a:=h1
 rw [← this]
theorem okWide_array {n:Nat}{r:Reach}{base:Nat}{W:World}{v:Value} (ht:P.underlying T=some (.array n E)) (h:Value.okWide P W r base T v):∃ cs,v=.agg cs:=by
 unfold Value.okWide at h
 rw [ht] at h
 obtain ⟨cs,h1,_⟩:=h
 exact ⟨cs,h1⟩
end Go.Sl
/-
 The types and functions of this seat,as the small logic of memory takes them.
-/
namespace Go.Proofs
open Go.Sl
instance:TArr Tryz.prog 27 2 5 1:=⟨Tryz.underlying27,Tryz.sizeOf5⟩
instance:TAgg Tryz.prog 87 1001:=⟨Tryz.isAgg87,Tryz.sizeOf87⟩
instance:TArr Tryz.prog 87 1001 3 1:=⟨Tryz.underlying87,Tryz.sizeOf3⟩
instance:Fun Tryz.prog 42:=⟨Tryz.call42⟩
end Go.Proofs
/-
 Comparing digits;the canonical bytes;lengths;the division digit by digit.
-/
namespace Go.Num
theorem nB_inj {m n:Nat} (h:nB m=nB n):m=n:=by rw [← vB_nB m,h,vB_nB]
end Go.Num
/-
 Rational numbers as the program writes them (sign,numerator,denominator,as bytes) and as Lean knows them.
-/
namespace Go.Num
theorem sg_abs (s:Bool) (n:Nat):(sg s n).natAbs=n:=by cases s<;>simp [sg]
theorem nB_nil {n:Nat}:nB n=[] ↔ n=0:=⟨fun h=>nB_inj (h.trans nB_zero.symm),fun h=>by rw [h,nB_zero]⟩
theorem vB_pos {l:List UInt8} (h:l≠[]) (hc:nB (vB l)=l):vB l≠0:=fun e=>h (by rw [← hc,e,nB_zero])
theorem rQ_valid (q:Rat):validQ (rQ q):=by
 rw [rQ]
 split
 ·exact .inl rfl
 ·rename_i h
  refine .inr ⟨?_,?_,?_,?_,?_⟩
  ·exact fun e=>h (Int.natAbs_eq_zero.1 (nB_nil.1 e))
  ·exact fun e=>q.den_nz (nB_nil.1 e)
  ·dsimp only;rw [vB_nB]
  ·dsimp only;rw [vB_nB]
  ·dsimp only;rw [vB_nB,vB_nB];exact q.reduced
theorem sg_self (n:Int):sg (decide (n < 0)) n.natAbs=n:=by
 rw [sg]
 by_cases h:n < 0
 ·rw [decide_eq_true h,if_pos rfl];omega
 ·rw [decide_eq_false h,if_neg (by decide)];omega
theorem qR_rQ (q:Rat):qR (rQ q)=q:=by
 rw [qR,if_pos (rQ_valid q),rQ]
 split
 ·rename_i h
  rw [if_pos (show zero3.num=[] from rfl)]
  exact (Rat.num_eq_zero.1 h).symm
 ·rename_i h
  rw [if_neg (fun e=>h (Int.natAbs_eq_zero.1 (nB_nil.1 e))),ofF]
  dsimp only
  rw [vB_nB,vB_nB,sg_self,Rat.mkRat_self]
theorem ofF_num {s:Bool}{n d:Nat} (hd:d≠0):(ofF s n d).num=sg s (n / Nat.gcd n d)∧(ofF s n d).den=d / Nat.gcd n d:=by
 rw [ofF,Rat.num_mkRat,Rat.den_mkRat,if_neg hd,if_neg hd,sg_abs,Nat.gcd_comm d n]
 refine ⟨?_,rfl⟩
 cases s
 ·simp [sg]
 ·simp only [sg,if_true]
  have:((Nat.gcd n d:Nat):Int) ∣ (n:Int):=Int.natCast_dvd_natCast.2 (Nat.gcd_dvd_left n d)
  rw [Int.neg_ediv_of_dvd this]
  simp
theorem rQ_ofF {s:Bool}{n d:Nat} (hd:d≠0):rQ (ofF s n d)=if n=0 then zero3 else ⟨s,nB (n / Nat.gcd n d),nB (d / Nat.gcd n d)⟩:=by
 obtain ⟨h1,h2⟩:=ofF_num (s:=s) (n:=n) hd
 rw [rQ,h1,h2]
 by_cases hn:n=0
 ·subst hn
  rw [if_pos rfl,if_pos (by cases s<;>simp [sg])]
 ·have hg:0 < Nat.gcd n d:=Nat.gcd_pos_of_pos_right _ (by omega)
  have hq:n / Nat.gcd n d≠0:=by
   have:=Nat.div_pos (Nat.le_of_dvd (by omega) (Nat.gcd_dvd_left n d)) hg
   omega
  rw [if_neg hn]
  generalize n / Nat.gcd n d=u at *
  rw [if_neg,sg_abs]
  ·congr 1
   cases s
   ·simp [sg]
   ·simp [sg];omega
  ·cases s
   ·simp only [sg];simp;omega
   ·simp only [sg];simp;omega
theorem rQ_qR {a:Q3} (h:validQ a):rQ (qR a)=a:=by
 rw [qR,if_pos h]
 rcases h with rfl|⟨h1,h2,h3,h4,h5⟩
 ·rfl
 ·rw [if_neg h1,rQ_ofF (vB_pos h2 h4),if_neg (vB_pos h1 h3),h5,Nat.div_one,Nat.div_one,h3,h4]
theorem ofF_plus {s t:Bool}{n d m e:Nat} (hd:d≠0) (he:e≠0):ofF s n d+ofF t m e=mkRat (sg s (n*e)+sg t (m*d)) (d*e):=by
 rw [ofF,ofF,Rat.mkRat_add_mkRat _ _ hd he]
 congr 1
 cases s<;>cases t<;>simp [sg]<;>simp [Int.neg_mul]
theorem ofF_same {s:Bool}{n d m e:Nat} (hd:d≠0) (he:e≠0):ofF s n d+ofF s m e=ofF s (n*e+m*d) (d*e):=by
 rw [ofF_plus hd he,ofF]
 congr 1
 cases s<;>simp [sg];omega
theorem ofF_ge {s:Bool}{n d m e:Nat} (hd:d≠0) (he:e≠0) (h:m*d≤n*e):ofF s n d+ofF (!s) m e=ofF s (n*e-m*d) (d*e):=by
 rw [ofF_plus hd he,ofF]
 congr 1
 cases s<;>simp only [sg]<;>simp<;>omega
theorem ofF_lt {s:Bool}{n d m e:Nat} (hd:d≠0) (he:e≠0) (h:n*e≤m*d):ofF s n d+ofF (!s) m e=ofF (!s) (m*d-n*e) (d*e):=by
 rw [ofF_plus hd he,ofF]
 congr 1
 cases s<;>simp only [sg]<;>simp<;>omega
theorem ofF_times (s t:Bool) (n d m e:Nat):ofF s n d*ofF t m e=ofF (s != t) (n*m) (d*e):=by
 rw [ofF,ofF,Rat.mkRat_mul_mkRat,ofF]
 congr 1
 cases s<;>cases t<;>simp [sg,Int.neg_mul,Int.mul_neg]
theorem ofF_zero (s:Bool) (d:Nat):ofF s 0 d=0:=by
 rw [ofF]
 cases s<;>simp [sg]
end Go.Num
/-
 What the program and the specification do with fractions,as rational numbers.
-/
namespace Go.Num
def fplus (s:Bool) (n d:Nat) (t:Bool) (m e:Nat):Bool×Nat×Nat :=
 if s=t then (s,n*e+m*d,d*e) else if n*e < m*d then (t,m*d-n*e,d*e) else (s,n*e-m*d,d*e)
theorem fplus_eq {s t:Bool}{n d m e:Nat} (hd:d≠0) (he:e≠0):ofF (fplus s n d t m e).1 (fplus s n d t m e).2.1 (fplus s n d t m e).2.2=ofF s n d+ofF t m e∧(fplus s n d t m e).2.2≠0:=by
 have hde:d*e≠0:=Nat.mul_ne_zero hd he
 rw [fplus]
 by_cases h:s=t
 ·subst h
  rw [if_pos rfl]
  exact ⟨(ofF_same hd he).symm,hde⟩
 ·rw [if_neg h]
  have ht:t=!s:=by cases s<;>cases t<;>simp_all
  subst ht
  by_cases h2:n*e < m*d
  ·rw [if_pos h2]
   exact ⟨(ofF_lt hd he (by omega)).symm,hde⟩
  ·rw [if_neg h2]
   exact ⟨(ofF_ge hd he (by omega)).symm,hde⟩
def frac (a:Q3):Bool×Nat×Nat:=if validQ a∧a.num≠[] then (a.neg,vB a.num,vB a.den) else (false,0,1)
theorem frac_eq (a:Q3):ofF (frac a).1 (frac a).2.1 (frac a).2.2=qR a∧(frac a).2.2≠0:=by
 rw [frac]
 by_cases h:validQ a∧a.num≠[]
 ·rw [if_pos h,qR,if_pos h.1,if_neg h.2]
  refine ⟨rfl,?_⟩
  rcases h.1 with e|⟨h1,h2,h3,h4,h5⟩
  ·exact absurd (by rw [e];rfl) h.2
  ·exact vB_pos h2 h4
 ·rw [if_neg h]
  refine ⟨?_,by simp⟩
  rw [ofF_zero,qR]
  split
  ·rename_i h1
   rw [if_pos (Decidable.not_not.1 fun h2=>h ⟨h1,h2⟩)]
  ·rfl
end Go.Num
/-
 Contracts of the specification of natural numbers: number,Cmp,Add,Sub,Mul.
-/
namespace Go.Proofs.YtcdgibkbbcekhaaGreatDoor
open Go.RowKit Go.Sl Go.Num
theorem nB_vB_len (a:List UInt8):(nB (vB a)).length≤a.length:=nB_bound (vB_lt a)
end Go.Proofs.YtcdgibkbbcekhaaGreatDoor
/-
 Contracts of the rational numbers: Valid,of,lowest,plus,less,times,over.
-/
namespace Go.Proofs.YtcdgibkbbcekhaaGreatDoor
open Go.RowKit Go.Sl Go.Num
theorem nB_one:nB 1=[1]:=by
 have h:=nB_vB_of (x:=1) (r:=[]) (by decide)
 have e:vB [1]=1:=rfl
 rwa [e] at h
def fLe (f:Bool×Nat×Nat) (k:Nat):Prop:=(nB f.2.1).length≤k∧(nB f.2.2).length≤k
end Go.Proofs.YtcdgibkbbcekhaaGreatDoor
/-
 Contracts of the rational numbers: plus,less,times,over,do,Add,Sub,Mul,Cmp,Make,Int.
-/
namespace Go.Proofs.YtcdgibkbbcekhaaGreatDoor
open Go.RowKit Go.Sl Go.Num
theorem nB_add {m n k:Nat} (h1:(nB m).length≤k) (h2:(nB n).length≤k):(nB (m+n)).length≤k+1:=by
 refine nB_bound ?_
 have a1:=nB_lt_pow h1
 have a2:=nB_lt_pow h2
 rw [Nat.pow_succ]
 omega
def ftimes (f g:Bool×Nat×Nat):Bool×Nat×Nat:=(f.1 != g.1,f.2.1*g.2.1,f.2.2*g.2.2)
theorem frac_le {a:Q3}{k:Nat} (h1:a.num.length≤k) (h2:a.den.length≤k) (hk:1≤k):fLe (frac a) k:=by
 rw [frac]
 split
 ·exact ⟨Nat.le_trans (nB_vB_len _) h1,Nat.le_trans (nB_vB_len _) h2⟩
 ·refine ⟨?_,?_⟩
  ·show (nB 0).length≤k
   rw [nB_zero];exact Nat.zero_le _
  ·show (nB 1).length≤k
   rw [nB_one];exact hk
theorem ftimes_le {f g:Bool×Nat×Nat}{k l:Nat} (hf:fLe f k) (hg:fLe g l):fLe (ftimes f g) (k+l):=⟨nB_mul hf.1 hg.1,nB_mul hf.2 hg.2⟩
end Go.Proofs.YtcdgibkbbcekhaaGreatDoor
/-
 Contracts of the rational numbers: Cmp,inside,integer,Make,Int.
-/
namespace Go.Proofs.YtcdgibkbbcekhaaGreatDoor
open Go.RowKit Go.Sl Go.Num
theorem ofF_int (n:Int):ofF (decide (n < 0)) n.natAbs 1=(n:Rat):=by
 rw [ofF,sg_self,← Rat.mkRat_one]
theorem ofF_self {n:Nat} (h:n≠0):ofF false n n=1:=by
 have:ofF false n n=ofF false 1 1:=by
  rw [ofF,ofF]
  exact (Rat.mkRat_eq_iff h (by decide)).2 (by simp [Num.sg,Int.mul_comm])
 rw [this];rfl
theorem ofF_div (m n:Int) (h:n≠0):ofF (ftimes (decide (m < 0),m.natAbs,1) (decide (n < 0),1,n.natAbs)).1 (ftimes (decide (m < 0),m.natAbs,1) (decide (n < 0),1,n.natAbs)).2.1 (ftimes (decide (m < 0),m.natAbs,1) (decide (n < 0),1,n.natAbs)).2.2=(m:Rat) / (n:Rat):=by
 have e1:ofF (ftimes (decide (m < 0),m.natAbs,1) (decide (n < 0),1,n.natAbs)).1 (ftimes (decide (m < 0),m.natAbs,1) (decide (n < 0),1,n.natAbs)).2.1 (ftimes (decide (m < 0),m.natAbs,1) (decide (n < 0),1,n.natAbs)).2.2=ofF (decide (m < 0)) m.natAbs 1*ofF (decide (n < 0)) 1 n.natAbs:=by rw [ofF_times];rfl
 have e2:ofF (decide (n < 0)) 1 n.natAbs*ofF (decide (n < 0)) n.natAbs 1=1:=by
  rw [ofF_times,bne_self_eq_false,Nat.one_mul,Nat.mul_one]
  exact ofF_self (by omega)
 rw [e1,ofF_int]
 rw [ofF_int] at e2
 have hn:(n:Rat)≠0:=by exact_mod_cast h
 grind
theorem int_le {n:Int} (h1:-999999999999999≤n) (h2:n≤999999999999999):(nB n.natAbs).length≤8:=nB_bound (by omega)
theorem nB1_le:(nB 1).length≤8:=by rw [nB_one];decide
end Go.Proofs.YtcdgibkbbcekhaaGreatDoor
/-
 Contracts of the specification of rational numbers: Valid,clean,lowest,parts,Neg,Add,Sub,Mul,Cmp.
-/
namespace Go.Proofs.YtcdgibkbbcekhaaGreatDoor
open Go.RowKit Go.Sl Go.Num
theorem clean_q (a:Q3):rQ (qR a)=if validQ a then a else zero3:=by
 by_cases h:validQ a
 ·rw [if_pos h,rQ_qR h]
 ·rw [if_neg h,qR,if_neg h];rfl
end Go.Proofs.YtcdgibkbbcekhaaGreatDoor
/-
 Contracts of the specification of rational numbers: Neg,Add,Sub,Mul,Cmp,Make,Int.
-/
namespace Go.Proofs.YtcdgibkbbcekhaaGreatDoor
open Go.RowKit Go.Sl Go.Num
theorem rQ_neg (q:Rat):rQ (-q)=if (rQ q).num=[] then rQ q else ⟨!(rQ q).neg,(rQ q).num,(rQ q).den⟩:=by
 by_cases h:q.num=0
 ·have hq:q=0:=Rat.num_eq_zero.1 h
  subst hq
  rfl
 ·have h1:(rQ q).num≠[]:=by
   rw [rQ,if_neg h]
   exact fun e=>h (Int.natAbs_eq_zero.1 (nB_nil.1 e))
  rw [if_neg h1,rQ,rQ,if_neg h,if_neg (by rw [Rat.neg_num];omega)]
  simp only [Rat.neg_num,Rat.neg_den,Int.natAbs_neg]
  congr 1
  by_cases h2:q.num < 0
  ·rw [decide_eq_true h2,decide_eq_false (by omega)];rfl
  ·rw [decide_eq_false h2,decide_eq_true (by omega)];rfl
end Go.Proofs.YtcdgibkbbcekhaaGreatDoor
/-
 Sizes of numbers,lists of integers,slices in memory: what all chapters share.
-/
namespace Go.Proofs.YtcdgibkbbcekhaaGreatDoor
open Go.RowKit Go.Sl Go.Num
theorem valid_few {a:Q3}{k:Nat} (h:fewQ k a):(rQ (qR a)).num.length≤k∧(rQ (qR a)).den.length≤k:=by
 rw [clean_q]
 split
 ·exact h
 ·exact ⟨Nat.zero_le _,Nat.zero_le _⟩
theorem fewQ_ofF {s:Bool}{n d k:Nat} (hd:d≠0) (h1:(nB n).length≤k) (h2:(nB d).length≤k):fewQ k (rQ (ofF s n d)):=by
 rw [rQ_ofF hd]
 split
 ·exact ⟨Nat.zero_le _,Nat.zero_le _⟩
 ·exact ⟨Nat.le_trans (nB_len_le (Nat.div_le_self _ _)) h1,Nat.le_trans (nB_len_le (Nat.div_le_self _ _)) h2⟩
theorem fplus_le2 {f g:Bool×Nat×Nat}{i j:Nat} (hf:fLe f i) (hg:fLe g j):fLe (fplus f.1 f.2.1 f.2.2 g.1 g.2.1 g.2.2) (i+j+1):=by
 obtain ⟨s,n,d⟩:=f
 obtain ⟨t,m,e⟩:=g
 obtain ⟨h1,h2⟩:=hf
 obtain ⟨h3,h4⟩:=hg
 dsimp only at h1 h2 h3 h4
 have l1:=nB_mul h1 h4
 have l2:=nB_mul h3 h2
 rw [Nat.add_comm j i] at l2
 have l3:=nB_mul h2 h4
 have l4:=nB_add l1 l2
 rw [fplus]
 split
 ·exact ⟨l4,by dsimp only;omega⟩
 ·split
  ·exact ⟨Nat.le_trans (nB_len_le (Nat.sub_le _ _)) (Nat.le_trans l2 (by omega)),by dsimp only;omega⟩
  ·exact ⟨Nat.le_trans (nB_len_le (Nat.sub_le _ _)) (Nat.le_trans l1 (by omega)),by dsimp only;omega⟩
theorem fewQ_add {x y:Rat}{i j:Nat} (hx:fewQ i (rQ x)) (hy:fewQ j (rQ y)) (hi:1≤i) (hj:1≤j):fewQ (i+j+1) (rQ (x+y)):=by
 obtain ⟨e1,d1⟩:=frac_eq (rQ x)
 obtain ⟨e2,d2⟩:=frac_eq (rQ y)
 obtain ⟨e3,d3⟩:=fplus_eq (s:=(frac (rQ x)).1) (t:=(frac (rQ y)).1) (n:=(frac (rQ x)).2.1) (m:=(frac (rQ y)).2.1) d1 d2
 rw [e1,e2,qR_rQ,qR_rQ] at e3
 rw [← e3]
 have:=fplus_le2 (frac_le hx.1 hx.2 hi) (frac_le hy.1 hy.2 hj)
 exact fewQ_ofF d3 this.1 this.2
theorem fewQ_neg {x:Rat}{i:Nat} (hx:fewQ i (rQ x)):fewQ i (rQ (-x)):=by
 rw [rQ_neg];split<;>exact hx
theorem fewQ_sub {x y:Rat}{i j:Nat} (hx:fewQ i (rQ x)) (hy:fewQ j (rQ y)) (hi:1≤i) (hj:1≤j):fewQ (i+j+1) (rQ (x-y)):=by
 rw [Rat.sub_eq_add_neg];exact fewQ_add hx (fewQ_neg hy) hi hj
theorem fewQ_mul {x y:Rat}{i j:Nat} (hx:fewQ i (rQ x)) (hy:fewQ j (rQ y)) (hi:1≤i) (hj:1≤j):fewQ (i+j) (rQ (x*y)):=by
 obtain ⟨e1,d1⟩:=frac_eq (rQ x)
 obtain ⟨e2,d2⟩:=frac_eq (rQ y)
 rw [qR_rQ] at e1 e2
 have e3:ofF (ftimes (frac (rQ x)) (frac (rQ y))).1 (ftimes (frac (rQ x)) (frac (rQ y))).2.1 (ftimes (frac (rQ x)) (frac (rQ y))).2.2=x*y:=by
  rw [← e1,← e2,ofF_times,e1,e2];rfl
 rw [← e3]
 have:=ftimes_le (frac_le hx.1 hx.2 hi) (frac_le hy.1 hy.2 hj)
 exact fewQ_ofF (Nat.mul_ne_zero d1 d2) this.1 this.2
theorem fewQ_div {m n:Int} (h1:-999999999999999≤m) (h2:m≤999999999999999) (h3:-999999999999999≤n) (h4:n≤999999999999999) (h0:n≠0):fewQ 16 (rQ ((m:Rat) / (n:Rat))):=by
 rw [← ofF_div m n h0]
 have l3:=ftimes_le (f:=(decide (m < 0),m.natAbs,1)) (g:=(decide (n < 0),1,n.natAbs)) ⟨int_le h1 h2,nB1_le⟩ ⟨nB1_le,int_le h3 h4⟩
 exact fewQ_ofF (Nat.mul_ne_zero (show (1:Nat)≠0 by decide) (by dsimp only;omega)) l3.1 l3.2
theorem fewQ_zero {k:Nat}:fewQ k (rQ 0):=⟨Nat.zero_le _,Nat.zero_le _⟩
theorem fewQ_valid {a:Q3}{k:Nat} (h:fewQ k a):fewQ k (rQ (qR a)):=valid_few h
theorem is_rep:∀ n:Nat,flat isV (List.replicate n 0)=List.replicate n (.int .i64 0)
 | 0=>rfl
 | n+1=>by rw [List.replicate_succ,List.replicate_succ,flat_cons,is_rep n];rfl
end Go.Proofs.YtcdgibkbbcekhaaGreatDoor
/-
 How arguments read: what all chapters share.
-/
namespace Go.Proofs.YtcdgibkbbcekhaaGreatDoor
open Go.RowKit Go.Sl Go.Num Go.ChangeShapes Go.WideShapes
theorem rU8:Reads Tryz.prog 5 (fun n:Nat=>[.int .u8 n]) (fun _ n=>n≤255):=(Reads.int Tryz.underlying5).turn fun _ n h=>by
 have h2:0≤n∧n≤255:=by rw [Lit.wf,Bool.and_eq_true,decide_eq_true_eq,decide_eq_true_eq] at h;exact h
 exact ⟨n.toNat,by rw [Int.toNat_of_nonneg h2.1],by omega⟩
end Go.Proofs.YtcdgibkbbcekhaaGreatDoor
/-
 The flow of a curve: plain laws,and the contracts of the program and of the specification.
-/
namespace Go.Proofs.YtcdgibkbbcekhaaGreatDoor
open Go.RowKit Go.Sl Go.Num
theorem rightC {l:List Pnt} (h:curveErr l=0):RightC l:=by
 rw [curveErr] at h
 split at h
 ·cases h
 rename_i c1
 obtain ⟨h1,_,h3⟩:=ptsErr_ok h
 exact ⟨by omega,fun k hk=>h1 _ (List.getElem_mem hk),h3⟩
theorem nx_le (l:List Pnt) (s:Int):nx l s≤l.length:=List.findIdx_le_length
theorem nx_lt {l:List Pnt}{s:Int}{i:Nat} (h:i < nx l s):(l[i]'(Nat.lt_of_lt_of_le h (nx_le l s))).1≤s:=by
 have:=List.not_of_lt_findIdx h
 simpa using this
theorem nx_at {l:List Pnt}{s:Int} (h:nx l s < l.length):s < l[nx l s].1:=by
 have:decide (s < l[nx l s].1)=true:=List.findIdx_getElem (w:=h)
 exact of_decide_eq_true this
theorem nx_ge {l:List Pnt} (hr:RightC l) {s:Int}{i:Nat} (h:nx l s≤i) (hi:i < l.length):s < l[i].1:=by
 have h1:=nx_at (l:=l) (s:=s) (by omega)
 obtain ⟨d,rfl⟩:=Nat.exists_eq_add_of_le h
 have:=hr.le d (nx l s) hi
 omega
theorem curveAt_zero {l:List Pnt}{s:Int} (h:nx l s=0):curveAt l s=0:=by rw [curveAt,h]
theorem curveAt_last {l:List Pnt}{s:Int}{n:Nat} (h:nx l s=n+1) (hn:n+1=l.length):curveAt l s=qR (l[n]'(by omega)).2:=by
 rw [curveAt,h]
 simp only [List.getElem?_eq_getElem (show n < l.length by omega),List.getElem?_eq_none (show l.length≤n+1 by omega)]
theorem curveAt_mid {l:List Pnt}{s:Int}{n:Nat} (h:nx l s=n+1) (hn:n+1 < l.length):curveAt l s=between l[n] l[n+1] s:=by
 rw [curveAt,h]
 simp only [List.getElem?_eq_getElem (show n < l.length by omega),List.getElem?_eq_getElem hn]
end Go.Proofs.YtcdgibkbbcekhaaGreatDoor
/-
 Contracts of rates.
-/
namespace Go.Proofs.YtcdgibkbbcekhaaGreatDoor
open Go.RowKit Go.Sl Go.Num
theorem fewQ_curve {l:List Pnt}{s:Int} (hr:RightC l) (hf:fewPts l) (hs1:-100000≤s) (hs2:s≤100000):fewQ 60 (rQ (curveAt l s)):=by
 have hle:=nx_le l s
 rcases hn:nx l s with _|n
 ·rw [curveAt_zero hn];exact fewQ_zero
 have v1:=hf.2 _ (List.getElem_mem (show n < l.length by omega))
 by_cases hlast:n+1=l.length
 ·rw [curveAt_last hn hlast]
  exact fewQ_le (fewQ_valid v1) (by decide)
 have v2:=hf.2 _ (List.getElem_mem (show n+1 < l.length by omega))
 have m1:=hr.mem n (by omega)
 have m2:=hr.mem (n+1) (by omega)
 have q1:=nx_lt (l:=l) (s:=s) (i:=n) (by omega)
 have q2:s < (l[n+1]'(by omega)).1:=nx_ge hr (by omega) (by omega)
 rw [curveAt_mid hn (by omega),between]
 exact fewQ_le (fewQ_add (fewQ_valid v1) (fewQ_mul (fewQ_div (by omega) (by omega) (by omega) (by omega) (by omega)) (fewQ_sub (fewQ_valid v2) (fewQ_valid v1) (by decide) (by decide)) (by decide) (by decide)) (by decide) (by decide)) (by decide)
theorem fewQ_flow {l:List Pnt}{s:Int} (hf:fewPts l) (hs1:-100000≤s) (hs2:s≤100000):fewQ 60 (rQ (curveFlow l s)):=by
 rw [curveFlow]
 split
 ·exact fewQ_curve (rightC (by assumption)) hf hs1 hs2
 ·exact fewQ_zero
theorem fewQ_rate {s:Spn}{t:Int} (hf:fewS s) (hR:RightS s) (h1:0≤t) (h2:t≤1000):fewQ 140 (rQ (rateOf s t)):=by
 obtain ⟨hR,_,_⟩:=hR
 exact fewQ_mul (fewQ_valid hf.2) (fewQ_flow hf.1 (by omega) (by omega)) (by decide) (by decide)
end Go.Proofs.YtcdgibkbbcekhaaGreatDoor
/-
 Contract of the law's table: the duration table of stages.
-/
namespace Go.Proofs
open Go.Sl
instance:TZero Tryz.prog 87 (List.replicate 1001 (.int .i64 0)):=⟨fun w=>⟨_,Tryz.zeroValue87 w,by kernel_rfl⟩⟩
end Go.Proofs
namespace Go.Proofs.YtcdgibkbbcekhaaGreatDoor
open Go.RowKit Go.Sl Go.Num
end Go.Proofs.YtcdgibkbbcekhaaGreatDoor
/-
 Plain laws: duration tables of the parts of a history.
-/
namespace Go.Proofs.YtcdgibkbbcekhaaGreatDoor
open Go.RowKit Go.Sl Go.Num
section
variable {f:Int}{hs:List Int}{L:List Rn}{l:List Spn} (h:PtsOk f hs L l) (hf:0≤f) (hn:hs.length≤1000) (hb:f+hs.length≤1402560) (hL:L.length≤100)
include h hf hn hb hL
end
theorem fewQ_seg {s:Spn} (hf:fewS s) (hR:RightS s):∀ (hs:List Int),(∀ x∈hs,0≤x∧x≤1000)→fewQ (1+141*hs.length) (rQ (segSum (rateOf s) hs))
 | [],_=>fewQ_zero
 | x::hs,h=>by
  have h1:=fewQ_seg hf hR hs fun y hy=>h y (List.mem_cons_of_mem _ hy)
  have h2:=h x (List.mem_cons_self ..)
  rw [segSum]
  exact fewQ_le (fewQ_add (fewQ_rate hf hR h2.1 h2.2) h1 (by decide) (by omega)) (by rw [List.length_cons];omega)
theorem PtL.few:∀ {L:List Rn}{l:List Spn}{f:Int}{hs:List Int},PtL f hs L l→(∀ y∈hs,0≤y∧y≤1000)→∀ k (h1:k < L.length) (h2:k < l.length),fewQ (1+141*hs.length) (rQ (wsum (rateOf l[k]) L[k].tab))∧L[k].tab.length≤hs.length
 | r::L,s::l,f,hs,⟨n,k1,k2,⟨a1,a2,a3,a4,a5⟩,⟨b1,b2,b3,b4⟩,k5⟩,h,k,h1,h2=>by
  cases k with
  | zero =>
   have hseg:∀ y∈hs.take n,0≤y∧y≤1000:=fun y hy=>h y (List.mem_of_mem_take hy)
   have:=fewQ_seg b4 b3 (hs.take n) hseg
   show fewQ _ (rQ (wsum (rateOf s) r.tab))∧r.tab.length≤_
   rw [a3]
   refine ⟨by rw [wsum_tabT _ hseg];exact fewQ_le this (by rw [List.length_take];omega),?_⟩
   have hq:∀ t:List (Int×Int),(∀ p∈t,1≤p.2)→(t.length:Int)≤sumT t:=fun t=>by
    induction t with
    | nil=>intro _;exact Int.le_refl _
    | cons p t ih =>
     intro hp
     have:=ih fun x hx=>hp x (List.mem_cons_of_mem _ hx)
     have:=hp p (List.mem_cons_self ..)
     rw [List.length_cons,sumT];omega
   have:=hq (tabT (hs.take n)) fun p hp=>(tabT_mem hp).2.1
   rw [sumT_tabT hseg,List.length_take] at this
   omega
  | succ k =>
   have:=PtL.few k5 (fun y hy=>h y (List.mem_of_mem_drop hy)) k (by simpa using h1) (by simpa using h2)
   rw [List.length_drop] at this
   exact ⟨fewQ_le this.1 (by omega),Nat.le_trans this.2 (Nat.sub_le _ _)⟩
 | [],_::_,_,_,h,_,_,_,_=>h.elim
 | _::_,[],_,_,h,_,_,_,_=>h.elim
end Go.Proofs.YtcdgibkbbcekhaaGreatDoor
/-
 Plain: summaries know the first and the last tick and the totals alone.
-/
namespace Go.Proofs.YtcdgibkbbcekhaaGreatDoor
open Go.RowKit Go.Sl Go.Num
variable {f t a b m c d:Int}{D E:Int→Int}{l k:List Rn}
theorem Ds.det {f:Int}{hs:List Int}{l l':List Rn} (h:Ds f hs l) (h':Ds f hs l') (hn:hs.length≤2000):sumE l=sumE l':=by
 rcases h with ⟨rfl,rfl⟩|⟨a,b,h1,h2,h⟩
 ·rcases h' with ⟨_,rfl⟩|⟨c,d,h3,_,_⟩
  ·rfl
  ·cases h3
 ·rcases h' with ⟨rfl,rfl⟩|⟨c,d,h3,h4,h'⟩
  ·cases h1
  ·obtain rfl:=Option.some.inj (h1.symm.trans h3)
   obtain rfl:=Option.some.inj (h2.symm.trans h4)
   rw [(h.sum (by omega)).1,(h'.sum (by omega)).1]
end Go.Proofs.YtcdgibkbbcekhaaGreatDoor
/-
 Small lists;equal lists are the same.
-/
namespace Go.Proofs.YtcdgibkbbcekhaaGreatDoor
open Go.RowKit Go.Sl Go.Num
theorem same_true (a b:Option Addr) (l m:List Rn) (n c k d:Nat) (w:World) (hA:RunsAt w a l) (hB:RunsAt w b m) (he:l.map rbare=m.map rbare) (hn:l.length=n) (hk:m.length=k) (hs:n≤1000000) (ht:∀ r∈l,r.tab.length≤1000000) :
  Calls Tryz.prog 29 #[.slice a n c,.slice b k d] w fun e w'=>e=.returned (.bool true)∧Below w.heap.size w w':=by
 subst hn hk
 have h:=same16_holds a b l m c d w hA hB ⟨hs,by rw [← length_bare he];exact hs⟩ ht (tabs_bare he.symm ht)
 rw [decide_eq_true he] at h
 exact h
end Go.Proofs.YtcdgibkbbcekhaaGreatDoor
/-
 How a lone byte and two bytes read.
-/
namespace Go.Proofs.YtcdgibkbbcekhaaGreatDoor
open Go.RowKit Go.Sl Go.Num Go.ChangeShapes Go.WideShapes
theorem rB16:Reads Tryz.prog 27 (fun a:Nat×Nat=>[.int .u8 a.1,.int .u8 a.2]) (fun _ a=>a.1≤255∧a.2≤255):=(Reads.array (sz:=1) Tryz.underlying27 (by kernel_rfl) (by kernel_rfl) rU8).turn fun _ l h=>by
 obtain ⟨a,b,rfl⟩:∃ a b,l=[a,b]:=by
  match l,h.1 with
  | [a,b],_=>exact ⟨a,b,rfl⟩
 exact ⟨(a,b),rfl,h.2 a (.head _),h.2 b (.tail _ (.head _))⟩
end Go.Proofs.YtcdgibkbbcekhaaGreatDoor
/-
 Plain: summaries of the parts of a history.
-/
namespace Go.Proofs.YtcdgibkbbcekhaaGreatDoor
open Go.RowKit Go.Sl Go.Num
theorem Sd.same {f:Int}{hs:List Int}{S T:List Rn} (h:Sd f hs S) (h':Sd f hs T) (hn:hs.length≤2000):S.map rbare=T.map rbare:=by
 obtain ⟨X,h1,h2⟩:=h
 obtain ⟨Y,h3,h4⟩:=h'
 rw [h2,h4,h1.det h3 hn]
theorem Ds.bd {f:Int}{hs:List Int}{l:List Rn} (h:Ds f hs l):l.length≤hs.length∧∀ r∈l,r.tab.length≤hs.length:=by
 have h1:=h.cn.le h.ok
 refine ⟨by omega,fun r hr=>?_⟩
 have h2:=cn_in h.cn h.ok r hr
 have h3:=(h.ok r hr).tlen
 omega
theorem right_sub {f:Int}{hs:List Int} (h:rightH f hs=true) {i j:Nat} (hij:i≤j) (hj:j≤hs.length):rightH (f+i) ((hs.take j).drop i)=true:=by
 rw [rightH,Bool.and_eq_true,decide_eq_true_eq,Bool.not_eq_true',List.any_eq_false] at h ⊢
 rw [List.length_drop,List.length_take]
 refine ⟨by omega,fun x hx=>h.2 x (List.mem_of_mem_take (List.mem_of_mem_drop hx))⟩
theorem Ds.sumB {f:Int}{hs:List Int}{l S:List Rn} (h:Ds f hs l) (hn:hs.length≤2000) (hS:S.map rbare=(sumE l).1.map rbare):(sumE l).2=0∧Sd f hs S:=⟨(h.sum hn).1,l,h,hS⟩
theorem ds_tog {f:Int}{hs hs':List Int}{A B L:List Rn} (h:Ds f hs A) (h':Ds (f+hs.length) hs' B) (hn:hs.length+hs'.length≤2000) (hL:L.map rbare=(joinE A B).1.map rbare):(joinE A B).2=0∧Ds f (hs++hs') L:=by
 rw [h.joinE h' hn] at hL ⊢
 exact ⟨rfl,(h.join h').eqB hL⟩
theorem totC_drop {l:List Rn}{i:Nat} (h:i < l.length) (ho:∀ r∈l,OkR r) (s:Int):totC (l.drop i) s=sumAt s l[i].tab+totC (l.drop (i+1)) s:=by
 rw [List.drop_eq_getElem_cons h,totC,(ho _ (List.getElem_mem h)).tabs.2]
theorem totC_nn {l:List Rn} (ho:∀ r∈l,OkR r) (i:Nat) (s:Int):0≤totC (l.drop i) s:=(totC_bd (fun r hr=>ho r (List.mem_of_mem_drop hr)) s).1
end Go.Proofs.YtcdgibkbbcekhaaGreatDoor
/-
 Calls of function values that make runs;lists of lists of runs;histories;zero arrays.
-/
namespace Go.Sl
open Go.RowKit
theorem LdV.slIx {C:Ctx}{M:List Row}{A:Type}{f:A→List Value}{T n sz N:Nat} [hT:TAgg C.P T n] {l:List A}{p:A}{b off i:Nat} (v:Value) (hp:l[i]?=some p) (hm:slRow N (some ⟨b,off,none⟩) sz (l.map f)∈M) (hl:(f p).length=n) (hv:Value.agg (f p).toArray=v):LdV C M T ⟨b,off+i*sz,none⟩ v:=by
 obtain ⟨hi,rfl⟩:=List.getElem?_eq_some_iff.1 hp
 exact hv ▸ LdV.aggSl hm hi hl
end Go.Sl
namespace Go.Proofs.YtcdgibkbbcekhaaGreatDoor
open Go.RowKit Go.Sl Go.Num
def lpV (p:Lp):List Value:=[.slice p.adr p.L.length p.cap]
theorem lpV_len (p:Lp):(lpV p).length=1:=rfl
abbrev pfam (N:Nat) (D:List Lp):Row:=famRow N Lp.adr 5 (fun p:Lp=>p.L.map rnV) D
theorem RunsAt.ofP {w0 w:World}{M:List Row}{N:Nat}{D:List Lp}{p:Lp} (hw:Sat w0 M w) (hp:p∈D) (h1:pfam N D∈M) (h2:tfam N (D.flatMap Lp.L)∈M):RunsAt w p.adr p.L :=
 ⟨hw.fam h1 p hp,fun r hr=>hw.fam h2 r (List.mem_flatMap.2 ⟨p,hp,hr⟩)⟩
theorem run_arrI {P:Program} (w:World) (d:Nat) {t e:TypeId}{n:Nat} (ht:P.underlying t=some (.array n e)) (he:P.underlying e=some (.int .i64)) (hsz:∀ w,(sizeOf e).run P w=.ok 1 w) (xs:Array Value) (hx:∀ i,i < n→∃ z,xs[i]?=some (.int .i64 z)):(Op.equalIn (d+2) t (.agg xs) (.agg xs)).run P w=.ok true w:=by
 rw [Op.equalIn]
 simp only [Sem.run_bind,run_underlying ht,Result.andThen_ok,hsz,Std.Legacy.Range.forIn_eq_forIn_range',Std.Legacy.Range.size,Nat.sub_zero,Nat.add_sub_cancel,Nat.div_one]
 have hl:∀ i∈List.range' 0 n 1,i < n:=fun i hi=>by simpa using (List.mem_range'_1.1 hi).2
 generalize List.range' 0 n 1=l at hl ⊢
 induction l with
 | nil=>simp
 | cons i l ih =>
  obtain ⟨z,hz⟩:=hx i (hl i (by simp))
  have px:(part e xs (i*1)).run P w=.ok (.int .i64 z) w:=by simp [part,isAgg,run_underlying he,hz]
  have pe:(Op.equalIn (d+1) e (.int .i64 z) (.int .i64 z)).run P w=.ok true w:=by
   rw [run_equalIn_int w d e .i64 .i64 _ _ he];simp
  simp only [List.forIn_cons,Sem.run_bind,px,pe,Result.andThen_ok,Bool.not_true,Bool.false_eq_true,if_false,Sem.run_pure]
  exact ih fun j hj=>hl j (by simp [hj])
instance:TEqA Tryz.prog 87 1001:=⟨fun xs w hx=>run_arrI w 9998 (t:=87) (e:=3) (n:=1001) Tryz.underlying87 Tryz.underlying3 (fun w=>Tryz.sizeOf3 w) xs hx,by kernel_rfl⟩
section
variable {C:Ctx}{st:List (Nat×Value)}{M:List Row}{k:List Item}{q q':Md}{all rest:List Oper}{d:Nat}{ty:TypeId}{pos:String}{after:Array Edge}{gd:Option (Nat×Bool)}
theorem G.eqZ {T n:Nat}{x y:Operand}{yt:TypeId}{xs:Array Value} (hx:evS st x=some (.agg xs)) (hy:evS st y=some (.agg xs)) [hT:TEqA C.P T n] (hz:∀ i,i < n→∃ z,xs[i]?=some (.int .i64 z)) (hs:sideB all st gd d C.N q.calm=some q') (h:G q' C all ((d,.bool true)::st) M rest k) :
  G q C all st M ({ dst:=some d,op:=.binOp .eql T x y yt,type:=ty,pos,after,guard:=gd }::rest) k:=by
 obtain ⟨g1,g2,g3⟩:=sideB_ok hs
 refine G.op (OpV.of fun ac w hf _ dst pos after guard=>?_) g1 rfl g2 g3 h
 have e:(binOp .eql T (.agg xs) (.agg xs)).run C.P w=.ok (.bool true) w:=by
  show ((Op.equal T _ _).bind fun b=>Sem.pure (Value.bool b)).run C.P w=_
  rw [Sem.run_bind',hT.h xs w hz];rfl
 simp only [execOp,hf.eval hx,hf.eval hy,Sem.run_bind,run_eqGuard_agg w .eql T x y xs xs hT.g,e,Result.andThen_ok];rfl
end
theorem fill_nil {zero:Array Value}:∀ {parts:List (Nat×Value)}{out:Array Value},Instr.fill (fun i=>([]:List (Nat×Nat))[i]?) zero parts=some out→parts=[]∧out=zero
 | [],out,h=>by
  simp [Instr.fill] at h
  exact ⟨rfl,h.symm⟩
 | p::r,out,h=>by simp [Instr.fill] at h
instance:TBuild Tryz.prog 87 (List.replicate 1001 (.int .i64 0)) []:=⟨fun parts out w h=>by
 obtain ⟨rfl,rfl⟩:=fill_nil h
 obtain ⟨v,hz,hc⟩:=TZero.h (P:=Tryz.prog) (T:=87) w
 generalize (List.replicate 1001 (Value.int .i64 0)).toArray=z at *
 simp [Instr.build,hz,hc,Tryz.runUnderlying87,Tryz.sizeOf3,Instr.fill]⟩
end Go.Proofs.YtcdgibkbbcekhaaGreatDoor
/-
 Contract: the closure `together` of RunsSummarizeTogether.
-/
namespace Go.Proofs.YtcdgibkbbcekhaaGreatDoor
open Go.RowKit Go.Sl Go.Num
set_option maxHeartbeats 4000000 in
theorem tog_holds (f:Int) (hs hs':List Int) (a:Option Addr) (A:List Rn) (c:Nat) (b:Option Addr) (B:List Rn) (d:Nat) (w:World) (hA:RunsAt w a A) (hB:RunsAt w b B) (hd:Ds f hs A) (hd':Ds (f+hs.length) hs' B) (hn:hs.length+hs'.length≤60) :
  Calls Tryz.prog 42 #[.slice a A.length c,.slice b B.length d] w (RetU [] (Sd f (hs++hs')) (fun a' n c'=>.tuple #[.slice a' n c',.bool true]) w):=by
 have b1:=hd.bd
 have b2:=hd'.bd
 have HJ:=fun w' (hb:Below w.heap.size w w')=>vJoin_holds a A c b B d w' (hA.below hb) (hB.below hb) (fun r hr=>by have:=b1.2 r hr;omega) (fun r hr=>by have:=b2.2 r hr;omega) (by omega) (by omega)
 have ht:=fun (L:List Rn) (hL:L.map rbare=(joinE A B).1.map rbare)=>ds_tog hd hd' (by omega) hL
 have he:(joinE A B).2=0:=(ht _ rfl).1
 rw [he] at HJ
 have HS:∀ (aJ:Option Addr) (K1:List Rn) (cJ:Nat),K1.map rbare=(joinE A B).1.map rbare→K1.length≤cJ→∀ w',RunsAt w' aJ K1→Calls Tryz.prog 35 #[.slice aJ K1.length cJ] w' (RetU [] (Sd f (hs++hs')) (fun a' n c'=>.tuple #[.slice a' n c',.int .i64 0]) w'):=fun aJ K1 cJ q hc w' h=>by
  have h1:=(ht K1 q).2
  have h2:=h1.bd
  rw [List.length_append] at h2
  have h3:=vSum_holds aJ K1 cJ w' h (fun r hr=>by have:=h2.2 r hr;omega) (by omega) hc
  have h4:=fun S hS=>h1.sumB (S:=S) (by rw [List.length_append];omega) hS
  rw [(h4 _ rfl).1] at h3
  exact h3.mono fun e w2 ⟨S,a',c',hS,r⟩=>⟨S,a',c',(h4 S hS).2,r⟩
 refine enterA [(0,.slice a A.length c),(1,.slice b B.length d)] Tryz.func42 Tryz.ntmps42 ?_
 all_goals (refine go ?_;and_intros<;>(try exact trivial)<;>repeat (first|refine fun (Bk:Nat)=>?_|intro h))
 repeat' ((first|(refine G.cU (g:=34) (d:=13) (fun a' n c'=>.tuple #[.slice a' n c',.int .i64 0]) (fun L=>L.map rbare=(joinE A B).1.map rbare) [] (.inl rfl) rfl rfl (fun w' hw'=>HJ w' hw'.below) ?_;intro K1 aJ cJ hJ hJ2 _)|(refine G.cU (g:=35) (d:=18) (fun a' n c'=>.tuple #[.slice a' n c',.int .i64 0]) (Sd f (hs++hs')) [] (.inl rfl) rfl rfl ?_ ?_;exact fun w' hw'=>HS aJ K1 cJ hJ hJ2.2.2 w' (RunsAt.of hw');intro S1 aS cS hS hS2 hS3))<;>(refine go ?_;and_intros<;>(try exact trivial)<;>repeat (first|refine fun (Bk:Nat)=>?_|intro h)))
 refine ret2 Tryz.func42 Tryz.results42 ?_
 intro w' hw'
 exact Sat.retS (fun a' n c'=>.tuple #[.slice a' n c',.bool true]) hw' hS rfl hS2.2 hS3
end Go.Proofs.YtcdgibkbbcekhaaGreatDoor
/-
 The parts of a right history.
-/
namespace Go.Sl
open Go.RowKit Go.Proofs.YtcdgibkbbcekhaaGreatDoor
section
variable {C:Ctx}{st:List (Nat×Value)}{M:List Row}{k:List Item}{q q':Md}{all rest:List Oper}{d:Nat}{ty:TypeId}{pos:String}{after:Array Edge}{gd:Option (Nat×Bool)}
theorem G.cUf {g:FuncId}{f:Operand}{args:List Operand}{vs:List Value}{at_:Array TypeId} (v:Option Addr→Nat→Nat→Value) (P:List Rn→Prop) (L0:List Rn) (h0:L0=[]∨tfam C.w0.heap.size L0∈M) (hf:evS st f=some (.func (.func g) #[] #[])) (ha:evL st args=some vs) (hs:sideB all st gd d C.N q.ext=some q') [hF:Fun C.P g]
  (hc:∀ w,Sat C.w0 M w→Calls C.P g vs.toArray w (RetU L0 P v w))
  (h:∀ L a' c',P L→(0 < L.length→∃ b off,a'=some ⟨b,off,none⟩)∧((∀ p,a'=some p→C.w0.heap.size≤p.block)∧L.length≤c')→srcR C.w0.heap.size L0 L→G q' C all ((d,v a' L.length c')::st) (slRow C.w0.heap.size a' 5 (L.map rnV)::tfam C.w0.heap.size L::M) rest k) :
  G q C all st M ({ dst:=some d,op:=.call { callee:=.value f,args:=args.toArray,argTypes:=at_ },type:=ty,pos,after,guard:=gd }::rest) k:=by
 obtain ⟨g1,g2,g3⟩:=sideB_ok hs
 refine G.call (cap:=#[]) (X:={ x:List Rn×Option Addr×Nat // P x.1∧((0 < x.1.length→∃ b off,x.2.1=some ⟨b,off,none⟩)∧((∀ p,x.2.1=some p→C.w0.heap.size≤p.block)∧x.1.length≤x.2.2))∧srcR C.w0.heap.size L0 x.1 }) (v:=fun x=>v x.1.2.1 x.1.1.length x.1.2.2) (Mn:=fun x=>[slRow C.w0.heap.size x.1.2.1 5 (x.1.1.map rnV),tfam C.w0.heap.size x.1.1]) g1 g2 g3 hf ha (fun w hw=>?_) fun x=>h x.1.1 x.1.2.1 x.1.2.2 x.2.1 x.2.2.1 x.2.2.2
 have hc':=hc w hw
 rw [show vs.toArray++#[]=vs.toArray by simp]
 refine hc'.mono fun e w' he=>?_
 obtain ⟨L,a',c',hP,rfl,h1,⟨h2,h2c⟩,h3,h4⟩:=he
 have hw':=hw.ext h4
 have hf:∀ b,w.heap.size≤b→C.w0.heap.size≤b→∀ r∈M,¬ r.lock b:=fun b hb h7=>hw.free (.inr (.inl hb)) h7
 have hw2:=Sat.addR hw' h1 h2 h3 h0 hf
 exact ⟨⟨(L,a',c'),hP,⟨fun h0=>(let ⟨b,off,e,_⟩:=h1.1 (by rw [List.length_map];exact h0);⟨b,off,e⟩),⟨fun p hp=>Nat.le_trans hw.size (h2 p hp),h2c⟩⟩,h3.mono hw.size fun _ h=>h⟩,rfl,hw2⟩
end
end Go.Sl
namespace Go.Proofs.YtcdgibkbbcekhaaGreatDoor
open Go.RowKit Go.Sl Go.Num
structure HstOk (w:World) (p:Hst):Prop where
 n:p.hs.length=p.n
 at_:SlAt w p.adr 1 (p.hs.map isV)
 le:p.n≤60
 right:rightH p.f p.hs=true
theorem HstOk.calls {w:World}{p:Hst} (h:HstOk w p):∀ w',Below w.heap.size w w'→Calls Tryz.prog 21 #[.agg #[.int .i64 p.f,.slice p.adr p.n p.cap]] w' (RetU [] (Ds p.f p.hs) (fun a' n c'=>.tuple #[.slice a' n c',.int .i64 0]) w'):=fun w' hb=>by
 have hn:=h.n
 have hl:=h.le
 have h1:=vOf_holds p.f p.adr p.hs p.cap w' (h.at_.below hb) (by omega)
 have he:(ofE p.f p.hs).2=0∧∀ L:List Rn,L.map rbare=(ofE p.f p.hs).1.map rbare→Ds p.f p.hs L:=by
  rw [ofE,if_neg (by rw [h.right];decide)]
  exact ⟨rfl,fun L hL=>(Ds.of h.right).eqB hL⟩
 rw [he.1,hn] at h1
 exact h1.mono fun e w2 ⟨S,a',c',hS,r⟩=>⟨S,a',c',he.2 S hS,r⟩
theorem HstOk.sums {w:World}{p:Hst} (h:HstOk w p) {a:Option Addr}{K:List Rn}{c:Nat} (hK:Ds p.f p.hs K) (hc:K.length≤c):∀ w',RunsAt w' a K→Calls Tryz.prog 35 #[.slice a K.length c] w' (RetU [] (Sd p.f p.hs) (fun a' n c'=>.tuple #[.slice a' n c',.int .i64 0]) w'):=fun w' hA=>by
 have hn:=h.n
 have hl:=h.le
 have hb:=hK.bd
 have h1:=vSum_holds a K c w' hA (fun r hr=>by have:=hb.2 r hr;omega) (by omega) hc
 have h2:=fun S hS=>hK.sumB (S:=S) (by omega) hS
 rw [(h2 _ rfl).1] at h1
 exact h1.mono fun e w2 ⟨S,a',c',hS,r⟩=>⟨S,a',c',(h2 S hS).2,r⟩
theorem hist_cut {hs:List Int}{i j:Nat} (h1:i≤j) (h2:j≤hs.length):∃ A B D,hs=A++(B++D)∧A.length=i∧B.length=j-i∧D.length=hs.length-j:=by
 refine ⟨hs.take i,(hs.drop i).take (j-i),hs.drop j,?_,?_,?_,?_⟩
 ·have:(hs.drop i).take (j-i)++hs.drop j=hs.drop i:=by
   have:=List.take_append_drop (j-i) (hs.drop i)
   rw [List.drop_drop] at this
   rwa [show i+(j-i)=j by omega] at this
  rw [this,List.take_append_drop]
 ·rw [List.length_take];omega
 ·rw [List.length_take,List.length_drop];omega
 ·rw [List.length_drop]
def parts (f:Int) (a:Option Addr) (c i j n:Nat) (A B D:List Int):List Hst:=[⟨f,subA a c 0 1,i,c,A⟩,⟨f+i,subA a c i 1,j-i,c-i,B⟩,⟨f+j,subA a c j 1,n-j,c-j,D⟩,⟨f,a,n,c,A++(B++D)⟩]
theorem parts_ok {w:World}{f:Int}{a:Option Addr}{hs A B D:List Int}{c i j:Nat} (hA:SlAt w a 1 (hs.map isV)) (hc:hs.length≤c) (hn:hs.length≤60) (hr:rightH f hs=true) (h1:i≤j) (h2:j≤hs.length) (e:hs=A++(B++D)) (l1:A.length=i) (l2:B.length=j-i) (l3:D.length=hs.length-j):∀ p∈parts f a c i j hs.length A B D,HstOk w p:=by
 have e1:(hs.take i).drop 0=A:=by rw [List.drop_zero,e,List.take_left' l1]
 have e2:(hs.take j).drop i=B:=by
  rw [e,← List.append_assoc,List.take_left' (by rw [List.length_append];omega),List.drop_left' l1]
 have e3:(hs.take hs.length).drop j=D:=by
  rw [List.take_length,e,← List.append_assoc,List.drop_left' (by rw [List.length_append];omega)]
 have s1:SlAt w (subA a c 0 1) 1 (A.map isV):=by
  have:=subA_at (lo:=0) (hi:=i) hA (Nat.zero_le _) (by omega) hc
  rwa [List.drop_zero,Nat.sub_zero,← List.drop_zero (l:=hs.take i),e1] at this
 have s2:SlAt w (subA a c i 1) 1 (B.map isV):=by
  have:=subA_at (lo:=i) (hi:=j) hA h1 (by omega) hc
  rwa [← List.drop_take,e2] at this
 have s3:SlAt w (subA a c j 1) 1 (D.map isV):=by
  have:=subA_at (lo:=j) (hi:=hs.length) hA h2 (Nat.le_refl _) hc
  rwa [← List.drop_take,e3] at this
 have r1:=right_sub hr (Nat.zero_le i) (by omega)
 have r2:=right_sub hr h1 h2
 have r3:=right_sub hr h2 (Nat.le_refl _)
 rw [e1,Int.natCast_zero,Int.add_zero] at r1
 rw [e2] at r2
 rw [e3] at r3
 intro p hp
 rw [parts,List.mem_cons,List.mem_cons,List.mem_cons,List.mem_singleton] at hp
 rcases hp with rfl|rfl|rfl|rfl
 ·exact ⟨l1,s1,by dsimp only;omega,r1⟩
 ·exact ⟨l2,s2,by dsimp only;omega,r2⟩
 ·exact ⟨l3,s3,by dsimp only;omega,r3⟩
 ·exact ⟨by dsimp only;rw [← e],by dsimp only;rw [← e];exact hA,hn,by dsimp only;rw [← e];exact hr⟩
end Go.Proofs.YtcdgibkbbcekhaaGreatDoor
/-
 The law RunsSummarizeTogether.
-/
namespace Go.Proofs.YtcdgibkbbcekhaaGreatDoor
open Go.RowKit Go.Sl Go.Num
section
variable {C:Ctx}{st:List (Nat×Value)}{M:List Row}{k:List Item}{q q':Md}{all rest:List Oper}{d:Nat}{ty:TypeId}{pos:String}{after:Array Edge}{gd:Option (Nat×Bool)}
theorem G.eqY {T n:Nat}{x y:Operand}{yt:TypeId}{xs ys:Array Value} (hx:evS st x=some (.agg xs)) (hy:evS st y=some (.agg ys)) (he:xs=ys) [hT:TEqA C.P T n] (hz:∀ i,i < n→∃ z,xs[i]?=some (.int .i64 z)) (hs:sideB all st gd d C.N q.calm=some q') (h:G q' C all ((d,.bool true)::st) M rest k) :
  G q C all st M ({ dst:=some d,op:=.binOp .eql T x y yt,type:=ty,pos,after,guard:=gd }::rest) k:=by
 subst he
 exact G.eqZ hx hy hz hs h
end
theorem rep_int {n i:Nat} (h:i < n):∃ z,((List.replicate n (Value.int .i64 0)).toArray)[i]?=some (.int .i64 z):=⟨0,by rw [List.getElem?_toArray,List.getElem?_replicate,if_pos h]⟩
theorem right_bd {f:Int}{hs:List Int} (h:rightH f hs=true):(0≤f∧f≤1402560-hs.length)∧∀ i (hi:i < hs.length),0≤hs[i]∧hs[i]≤1000:=by
 rw [rightH,Bool.and_eq_true,decide_eq_true_eq,Bool.not_eq_true',List.any_eq_false] at h
 refine ⟨h.1.2,fun i hi=>?_⟩
 have:=h.2 _ (List.getElem_mem hi)
 rw [badSt] at this
 simpa using this
set_option maxHeartbeats 4000000 in
theorem runs4_holds (w:World) (f:Int) (a:Option Addr) (hs:List Int) (c:Nat) (n1 n2:Nat) (hA:SlAt w a 1 (hs.map isV)) (hc:hs.length≤c) (hm:hs.length≤9223372036854775807) (hn1:n1≤255) (hn2:n2≤255) :
  Calls Tryz.prog 6 #[.agg #[.int .i64 f,.slice a hs.length c],.agg #[.int .u8 n1,.int .u8 n2]] w fun e w'=>e=.returned (.bool true)∧Below w.heap.size w w':=by
 have hri:=fun w' (hb:Below w.heap.size w w')=>rRight_holds f a hs c w' (hA.below hb) hm
 by_cases hg:0 < hs.length∧hs.length≤60∧rightH f hs=true
 case neg =>
  generalize rightH f hs=r at *
  cases r
  all_goals
   simp only [and_true,and_false,not_false_eq_true,Bool.false_eq_true] at hg
   refine enterA [(0,.agg #[.int .i64 f,.slice a hs.length c]),(1,.agg #[.int .u8 n1,.int .u8 n2])] Tryz.func6 Tryz.ntmps6 ?_
   all_goals (refine go ?_;and_intros<;>(try exact trivial)<;>repeat (first|refine fun (Bk:Nat)=>?_|intro h))
   repeat' ((first|(apply G.cV (g:=41);rfl;rfl;exact fun w' hw'=>hri w' hw'.below)|(apply G.cV (g:=20);rfl;rfl;exact fun w' _=>sanity16_holds w'))<;>(refine go ?_;and_intros<;>(try exact trivial)<;>repeat (first|refine fun (Bk:Nat)=>?_|intro h)))
   all_goals refine ret1b Tryz.func6 Tryz.results6 ?_
   all_goals rfl
 obtain ⟨hn0,hn60,hr⟩:=hg
 obtain ⟨hf,hb⟩:=right_bd hr
 have hri':=hri
 rw [hr] at hri
 clear hri'
 have m1:=Int.emod_nonneg (n1:Int) (show (hs.length:Int)+1≠0 by omega)
 have m2:=Int.emod_lt_of_pos (n1:Int) (show 0 < (hs.length:Int)+1 by omega)
 have m3:=Int.emod_nonneg (n2:Int) (show (hs.length:Int)+1≠0 by omega)
 have m4:=Int.emod_lt_of_pos (n2:Int) (show 0 < (hs.length:Int)+1 by omega)
 obtain ⟨i,hi⟩:∃ i:Nat,min ((n1:Int) % ((hs.length:Int)+1)) ((n2:Int) % ((hs.length:Int)+1))=(i:Int):=⟨(min ((n1:Int) % ((hs.length:Int)+1)) ((n2:Int) % ((hs.length:Int)+1))).toNat,by omega⟩
 obtain ⟨j,hj⟩:∃ j:Nat,max ((n1:Int) % ((hs.length:Int)+1)) ((n2:Int) % ((hs.length:Int)+1))=(j:Int):=⟨(max ((n1:Int) % ((hs.length:Int)+1)) ((n2:Int) % ((hs.length:Int)+1))).toNat,by omega⟩
 have hij:i≤j:=by omega
 have hjn:j≤hs.length:=by omega
 have hz:(hs.length:Int)+1≠0:=by omega
 refine enterA [(0,.agg #[.int .i64 f,.slice a hs.length c]),(1,.agg #[.int .u8 n1,.int .u8 n2])] Tryz.func6 Tryz.ntmps6 ?_
 all_goals (refine goR ?_;and_intros<;>(try exact trivial)<;>repeat (first|refine fun (Bk:Nat)=>?_|intro h))
 repeat' ((first|(apply G.cV (g:=41);rfl;rfl;exact fun w' hw'=>hri w' hw'.below)|(apply J.regQ (id:=5);exact Tryz.mixed;decide +kernel)|(apply G.indexArr (i:=0) (o':=0);rfl;rfl;rfl;omega;rfl;rfl;rfl;rfl)|(apply G.indexArr (i:=1) (o':=1);rfl;rfl;rfl;omega;rfl;rfl;rfl;rfl))<;>(refine goR ?_;and_intros<;>(try exact trivial)<;>repeat (first|refine fun (Bk:Nat)=>?_|intro h)))
 rw [hi,hj]
 clear m1 m2 m3 m4 hi hj hz hn1 hn2
 obtain ⟨A,B,D,e,l1,l2,l3⟩:=hist_cut hij hjn
 have hP:=parts_ok hA hc hn60 hr hij hjn e l1 l2 l3
 obtain rfl:=l1
 obtain ⟨P,hPe⟩:∃ P,parts f a c A.length j hs.length A B D=P:=⟨_,rfl⟩
 have hPl:P.length=4:=by rw [← hPe];rfl
 rw [hPe] at hP
 all_goals (refine goR ?_;and_intros<;>(try exact trivial)<;>repeat (first|refine fun (Bk:Nat)=>?_|intro h))
 repeat' ((first|(apply J.regA (id:=8) (.q 0 <| .q 1 <| .q 2 <| .q 3 <| .q 4 <| .q 5 <| .q 6 <| .q 7 <| .q 8 <| .q 9 <| .q 10 <| .q 11 <| .q 12 <| .q 13 <| .q 14 <| .q 15 <| .q 16 <| .q 17 <| .q 18 <| .q 19 <| .q 20 <| .q 21 <| .q 22 <| .q 23 <| .q 24 <| .q 25 <| .q 26 <| .q 29 <| .r 27 <| .q 28 <| .nil);exact Tryz.mixed;decide +kernel)|(apply G.sliceTo (h:=A.length);rfl;rfl;rfl;omega;rfl;rfl;rfl)|(apply G.slice (l:=A.length) (h:=j);rfl;rfl;rfl;rfl;rfl;omega;omega;rfl;rfl;rfl)|(apply G.sliceFrom (l:=j);rfl;rfl;rfl;omega;rfl;rfl;rfl)|(apply G.sliceL;rfl;rfl;rfl;rfl;rfl;rfl;rfl;rfl;intro Bs))<;>(refine goR ?_;and_intros<;>(try exact trivial)<;>repeat (first|refine fun (Bk:Nat)=>?_|intro h)))
 refine J.blkEq (cs':=flat hstV (parts f a c A.length j hs.length A B D)) (tot':=8) RAt.au (by kernel_rfl) rfl ?_
 rw [hPe]
 apply J.nilOwn (E:=43) (size:=1)
 refine J.fam0 Lp.adr 5 (fun p:Lp=>p.L.map rnV) ?_
 refine J.fam0 Rn.adr 2 (fun r:Rn=>r.tab.map hoV) ?_
 rename_i Bk2 _
 refine J.loop (c:=_) ((0,none,0,[]):Nat×Option Addr×Nat×List Lp) (fun s=>4-s.1) (fun s=>[(2,.pointer (some ⟨Bk2,0,none⟩)),(9,.slice s.2.1 s.1 s.2.2.1),(91,.slice (some ⟨Bs,0,none⟩) 4 4),(92,.int .i64 4),(93,.int .i64 s.1)]) (fun s=>[tfam w.heap.size (s.2.2.2.flatMap Lp.L),pfam w.heap.size s.2.2.2,.own 0 (.slice s.2.1 s.1 s.2.2.1) 43 1 s.1 (flat lpV s.2.2.2),.blk Bs 46 (flat hstV P) 8,.blk Bk2 46 [.int .i64 f,.slice a hs.length c] 2]) (fun s=>s.1≤4∧s.2.2.2.length=s.1∧∀ (k:Nat) (d:Lp) (p:Hst),s.2.2.2[k]?=some d→P[k]?=some p→Sd p.f p.hs d.L) ?_ sbT sbL ?_
 ·exact ⟨Nat.zero_le _,rfl,fun k d p h=>(by cases h)⟩
 intro ⟨k,ap,cp,R⟩ ⟨h1,h2,h3⟩ ih
 dsimp only at h1 h2 h3 ⊢
 by_cases hk:k < 4
 ·obtain ⟨p,hp⟩:∃ p,P[k]?=some p:=⟨_,List.getElem?_eq_getElem (by omega)⟩
  have hpo:=hP p (List.mem_of_getElem? hp)
  have HO:=hpo.calls
  have HS:=fun a K c hK hc=>hpo.sums (a:=a) (K:=K) (c:=c) hK hc
  have ih':=fun a2 c2 (d:Lp) (hd:Sd p.f p.hs d.L)=>ih (k+1,a2,c2,R++[d]) ⟨hk,by dsimp only;rw [List.length_append,h2];rfl,fun i d' p' g1 g2=>by
   dsimp only at g1
   by_cases hi:i < R.length
   ·rw [List.getElem?_append_left hi] at g1;exact h3 i d' p' g1 g2
   ·have hi':=(List.getElem?_eq_some_iff.1 g1).1
    rw [List.length_append,List.length_singleton] at hi'
    obtain rfl:i=k:=by omega
    rw [List.getElem?_append_right (by omega),h2,Nat.sub_self] at g1
    rw [hp] at g2
    cases g1;cases g2;exact hd⟩ (by dsimp only;omega)
  clear ih h3 hpo hP hb hri hPl
  obtain ⟨pf,pa,pn,pc,phs⟩:=p
  dsimp only at HO HS ih'
  all_goals (refine goR ?_;and_intros<;>(try exact trivial)<;>repeat (first|refine fun (Bk:Nat)=>?_|intro h))
  repeat' ((first|(apply G.ld;rfl;exact LdV.flat hstV_len mm hp rfl;rfl)|(refine G.cU (g:=21) (d:=99) (fun a' n c'=>.tuple #[.slice a' n c',.int .i64 0]) (Ds pf phs) [] (.inl rfl) rfl rfl ?_ ?_;exact fun w' hw'=>HO w' hw'.below;intro K aK cK hK hK2 _)|(refine G.cU (g:=35) (d:=104) (fun a' n c'=>.tuple #[.slice a' n c',.int .i64 0]) (Sd pf phs) [] (.inl rfl) rfl rfl ?_ ?_;exact fun w' hw'=>HS aK K cK hK hK2.2.2 w' (RunsAt.of hw');intro S aS cS hS hS2 _)|(apply G.sliceL;rfl;rfl;rfl;rfl;rfl;rfl;rfl;rfl;intro Bs)|(apply G.apV;rfl;rfl;rfl;(repeat (first|exact RAt.head|apply RAt.tail));exact SrcV.blk (by exact mm) rfl rfl;exact flat1 lpV R ⟨aS,cS,S⟩;omega;omega;intro a2 c2))<;>(refine goR ?_;and_intros<;>(try exact trivial)<;>repeat (first|refine fun (Bk:Nat)=>?_|intro h)))
  refine J.famAdd (r:=(⟨aS,cS,S⟩:Lp)) (adr:=Lp.adr) (sz:=5) (L:=fun p:Lp=>p.L.map rnV) (o:=R) mm mm ?_
  refine J.tfamTo ((R++[(⟨aS,cS,S⟩:Lp)]).flatMap Lp.L) (o:=R.flatMap Lp.L) (l:=S) mm mm (fun r hr=>by rw [List.flatMap_append,List.mem_append] at hr;simpa using hr) ?_
  exact J.fin (ih' a2 c2 ⟨aS,cS,S⟩ hS)
 obtain rfl:k=4:=by omega
 obtain ⟨d0,d1,d2,d3,rfl⟩:∃ d0 d1 d2 d3,R=[d0,d1,d2,d3]:=by
  match R,h2 with
  | [d0,d1,d2,d3],_=>exact ⟨d0,d1,d2,d3,rfl⟩
 have hj:j=A.length+B.length:=by omega
 subst hj
 have S0:=h3 0 d0 _ rfl (by rw [← hPe];rfl)
 have S1:=h3 1 d1 _ rfl (by rw [← hPe];rfl)
 have S2:=h3 2 d2 _ rfl (by rw [← hPe];rfl)
 have S3:=h3 3 d3 _ rfl (by rw [← hPe];rfl)
 dsimp only at S0 S1 S2 S3
 clear ih h3 h2 h1 hP hPe hPl
 refine J.ownSlR (f:=lpV) (l:=[d0,d1,d2,d3]) lpV_len (by (repeat (first|exact Pick.head|apply Pick.tail))) rfl ?_
 refine J.slForm mm ?_
 intro hfm
 obtain ⟨bp,op,rfl⟩:=hfm (Nat.succ_pos _)
 clear hfm
 obtain ⟨ba,oa,rfl,hra⟩:=SlAt.all hA (by omega)
 have lB:(A++B).length=A.length+B.length:=List.length_append
 have lD:(B++D).length=B.length+D.length:=List.length_append
 have l60:A.length+B.length+D.length≤60:=by omega
 have lh:(A++(B++D)).length=hs.length:=by rw [e]
 have D0:=S0.ds (by omega)
 have D1:=S1.ds (by omega)
 have D2:=S2.ds (by omega)
 have T1:=fun w' h1 h2=>tog_holds f A B d0.adr d0.L d0.cap d1.adr d1.L d1.cap w' h1 h2 D0 D1 (by omega)
 have T2:=fun aL L cL (hL:Sd f (A++B) L) w' h1 h2=>tog_holds f (A++B) D aL L cL d2.adr d2.L d2.cap w' h1 h2 (hL.ds (by omega)) (by rw [lB];exact D2) (by omega)
 have T3:=fun w' h1 h2=>tog_holds (f+A.length) B D d1.adr d1.L d1.cap d2.adr d2.L d2.cap w' h1 h2 D1 (by rw [show f+(A.length:Int)+B.length=f+((A.length+B.length:Nat):Int) by omega];exact D2) (by omega)
 have T4:=fun aL L cL (hL:Sd (f+A.length) (B++D) L) w' h1 h2=>tog_holds f A (B++D) d0.adr d0.L d0.cap aL L cL w' h1 h2 D0 (hL.ds (by omega)) (by omega)
 have E4:∀ (L:List Rn) (hL:Sd f (A++(B++D)) L) (aL:Option Addr) (cL:Nat) (w':World),RunsAt w' aL L→RunsAt w' d3.adr d3.L→Calls Tryz.prog 29 #[.slice aL L.length cL,.slice d3.adr d3.L.length d3.cap] w' fun e w2=>e=.returned (.bool true)∧Below w'.heap.size w' w2:=fun L hL aL cL w' h1 h2=>by
  have h3:=(hL.ds (by omega)).bd
  exact same_true aL d3.adr L d3.L _ _ _ _ w' h1 h2 (hL.same S3 (by omega)) rfl rfl (by omega) fun r hr=>by have:=h3.2 r hr;omega
 clear S0 S1 S2 S3 D0 D1 D2 hA hri hij hjn l2 l3 hk
 all_goals (refine goR ?_;and_intros<;>(try exact trivial)<;>repeat (first|refine fun (Bk:Nat)=>?_|intro h))
 repeat' ((first|(apply J.regA (id:=18) (.q 0 <| .q 1 <| .q 2 <| .q 3 <| .q 4 <| .q 5 <| .q 6 <| .r 7 <| .q 8 <| .q 9 <| .q 10 <| .q 11 <| .q 12 <| .nil);exact Tryz.mixed;decide +kernel)|(apply J.regA (id:=20) (.q 0 <| .q 1 <| .q 2 <| .q 3 <| .q 4 <| .q 5 <| .q 6 <| .r 7 <| .q 8 <| .q 9 <| .q 10 <| .q 11 <| .q 12 <| .nil);exact Tryz.mixed;decide +kernel)|(apply G.ix (i:=0);rfl;rfl;exact rfl;decide;rfl)|(apply G.ix (i:=1);rfl;rfl;exact rfl;decide;rfl)|(apply G.ix (i:=2);rfl;rfl;exact rfl;decide;rfl)|(apply G.ix (i:=3);rfl;rfl;exact rfl;decide;rfl)|(apply G.ld;rfl;(apply LdV.one;exact CellV.sl0 (f:=lpV) (l:=[d0,d1,d2,d3]) (i:=0) (N:=w.heap.size) (by exact mm) (Nat.le_of_ble_eq_true rfl) rfl);rfl)|(apply G.ld;rfl;(apply LdV.one;exact CellV.sl0 (f:=lpV) (l:=[d0,d1,d2,d3]) (i:=1) (N:=w.heap.size) (by exact mm) (Nat.le_of_ble_eq_true rfl) rfl);rfl)|(apply G.ld;rfl;(apply LdV.one;exact CellV.sl0 (f:=lpV) (l:=[d0,d1,d2,d3]) (i:=2) (N:=w.heap.size) (by exact mm) (Nat.le_of_ble_eq_true rfl) rfl);rfl)|(apply G.ld;rfl;(apply LdV.one;exact CellV.sl0 (f:=lpV) (l:=[d0,d1,d2,d3]) (i:=3) (N:=w.heap.size) (by exact mm) (Nat.le_of_ble_eq_true rfl) rfl);rfl)|(refine G.cUf (g:=42) (d:=126) (fun a' n c'=>.tuple #[.slice a' n c',.bool true]) (Sd f (A++B)) [] (.inl rfl) rfl rfl rfl ?_ ?_;exact fun w' hw'=>T1 w' (RunsAt.ofP hw' (p:=d0) (D:=[d0,d1,d2,d3]) (by simp) mm mm) (RunsAt.ofP hw' (p:=d1) (D:=[d0,d1,d2,d3]) (by simp) mm mm);intro L1 aL1 cL1 hL1 hF1 _)|(refine G.cUf (g:=42) (d:=135) (fun a' n c'=>.tuple #[.slice a' n c',.bool true]) (Sd f (A++B++D)) [] (.inl rfl) rfl rfl rfl ?_ ?_;exact fun w' hw'=>T2 aL1 L1 cL1 hL1 w' (RunsAt.of hw') (RunsAt.ofP hw' (p:=d2) (D:=[d0,d1,d2,d3]) (by simp) mm mm);intro L2 aL2 cL2 hL2 hF2 _)|(refine G.cUf (g:=42) (d:=146) (fun a' n c'=>.tuple #[.slice a' n c',.bool true]) (Sd (f+A.length) (B++D)) [] (.inl rfl) rfl rfl rfl ?_ ?_;exact fun w' hw'=>T3 w' (RunsAt.ofP hw' (p:=d1) (D:=[d0,d1,d2,d3]) (by simp) mm mm) (RunsAt.ofP hw' (p:=d2) (D:=[d0,d1,d2,d3]) (by simp) mm mm);intro L3 aL3 cL3 hL3 hF3 _)|(refine G.cUf (g:=42) (d:=155) (fun a' n c'=>.tuple #[.slice a' n c',.bool true]) (Sd f (A++(B++D))) [] (.inl rfl) rfl rfl rfl ?_ ?_;exact fun w' hw'=>T4 aL3 L3 cL3 hL3 w' (RunsAt.ofP hw' (p:=d0) (D:=[d0,d1,d2,d3]) (by simp) mm mm) (RunsAt.of hw');intro L4 aL4 cL4 hL4 hF4 _)|(apply G.cV (g:=29) (d:=177);rfl;rfl;exact fun w' hw'=>E4 L2 (List.append_assoc A B D ▸ hL2) aL2 cL2 w' (RunsAt.of hw') (RunsAt.ofP hw' (p:=d3) (D:=[d0,d1,d2,d3]) (by simp) mm mm))|(apply G.cV (g:=29) (d:=185);rfl;rfl;exact fun w' hw'=>E4 L4 hL4 aL4 cL4 w' (RunsAt.of hw') (RunsAt.ofP hw' (p:=d3) (D:=[d0,d1,d2,d3]) (by simp) mm mm)))<;>(refine goR ?_;and_intros<;>(try exact trivial)<;>repeat (first|refine fun (Bk:Nat)=>?_|intro h)))
 have hL2':=hL2.ds (by rw [List.length_append];omega)
 have ho2:=hL2'.ok
 have hl2:=hL2'.bd
 have ht2:∀ s,totC L2 s=nIn s hs:=fun s=>by rw [hL2'.tot,e,List.append_assoc]
 rw [List.length_append,lB] at hl2
 have hf2:=hF2.1
 clear T1 T2 T3 T4 E4 hL1 hL2 hL3 hL4 hF1 hF2 hF3 hF4 hL2' lB lD lh
 generalize Bk=B23 at *
 rw [← is_rep]
 refine J.loop (c:=_) ((0,List.replicate 1001 0):Nat×List Int) (fun s=>hs.length-s.1) (fun s=>[(17,.slice aL2 L2.length cL2),(23,.pointer (some ⟨B23,0,none⟩)),(189,.slice (some ⟨ba,oa,none⟩) hs.length c),(190,.int .i64 hs.length),(191,.int .i64 s.1)]) (fun s=>[.blk B23 87 (flat isV s.2) (flat isV (List.replicate 1001 0)).length,slRow w.heap.size aL2 5 (L2.map rnV),tfam w.heap.size L2]) (fun s=>s.1≤hs.length∧s.2.length=1001∧∀ x (hx:x < s.2.length),s.2[x]+nIn (x:Int) (hs.drop s.1)=nIn (x:Int) hs) ?_ sbT sbL ?_
 ·exact ⟨Nat.zero_le _,List.length_replicate,fun x hx=>by dsimp only;rw [List.getElem_replicate,List.drop_zero,Int.zero_add]⟩
 intro ⟨i,L⟩ ⟨h1,h2,h3⟩ ih
 dsimp only at h1 h2 h3 ⊢
 by_cases hi:i < hs.length
 ·have hri:=hra i hi
  have hbi:=hb i hi
  rw [List.drop_eq_getElem_cons hi] at h3
  simp only [nIn] at h3
  clear hra hb hr
  generalize hs[i]=z at *
  obtain ⟨n,rfl⟩:∃ n:Nat,z=n:=⟨z.toNat,by omega⟩
  have hn:n < L.length:=by omega
  have q1:=is_get hn
  have q2:=is_set (v:=L[n]+1) hn
  have l9:(flat isV L).length=L.length:=by rw [flat_len isV_len,Nat.mul_one]
  have hu:=h3 n hn
  have u1:=nIn_bd n hs
  have u2:=nIn_bd n (hs.drop (i+1))
  rw [List.length_drop] at u2
  rw [if_pos rfl] at hu
  have hnx:∀ x (hx:x < (L.set n (L[n]+1)).length),(L.set n (L[n]+1))[x]+nIn (x:Int) (hs.drop (i+1))=nIn (x:Int) hs:=fun x hx=>by
   rw [List.length_set] at hx
   have:=h3 x hx
   rw [List.getElem_set]
   split
   ·rename_i e;subst e;rw [if_pos rfl] at this;omega
   ·rename_i e;rw [if_neg (by omega)] at this;omega
  have hin:=ih (i+1,L.set n (L[n]+1)) ⟨hi,by dsimp only;rw [List.length_set];exact h2,hnx⟩ (by dsimp only;omega)
  generalize L[n]=v at *
  clear h3 hnx ih ht2 hl2 ho2
  dsimp only [isV] at *
  all_goals (refine go ?_;and_intros<;>(try exact trivial)<;>repeat (first|refine fun (Bk:Nat)=>?_|intro h))
  repeat' ((first|(apply G.indexArr (i:=n) (o':=0+n*1);rfl;rfl;rfl;omega;exact addO_eq _ _;rfl;rfl;rfl)|(apply G.ld;rfl;(apply LdV.one;exact CellV.blk (by exact mm) q1);rfl)|(apply G.s1;rfl;rfl;rfl;(repeat (first|exact RAt.head|apply RAt.tail));exact ⟨rfl,rfl⟩;omega;exact q2))<;>(refine go ?_;and_intros<;>(try exact trivial)<;>repeat (first|refine fun (Bk:Nat)=>?_|intro h)))
  exact J.fin hin
 obtain rfl:i=hs.length:=by omega
 rw [List.drop_length] at h3
 have hT:∀ x (hx:x < L.length),L[x]=totC L2 x∧L[x]≤60:=fun x hx=>by
  have:=h3 x hx
  have:=nIn_bd x hs
  rw [ht2]
  simp only [nIn] at *
  omega
 clear ih h3 hb hra ht2 hr
 all_goals (refine go ?_;and_intros<;>(try exact trivial)<;>repeat (first|refine fun (Bk:Nat)=>?_|intro h))
 refine J.loop (c:=_) ((0,L):Nat×List Int) (fun s=>L2.length-s.1) (fun s=>[(23,.pointer (some ⟨B23,0,none⟩)),(201,.slice aL2 L2.length cL2),(202,.int .i64 L2.length),(203,.int .i64 s.1)]) (fun s=>[.blk B23 87 (flat isV s.2) (flat isV (List.replicate 1001 0)).length,slRow w.heap.size aL2 5 (L2.map rnV),tfam w.heap.size L2]) (fun s=>s.1≤L2.length∧s.2.length=1001∧∀ x (hx:x < s.2.length),s.2[x]=totC (L2.drop s.1) x∧s.2[x]≤60) ?_ sbT sbL ?_
 ·exact ⟨Nat.zero_le _,h2,hT⟩
 intro ⟨i,T⟩ ⟨e1,e2,e3⟩ ih
 dsimp only at e1 e2 e3 ⊢
 by_cases hi:i < L2.length
 ·obtain ⟨b2,o2,rfl⟩:=hf2 (by omega)
  have hdr:=totC_drop hi ho2
  have hxm:=List.getElem_mem hi
  obtain ⟨x,hx0⟩:∃ x,L2[i]=x:=⟨_,rfl⟩
  have hxk:L2[i]?=some x:=by rw [List.getElem?_eq_getElem hi,hx0]
  rw [hx0] at hdr hxm
  have htb:=(ho2 x hxm).tabs.1
  have htl:=hl2.2 x hxm
  have ih':=fun T' h=>ih (i+1,T') h (by dsimp only;omega)
  have w2:=fun s=>totC_nn ho2 (i+1) s
  refine J.tabOf x mm hxm ?_
  refine J.slForm (a:=x.adr) mm ?_
  intro hfx
  clear ih hx0 hf2 hxm
  obtain ⟨xf,xt,xtab,xa,xc,xlo,xhi⟩:=x
  dsimp only at hdr htb htl hfx
  have hT:∀ y (hy:y < T.length),T[y]=sumAt (y:Int) (xtab.drop 0)+totC (L2.drop (i+1)) y∧T[y]≤60:=fun y hy=>by
   have:=e3 y hy
   rw [hdr] at this
   exact this
  clear e3 hdr
  all_goals (refine go ?_;and_intros<;>(try exact trivial)<;>repeat (first|refine fun (Bk:Nat)=>?_|intro h))
  repeat' ((first|(apply G.ld;rfl;exact LdV.slIx (f:=rnV) (N:=w.heap.size) (.agg #[.int .i64 xf,.int .i64 xt,.slice xa xtab.length xc,.int .i64 xlo,.int .i64 xhi]) hxk mm rfl rfl;rfl))<;>(refine go ?_;and_intros<;>(try exact trivial)<;>repeat (first|refine fun (Bk:Nat)=>?_|intro h)))
  refine J.loop (c:=_) ((0,T):Nat×List Int) (fun s=>xtab.length-s.1) (fun s=>[(23,.pointer (some ⟨B23,0,none⟩)),(201,.slice (some ⟨b2,o2,none⟩) L2.length cL2),(202,.int .i64 L2.length),(203,.int .i64 i),(208,.slice xa xtab.length xc),(209,.int .i64 xtab.length),(210,.int .i64 s.1)]) (fun s=>[slRow w.heap.size xa 2 (xtab.map hoV),.blk B23 87 (flat isV s.2) (flat isV (List.replicate 1001 0)).length,slRow w.heap.size (some ⟨b2,o2,none⟩) 5 (L2.map rnV),tfam w.heap.size L2]) (fun s=>s.1≤xtab.length∧s.2.length=1001∧∀ y (hy:y < s.2.length),s.2[y]=sumAt (y:Int) (xtab.drop s.1)+totC (L2.drop (i+1)) y∧s.2[y]≤60) ?_ sbT sbL ?_
  ·exact ⟨Nat.zero_le _,e2,hT⟩
  intro ⟨j,U⟩ ⟨f1,f2,f3⟩ ihj
  dsimp only at f1 f2 f3 ⊢
  clear hT
  by_cases hj:j < xtab.length
  ·obtain ⟨bx,ox,rfl⟩:=hfx (by rw [List.length_map];omega)
   have hz:=htb _ (List.getElem_mem hj)
   have w1:=fun s=>sumAt_nn (s:=s) (T:=xtab.drop (j+1)) fun x hx=>(htb x (List.mem_of_mem_drop hx)).2.1
   rw [List.drop_eq_getElem_cons hj] at f3
   obtain ⟨z,hz0⟩:∃ z,xtab[j]=z:=⟨_,rfl⟩
   have hzk:xtab[j]?=some z:=by rw [List.getElem?_eq_getElem hj,hz0]
   rw [hz0] at f3 hz
   obtain ⟨zs,zn⟩:=z
   dsimp only at hz
   obtain ⟨n,rfl⟩:∃ n:Nat,zs=n:=⟨zs.toNat,by omega⟩
   simp only [sumAt] at f3
   have hn:n < U.length:=by omega
   have q1:=is_get hn
   have q2:=is_set (v:=U[n]-zn) hn
   have l9:(flat isV U).length=U.length:=by rw [flat_len isV_len,Nat.mul_one]
   have hu:=f3 n hn
   rw [if_pos rfl] at hu
   have u1:=w1 n
   have u2:=w2 n
   have hnx:∀ y (hy:y < (U.set n (U[n]-zn)).length),(U.set n (U[n]-zn))[y]=sumAt (y:Int) (xtab.drop (j+1))+totC (L2.drop (i+1)) y∧(U.set n (U[n]-zn))[y]≤60:=fun y hy=>by
    rw [List.length_set] at hy
    have:=f3 y hy
    rw [List.getElem_set]
    split
    ·rename_i e;subst e;rw [if_pos rfl] at this;omega
    ·rename_i e;rw [if_neg (by omega)] at this;omega
   have hin:=ihj (j+1,U.set n (U[n]-zn)) ⟨hj,by dsimp only;rw [List.length_set];exact f2,hnx⟩ (by dsimp only;omega)
   generalize U[n]=v at *
   clear f3 hnx ihj w1 w2 htb hz0 ho2 hl2 ih'
   dsimp only [isV] at *
   all_goals (refine goR ?_;and_intros<;>(try exact trivial)<;>repeat (first|refine fun (Bk:Nat)=>?_|intro h))
   repeat' ((first|(apply G.ld;rfl;exact LdV.slIx (f:=hoV) (N:=w.heap.size) (.agg #[.int .i64 (n:Int),.int .i64 zn]) hzk mm rfl rfl;rfl)|(apply J.regA (id:=38) (.q 0 <| .q 1 <| .q 2 <| .q 3 <| .q 4 <| .q 5 <| .q 6 <| .q 7 <| .r 8 <| .nil);exact Tryz.mixed;decide +kernel)|(apply G.indexArr (i:=n) (o':=0+n*1);rfl;rfl;rfl;omega;exact addO_eq _ _;rfl;rfl;rfl)|(apply G.ld;rfl;(apply LdV.one;exact CellV.blk (by exact mm) q1);rfl)|(apply G.s1;rfl;rfl;rfl;(repeat (first|exact RAt.head|apply RAt.tail));exact ⟨rfl,rfl⟩;omega;exact q2))<;>(refine goR ?_;and_intros<;>(try exact trivial)<;>repeat (first|refine fun (Bk:Nat)=>?_|intro h)))
   exact J.fin hin
  obtain rfl:j=xtab.length:=by omega
  rw [List.drop_length] at f3
  clear ihj
  have hin:=ih' U ⟨hi,f2,fun y hy=>by dsimp only at hy ⊢;have:=f3 y hy;simp only [sumAt] at this;omega⟩
  clear ih'
  all_goals (refine go ?_;and_intros<;>(try exact trivial)<;>repeat (first|refine fun (Bk:Nat)=>?_|intro h))
  exact J.fin hin
 obtain rfl:i=L2.length:=by omega
 have hT0:T=List.replicate 1001 0:=by
  apply List.ext_getElem
  ·rw [e2,List.length_replicate]
  intro x hx _
  have:=(e3 x hx).1
  rw [List.drop_length,totC] at this
  rw [this,List.getElem_replicate]
 subst hT0
 rw [is_rep]
 have hz:=fun i (hi:i < 1001)=>rep_int (n:=1001) hi
 have l9:(List.replicate 1001 (Value.int .i64 0)).length=1001:=List.length_replicate
 obtain ⟨Z,hZ⟩:∃ Z,List.replicate 1001 (Value.int .i64 0)=Z:=⟨_,rfl⟩
 have hZ':=congrArg List.toArray hZ.symm
 rw [hZ] at l9 hz
 rw [hZ]
 clear hZ
 clear ih e3 e2 ho2 hl2
 all_goals (refine goR ?_;and_intros<;>(try exact trivial)<;>repeat (first|refine fun (Bk:Nat)=>?_|intro h))
 repeat' ((first|(apply G.cV (g:=20);rfl;rfl;exact fun w' _=>sanity16_holds w')|(apply G.ld;rfl;(apply LdV.aggBlk;exact mm;exact l9);rfl)|(apply G.eqY;rfl;rfl;exact hZ';exact hz;rfl))<;>(refine goR ?_;and_intros<;>(try exact trivial)<;>repeat (first|refine fun (Bk:Nat)=>?_|intro h)))
 all_goals refine ret1b Tryz.func6 Tryz.results6 ?_
 all_goals rfl
end Go.Proofs.YtcdgibkbbcekhaaGreatDoor
/-
 How a history reads,with the bound of its length.
-/
namespace Go.Proofs.YtcdgibkbbcekhaaGreatDoor
open Go.RowKit Go.Sl Go.Num Go.ChangeShapes Go.WideShapes
set_option maxRecDepth 100000 in
theorem rIntsM:Reads Tryz.prog 44 (fun s:Sld Int=>[s.v]) (fun w s=>SlAt w s.ad 1 (s.l.map isV)∧s.l.length≤s.cap∧s.cap≤maxLen):=(Reads.slice (sz:=1) Tryz.underlying44 (by kernel_rfl) (by decide) rInt).mono fun _ _ h=>⟨h.1,h.2.1,h.2.2.1⟩
theorem rHistM:Reads Tryz.prog 46 (fun a:Int×Sld Int=>[.int .i64 a.1,a.2.v]) (fun w a=>SlAt w a.2.ad 1 (a.2.l.map isV)∧a.2.l.length≤a.2.cap∧a.2.cap≤maxLen):=(Reads.struct2 (n:=2) Tryz.underlying46 (by kernel_rfl) (by kernel_rfl) rInt rIntsM).turn fun _ a h=>⟨a,rfl,h.2⟩
end Go.Proofs.YtcdgibkbbcekhaaGreatDoor
