/-
  Contracts of the natural numbers: bytes to digits and back (load, Reverse, text, Clean).
-/
import Derived.Test.YtcdgibkbbcekhaaGreatDoorRA4
set_option linter.unusedVariables false
set_option linter.unusedSimpArgs false
set_option linter.unusedSectionVars false
namespace Go.Proofs.YtcdgibkbbcekhaaGreatDoor
open Go.RowKit Go.Sl Go.Num
theorem ret_str {a b:List UInt8} (h:a=b):Ending.returned (.string (bs a))=.returned (.string (bs b)):=by rw [h]
theorem trimByte_holds (l:List UInt8) (w:World) (hl:l.length≤9223372036854775807) :
  Calls Tryz.prog 190 #[.string (bs l),.int .u8 0] w fun e w'=>e=.returned (.string (bs (nB (vB l))))∧Below w.heap.size w w':=by
 rw [← clean_eq]
 refine enterA [(0,.string (bs l)),(1,.int .u8 0)] Tryz.func190 Tryz.ntmps190 ?_
 all_goals (refine go ?_;and_intros<;>(try exact trivial)<;>repeat (first|refine fun (Bk:Nat)=>?_|intro h))
 refine J.loop (c:=_) l (fun s=>s.length) (fun s=>[(0,.string (bs s)),(1,.int .u8 0)]) (fun s=>[]) (fun s=>s.length≤l.length∧s.dropWhile (· == 0)=l.dropWhile (· == 0)) ?_ sbT sbL ?_
 ·exact ⟨Nat.le_refl _,rfl⟩
 intro s ⟨hs,hd⟩ ih
 cases s with
 | nil =>
  have h0:([]:List UInt8).length=0:=rfl
  rw [← hd]
  all_goals (refine go ?_;and_intros<;>(try exact trivial)<;>repeat (first|refine fun (Bk:Nat)=>?_|intro h))
  all_goals refine ret1b Tryz.func190 Tryz.results190 ?_
  all_goals rfl
 | cons x r =>
  have h0:(x::r).length=r.length+1:=rfl
  have hx0:(x::r)[0]=x:=rfl
  by_cases hx:x=0
  ·subst hx
   have hz:(((0:UInt8)).toNat:Int)=0:=rfl
   all_goals (refine go ?_;and_intros<;>(try exact trivial)<;>repeat (first|refine fun (Bk:Nat)=>?_|intro h))
   repeat' ((first|(apply G.sx (i:=0);rfl;rfl;rfl;rfl;rfl)|(apply G.subStrFrom (i:=1);rfl;rfl;rfl;omega;rfl;rfl;rfl))<;>(refine go ?_;and_intros<;>(try exact trivial)<;>repeat (first|refine fun (Bk:Nat)=>?_|intro h)))
   exact J.fin (ih r ⟨by omega,by rw [← hd];simp⟩ (by omega))
  ·have hz:((x.toNat:Nat):Int)≠0:=by
    intro e
    exact hx (UInt8.toNat_inj.1 (by simpa using e))
   have hdx:(x::r).dropWhile (· == 0)=x::r:=by simp [hx]
   rw [hdx] at hd
   rw [← hd]
   all_goals (refine go ?_;and_intros<;>(try exact trivial)<;>repeat (first|refine fun (Bk:Nat)=>?_|intro h))
   repeat' ((first|(apply G.sx (i:=0);rfl;rfl;rfl;rfl;rfl))<;>(refine go ?_;and_intros<;>(try exact trivial)<;>repeat (first|refine fun (Bk:Nat)=>?_|intro h)))
   all_goals refine ret1b Tryz.func190 Tryz.results190 ?_
   all_goals rfl
theorem trimLeft_holds (l:List UInt8) (w:World) (hl:l.length≤9223372036854775807) :
  Calls Tryz.prog 174 #[.string (bs l),.string (bs [0])] w fun e w'=>e=.returned (.string (bs (nB (vB l))))∧Below w.heap.size w w':=by
 refine enterA [(0,.string (bs l)),(1,.string (bs [0]))] Tryz.func174 Tryz.ntmps174 ?_
 have h1:([0]:List UInt8).length=1:=rfl
 have h2:((0:UInt8).toNat:Int)=0:=rfl
 cases l with
 | nil =>
  all_goals (refine go ?_;and_intros<;>(try exact trivial)<;>repeat (first|refine fun (Bk:Nat)=>?_|intro h))
  repeat' ((first|(apply G.eqlStr;rfl;rfl;rfl;rfl;rfl;all_goals intro h;all_goals try (exact absurd rfl h)))<;>(refine go ?_;and_intros<;>(try exact trivial)<;>repeat (first|refine fun (Bk:Nat)=>?_|intro h)))
  all_goals refine ret1b Tryz.func174 Tryz.results174 ?_
  all_goals exact ret_str (by simp [vB,nB_zero])
 | cons x r =>
  have h0:(x::r).length=r.length+1:=rfl
  all_goals (refine go ?_;and_intros<;>(try exact trivial)<;>repeat (first|refine fun (Bk:Nat)=>?_|intro h))
  repeat' ((first|(apply G.eqlStr;rfl;rfl;rfl;rfl;rfl;all_goals intro h;all_goals try (cases h;done))|(apply G.sx (i:=0);rfl;rfl;rfl;rfl;rfl)|(apply G.cV (g:=190);rfl;rfl;exact fun w _=>trimByte_holds (x::r) w hl))<;>(refine go ?_;and_intros<;>(try exact trivial)<;>repeat (first|refine fun (Bk:Nat)=>?_|intro h)))
  all_goals refine ret1b Tryz.func174 Tryz.results174 ?_
  all_goals rfl
theorem clean_holds (l:List UInt8) (w:World) (hl:l.length≤9223372036854775807) :
  Calls Tryz.prog 155 #[.string (bs l)] w fun e w'=>e=.returned (.string (bs (nB (vB l))))∧Below w.heap.size w w':=by
 refine enterA [(0,.string (bs l))] Tryz.func155 Tryz.ntmps155 ?_
 all_goals (refine go ?_;and_intros<;>(try exact trivial)<;>repeat (first|refine fun (Bk:Nat)=>?_|intro h))
 repeat' ((first|(apply G.cV (g:=174) (vs:=[.string (bs l),.string (bs [0])]);rfl;rfl;exact fun w _=>trimLeft_holds l w hl))<;>(refine go ?_;and_intros<;>(try exact trivial)<;>repeat (first|refine fun (Bk:Nat)=>?_|intro h)))
 all_goals refine ret1b Tryz.func155 Tryz.results155 ?_
 all_goals rfl
theorem or8 {a b:Nat} (hb:b < 256) (ha:a < 16777216):IntKind.u32.wrap ((BitVec.ofInt 32 ((a*256:Nat):Int) ||| BitVec.ofInt 32 (b:Int)).toNat:Int)=((a*256+b:Nat):Int):=by
 have h1:(BitVec.ofInt 32 ((a*256:Nat):Int) ||| BitVec.ofInt 32 (b:Int)).toNat=a*256+b:=by
  rw [BitVec.toNat_or,BitVec.ofInt_natCast,BitVec.ofInt_natCast,BitVec.toNat_ofNat,BitVec.toNat_ofNat,Nat.mod_eq_of_lt (by omega),Nat.mod_eq_of_lt (by omega)]
  have:=Nat.two_pow_add_eq_or_of_lt (i:=8) (b:=b) (by simpa using hb) a
  rw [Nat.mul_comm a]
  simpa using this.symm
 rw [h1,wrap_u32]
 omega
theorem vB_take_succ {p:List UInt8}{i:Nat} (h:i < p.length):vB (p.take (i+1))=vB (p.take i)*256+(p[i]).toNat:=by
 rw [List.take_add_one,List.getElem?_eq_getElem h,vB_append]
 simp [vB]
theorem load_holds (l:List UInt8) (w:World) (hl:l.length≤1073741824):Calls Tryz.prog 107 #[.string (bs l)] w (RetL (vB l) w):=by
 refine enterA [(0,.string (bs l))] Tryz.func107 Tryz.ntmps107 ?_
 all_goals (refine go ?_;and_intros<;>(try exact trivial)<;>repeat (first|refine fun (Bk:Nat)=>?_|intro h))
 apply J.nilOwn (E:=193) (size:=1)
 refine J.loop (c:=_) ((0,(l.length:Int),.slice none 0 0,[]):Nat×Int×Value×List Nat) (fun s=>l.length+4-4*s.1) (fun s=>[(0,.string (bs l)),(3,s.2.2.1),(4,.int .i64 s.2.1)]) (fun s=>[.own 0 s.2.2.1 193 1 s.1 (flat lmV s.2.2.2)]) (fun s=>s.2.2.2.length=s.1∧(∀ d∈s.2.2.2,d < B32)∧s.2.1=(l.length:Int)-4*s.1∧vL B32 s.2.2.2+B32 ^ s.1*vB (l.take (l.length-4*s.1))=vB l∧4*s.1≤l.length+3) ?_ sbT sbL ?_
 ·exact ⟨rfl,by simp,by simp,by simp [vL],by simp⟩
 intro ⟨k,z,u,o⟩ ⟨h1,h2,h3,h4,h5⟩ ih
 dsimp only at h1 h2 h3 h4 h5 ⊢
 by_cases hk:4*k < l.length
 ·obtain ⟨s1,s2⟩:=load_step b32_eq l h1 hk h4
  have hmax:max (0:Int) (z-4)=((l.length-4*k-4:Nat):Int):=by omega
  repeat' (first|(apply G.mxE;rfl;rfl;exact hmax;rfl)|(apply G.subStr (i:=l.length-4*k-4) (j:=l.length-4*k);rfl;rfl;rfl;rfl;omega;omega;omega;rfl;rfl;rfl)|(apply G.toBytes (E:=5);rfl;rfl;rfl;rfl;intro Bb cb)|(apply G.pu;rfl;rfl;first|exact trivial|omega)|(apply J.ct;rfl)|(apply G.nil;rfl)|(apply G.cm;rfl;rfl;all_goals intro h;all_goals try (exfalso;omega))|(apply G.fa;rfl;rfl)|(apply G.ld;rfl;(first|(apply LdV.one;(first|exact CellV.row0 (by assumption) rfl|exact CellV.rowS (by assumption) rfl|exact CellV.rowSS (by assumption) rfl|(apply CellV.blk;exact mm;rfl)))|(apply LdV.aggBlk;exact mm;rfl)|(apply LdV.part;exact mm;rfl;rfl)|(apply LdV.aggRow;assumption;rfl)|(apply LdV.partRow;assumption;rfl;rfl));rfl)|(apply G.sk;rfl)|(apply G.ls;rfl;rfl)|(apply G.ix;rfl;rfl;rfl;omega;rfl)|(apply G.ix;rfl;rfl;(first|exact sub_one _|exact add_one' _);omega;rfl)|(apply G.lt;rfl;rfl)|(apply G.bu;rfl;rfl;rfl)|(apply G.fd;rfl;rfl;rfl)|(apply G.cv;rfl;rfl;rfl;omega)|(apply G.beq;rfl;rfl;rfl)|(apply G.bne;rfl;rfl;rfl)|(apply G.mm;rfl;rfl)|(apply G.mf;rfl;rfl)|(apply G.mx;rfl;rfl;rfl)|(apply G.mn;rfl;rfl;rfl)|(apply G.bx;rfl;rfl;rfl;intro Bk)|(apply G.al;rfl;intro Bk)|(apply G.so;rfl;rfl;(repeat (first|exact RAt.head|apply RAt.tail));rfl;rfl)|(apply G.ss;rfl;rfl;(repeat (first|exact RAt.head|apply RAt.tail));rfl;rfl)|(apply J.regQ;exact Tryz.mixed;decide +kernel)|(apply J.regL;exact Tryz.mixed;decide +kernel)|apply J.reg)
  have hpl:((l.drop (l.length-4*k-4)).take (l.length-4*k-(l.length-4*k-4))).length≤4:=by rw [List.length_take];omega
  generalize (l.drop (l.length-4*k-4)).take (l.length-4*k-(l.length-4*k-4))=p at *
  refine J.loop (c:=_) (0:Nat) (fun s=>p.length-s) (fun s=>[(0,.string (bs l)),(3,u),(4,.int .i64 z),(5,.int .u32 (vB (p.take s):Nat)),(20,.slice (some ⟨Bb,0,none⟩) p.length cb),(21,.int .i64 p.length),(22,.int .i64 s)]) (fun s=>[slRow w.heap.size (some ⟨Bb,0,none⟩) 1 (p.map u8V),.own 0 u 193 1 k (flat lmV o)]) (fun s=>s≤p.length) ?_ sbT sbL ?_
  ·exact Nat.zero_le _
  intro i hi ih2
  by_cases hip:i < p.length
  ·have hts:=vB_take_succ hip
   have hlt:vB (p.take i) < 16777216:=by
    have:=vB_lt (p.take i)
    rw [List.length_take,Nat.min_eq_left (by omega)] at this
    have h6:256 ^ i≤256 ^ 3:=Nat.pow_le_pow_right (by decide) (by omega)
    omega
   have hb8:(p[i]).toNat < 256:=(p[i]).toNat_lt
   have hcell:(u8V p[i])[0]?=some (.int .u8 ((p[i]).toNat:Int)):=rfl
   generalize hdg:vB (p.take i)=dg at *
   generalize hbt:(p[i]).toNat=bt at *
   have hsh:IntKind.u32.wrap ((dg:Int)*2 ^ (min 8 IntKind.u32.bits))=((dg*256:Nat):Int):=by
    have e0:(2:Int) ^ (min 8 IntKind.u32.bits)=256:=rfl
    rw [e0,wrap_u32];omega
   have hor:=or8 hb8 hlt
   rw [← hts] at hor
   repeat' (first|(apply G.ld;rfl;(apply LdV.one;exact CellV.sl0 (by exact mm) hip hcell);rfl)|(apply G.shlK (n:=8);rfl;rfl;rfl;exact hsh;rfl;rfl;rfl)|(apply G.orK;rfl;rfl;exact hor;rfl;rfl;rfl)|(apply G.pu;rfl;rfl;first|exact trivial|omega)|(apply J.ct;rfl)|(apply G.nil;rfl)|(apply G.cm;rfl;rfl;all_goals intro h;all_goals try (exfalso;omega))|(apply G.fa;rfl;rfl)|(apply G.ld;rfl;(first|(apply LdV.one;(first|exact CellV.row0 (by assumption) rfl|exact CellV.rowS (by assumption) rfl|exact CellV.rowSS (by assumption) rfl|(apply CellV.blk;exact mm;rfl)))|(apply LdV.aggBlk;exact mm;rfl)|(apply LdV.part;exact mm;rfl;rfl)|(apply LdV.aggRow;assumption;rfl)|(apply LdV.partRow;assumption;rfl;rfl));rfl)|(apply G.sk;rfl)|(apply G.ls;rfl;rfl)|(apply G.ix;rfl;rfl;rfl;omega;rfl)|(apply G.ix;rfl;rfl;(first|exact sub_one _|exact add_one' _);omega;rfl)|(apply G.lt;rfl;rfl)|(apply G.bu;rfl;rfl;rfl)|(apply G.fd;rfl;rfl;rfl)|(apply G.cv;rfl;rfl;rfl;omega)|(apply G.beq;rfl;rfl;rfl)|(apply G.bne;rfl;rfl;rfl)|(apply G.mm;rfl;rfl)|(apply G.mf;rfl;rfl)|(apply G.mx;rfl;rfl;rfl)|(apply G.mn;rfl;rfl;rfl)|(apply G.bx;rfl;rfl;rfl;intro Bk)|(apply G.al;rfl;intro Bk)|(apply G.so;rfl;rfl;(repeat (first|exact RAt.head|apply RAt.tail));rfl;rfl)|(apply G.ss;rfl;rfl;(repeat (first|exact RAt.head|apply RAt.tail));rfl;rfl)|(apply J.regQ;exact Tryz.mixed;decide +kernel)|(apply J.regL;exact Tryz.mixed;decide +kernel)|apply J.reg)
   exact J.fin (ih2 (i+1) (by omega) (by omega))
  ·have hpe:vB (p.take i)=vB p:=by rw [List.take_of_length_le (by omega)]
   rw [hpe]
   all_goals (refine go ?_;and_intros<;>(try exact trivial)<;>repeat (first|refine fun (Bk:Nat)=>?_|intro h))
   repeat' ((first|(apply G.sliceL;rfl;rfl;rfl;rfl;rfl;rfl;rfl;rfl;intro Bs)|(apply G.ap;rfl;rfl;rfl;(repeat (first|exact RAt.head|apply RAt.tail));exact SrcV.blk (by exact mm) rfl rfl;exact flat1 lmV o (vB p);omega;omega;intro v2))<;>(refine go ?_;and_intros<;>(try exact trivial)<;>repeat (first|refine fun (Bk:Nat)=>?_|intro h)))
   exact J.fin (ih (k+1,z-4,v2,o++[vB p]) ⟨by simp [h1],lt_snoc h2 s2,by dsimp only;omega,s1,by dsimp only;omega⟩ (by dsimp only;omega))
 ·have he:=load_end (B:=B32) l (by omega) h4
  subst h1
  apply J.ownForm (i:=0) rfl
  intro a2 c2 hu
  subst hu
  all_goals (refine go ?_;and_intros<;>(try exact trivial)<;>repeat (first|refine fun (Bk:Nat)=>?_|intro h))
  repeat' ((first|(apply G.cV (g:=140);rfl;rfl;exact fun w hw=>trimO_holds hw (by exact mm) (by omega)))<;>(refine go ?_;and_intros<;>(try exact trivial)<;>repeat (first|refine fun (Bk:Nat)=>?_|intro h)))
  (refine ret1 Tryz.func107 Tryz.results107 ?_;intro w' hw)
  exact retL_own hw (by exact mm) h2 he
def bV (d:Nat):List Value:=[.int .u8 (d:Int)]
theorem bV_len (d:Nat):(bV d).length=1:=rfl
theorem bv_get {p:List Nat}{j:Nat} (h:j < p.length):(flat bV p)[0+j*1]?=some (.int .u8 ((p.getD j 0:Nat):Int)):=by
 refine flat_get1 bV_len h ?_
 rw [List.getD_eq_getElem?_getD,List.getElem?_eq_getElem h];rfl
theorem bv_set {p:List Nat}{j d:Nat} (h:j < p.length):setL (flat bV p) (0+j*1) [.int .u8 (d:Int)]=flat bV (p.set j d):=flat_set1 bV_len h rfl
theorem rev_end {l c:List Nat} (hc:c.length=l.length) (h:∀ t,t < l.length→c.getD t 0=l.getD (l.length-1-t) 0):c=l.reverse:=by
 apply List.ext_getElem (by simp [hc])
 intro t h1 h2
 have:=h t (by omega)
 rw [List.getElem_reverse]
 simpa [List.getD_eq_getElem?_getD,List.getElem?_eq_getElem,h1,show l.length-1-t < l.length by omega] using this
theorem rev_holds (w0:World) (M1:List Row) (g E tot c:Nat) (l:List Nat) (w:World) (hl:l.length≤4294967296) (hw:Sat w0 (.blk g E (flat bV l) tot::M1) w) :
  Calls Tryz.prog 136 #[.slice (some ⟨g,0,none⟩) l.length c] w fun e w'=>∃ _:Unit,e=.returned (.tuple #[])∧Sat w0 (.blk g E (flat bV l.reverse) tot::M1) w':=by
 refine enterM [(0,.slice (some ⟨g,0,none⟩) l.length c)] hw Tryz.func136 rfl Tryz.ntmps136 (by simp) (by (repeat' (first|exact trivial|refine ⟨rfl,?_⟩))) ?_
 all_goals (refine go ?_;and_intros<;>(try exact trivial)<;>repeat (first|refine fun (Bk:Nat)=>?_|intro h))
 refine J.loop (c:=_) ((0,(l.length:Int)-1,l):Nat×Int×List Nat) (fun s=>l.length-s.1) (fun s=>[(0,.slice (some ⟨g,0,none⟩) l.length c),(2,.int .i64 s.1),(3,.int .i64 s.2.1)]) (fun s=>.blk g E (flat bV s.2.2) tot::M1) (fun s=>s.2.2.length=l.length∧s.2.1=(l.length:Int)-1-s.1∧s.1≤l.length∧∀ t,t < l.length→s.2.2.getD t 0=if t < s.1∨l.length≤t+s.1 then l.getD (l.length-1-t) 0 else l.getD t 0) ?_ sbT sbL ?_
 ·exact ⟨rfl,by simp,Nat.zero_le _,fun t ht=>by rw [if_neg];dsimp only;omega⟩
 intro ⟨i,z,cu⟩ ⟨h1,h2,h3,h4⟩ ih
 dsimp only at h1 h2 h3 h4 ⊢
 by_cases hij:(i:Int) < z
 ·obtain ⟨j,rfl⟩:∃ j:Nat,z=(j:Int):=⟨z.toNat,by omega⟩
  have gi:=bv_get (p:=cu) (j:=i) (by omega)
  have gj:=bv_get (p:=cu) (j:=j) (by omega)
  have ci:=h4 i (by omega)
  have cj:=h4 j (by omega)
  rw [if_neg (by omega)] at ci cj
  generalize hx:cu.getD i 0=x at *
  generalize hy:cu.getD j 0=y at *
  have si:=bv_set (p:=cu) (j:=i) (d:=y) (by omega)
  have sj:=bv_set (p:=cu.set i y) (j:=j) (d:=x) (by rw [List.length_set];omega)
  have li:(flat bV cu).length=l.length:=by rw [flat_len bV_len,Nat.mul_one,h1]
  have lj:(flat bV (cu.set i y)).length=l.length:=by rw [flat_len bV_len,Nat.mul_one,List.length_set,h1]
  all_goals (refine goR ?_;and_intros<;>(try exact trivial)<;>repeat (first|refine fun (Bk:Nat)=>?_|intro h))
  repeat' ((first|(apply J.regA (.q 0 <| .q 1 <| .q 2 <| .q 3 <| .q 4 <| .q 5 <| .q 6 <| .q 7 <| .q 8 <| .q 9 <| .q 10 <| .q 11 <| .q 12 <| .r 13 <| .q 14 <| .r 15 <| .nil);exact Tryz.mixed;decide +kernel)|(apply G.ld;rfl;(apply LdV.one;(first|exact CellV.blk (by exact mm) gi|exact CellV.blk (by exact mm) gj));rfl)|(apply G.s1;rfl;rfl;rfl;(repeat (first|exact RAt.head|apply RAt.tail));exact ⟨rfl,rfl⟩;omega;exact si)|(apply G.s1;rfl;rfl;rfl;(repeat (first|exact RAt.head|apply RAt.tail));exact ⟨rfl,rfl⟩;omega;exact sj)|(apply J.regQ;exact Tryz.mixed;decide +kernel)|(apply J.regL';exact Tryz.mixed;decide +kernel))<;>(refine goR ?_;and_intros<;>(try exact trivial)<;>repeat (first|refine fun (Bk:Nat)=>?_|intro h)))
  refine J.fin (ih (i+1,(j:Int)-1,(cu.set i y).set j x) ⟨by simp [h1],by dsimp only;omega,by dsimp only;omega,fun t ht=>?_⟩ (by dsimp only;omega))
  have h5:=h4 t ht
  dsimp only
  simp only [List.getD_eq_getElem?_getD] at h5 ⊢
  by_cases hjt:j=t
  ·subst hjt
   rw [List.getElem?_set_self (by rw [List.length_set];omega),if_pos (by omega),Option.getD_some,ci,List.getD_eq_getElem?_getD]
   congr 2;omega
  ·rw [List.getElem?_set_ne hjt]
   by_cases hit:i=t
   ·subst hit
    rw [List.getElem?_set_self (by omega),if_pos (by omega),Option.getD_some,cj,List.getD_eq_getElem?_getD]
    congr 2;omega
   ·rw [List.getElem?_set_ne hit,h5]
    by_cases hc:t < i∨l.length≤t+i
    ·rw [if_pos hc,if_pos (by omega)]
    ·rw [if_neg hc,if_neg (by omega)]
 ·have hce:cu=l.reverse:=rev_end h1 fun t ht=>by
   have:=h4 t ht
   by_cases hc:t < i∨l.length≤t+i
   ·rw [if_pos hc] at this;exact this
   ·rw [if_neg hc] at this
    rw [this];congr 1;omega
  all_goals (refine go ?_;and_intros<;>(try exact trivial)<;>repeat (first|refine fun (Bk:Nat)=>?_|intro h))
  apply leaveEnd Tryz.func136 (RunsTo.zero Tryz.results136)
  intro w' hw'
  exact ⟨(),rfl,by rw [← hce];exact hw'⟩
theorem rev_nil (w:World):Calls Tryz.prog 136 #[.slice none 0 0] w fun e w'=>e=.returned (.tuple #[])∧Below w.heap.size w w':=by
 refine enterA [(0,.slice none 0 0)] Tryz.func136 Tryz.ntmps136 ?_
 all_goals (refine go ?_;and_intros<;>(try exact trivial)<;>repeat (first|refine fun (Bk:Nat)=>?_|intro h))
 refine J.loop (c:=_) () (fun s=>0) (fun s=>[(2,.int .i64 0),(3,.int .i64 (-1))]) (fun s=>[]) (fun s=>True) ?_ sbT sbL ?_
 ·trivial
 intro _ _ ih
 all_goals (refine go ?_;and_intros<;>(try exact trivial)<;>repeat (first|refine fun (Bk:Nat)=>?_|intro h))
 exact leaveEnd Tryz.func136 (RunsTo.zero Tryz.results136) fun w' hw=>⟨rfl,hw.below⟩
theorem shr_n {a n k:Nat}{K:IntKind} (hk:min n K.bits=n) (h:2 ^ n=k):(a:Int).fdiv (2 ^ (min n K.bits))=((a / k:Nat):Int):=by
 subst h
 have e:(2:Int) ^ n=((2 ^ n:Nat):Int):=by simp
 rw [hk,e,Int.fdiv_eq_ediv_of_nonneg _ (Int.natCast_nonneg _),Int.natCast_ediv]
theorem u8_of (s:Nat):IntKind.u8.wrap (s:Int)=((s % 256:Nat):Int):=by rw [wrap_u8];omega
theorem bv_u8:∀ l:List Nat,(∀ d∈l,d < 256)→(l.map UInt8.ofNat).map u8V=l.map bV∧(l.map UInt8.ofNat).map UInt8.toNat=l
 | [],_=>⟨rfl,rfl⟩
 | d::r,h=>by
  obtain ⟨h1,h2⟩:=bv_u8 r fun x hx=>h x (.tail _ hx)
  have h3:(UInt8.ofNat d).toNat=d:=by
   have:=h d (.head _)
   simp [UInt8.toNat_ofNat',Nat.mod_eq_of_lt this]
  simp only [List.map_cons,h1,h2,h3,u8V,bV,and_self]
theorem by4_len:∀ x:List Nat,(x.flatMap by4).length=4*x.length
 | []=>rfl
 | d::r=>by
  have e:(by4 d).length=4:=rfl
  rw [List.flatMap_cons,List.length_append,by4_len r,e,List.length_cons];omega
theorem text_holds (a:Option Addr) (n c:Nat) (w:World) (hl:(dgs B32 n).length≤1073741824) (hA:SlAt w a 1 ((dgs B32 n).map lmV)) :
  Calls Tryz.prog 109 #[.slice a (dgs B32 n).length c] w fun e w'=>e=.returned (.string (bs (nB n)))∧Below w.heap.size w w':=by
 have hx:=dgs_lt (b:=B32) (by decide) n
 have hv:=vL_dgs (b:=B32) (by decide) n
 generalize dgs B32 n=x at *
 refine enterA [(0,.slice a x.length c)] Tryz.func109 Tryz.ntmps109 ?_
 all_goals (refine go ?_;and_intros<;>(try exact trivial)<;>repeat (first|refine fun (Bk:Nat)=>?_|intro h))
 rcases Nat.eq_zero_or_pos x.length with h0|h0
 ·have hx0:x=[]:=List.length_eq_zero_iff.1 h0
  subst hx0
  have hn0:n=0:=hv.symm
  subst hn0
  refine J.loop (c:=_) () (fun s=>0) (fun s=>[(3,.slice none 0 0),(7,.int .i64 0),(8,.int .i64 0)]) (fun s=>[]) (fun s=>True) ?_ sbT sbL ?_
  ·trivial
  intro _ _ ih
  all_goals (refine go ?_;and_intros<;>(try exact trivial)<;>repeat (first|refine fun (Bk:Nat)=>?_|intro h))
  repeat' ((first|(apply G.cV (g:=136);rfl;rfl;exact fun w' _=>rev_nil w')|(apply G.ofBytes (E:=5) (l:=[]);rfl;rfl;exact fun w' hw=>SlAt.nil;rfl;rfl;rfl)|(apply G.cV (g:=155) (vs:=[.string (bs [])]);rfl;rfl;exact fun w' _=>clean_holds [] w' (by decide)))<;>(refine go ?_;and_intros<;>(try exact trivial)<;>repeat (first|refine fun (Bk:Nat)=>?_|intro h)))
  all_goals refine ret1b Tryz.func109 Tryz.results109 ?_
  all_goals exact ret_str (congrArg nB (rfl:vB []=0))
 apply J.nilOwn (E:=5) (size:=1)
 refine J.loop (c:=_) ((0,.slice none 0 0):Nat×Value) (fun s=>x.length-s.1) (fun s=>[(3,s.2),(6,.slice a x.length c),(7,.int .i64 x.length),(8,.int .i64 s.1)]) (fun s=>[.own 0 s.2 5 1 (4*s.1) (flat bV ((x.take s.1).flatMap by4))]) (fun s=>s.1≤x.length) ?_ sbT sbL ?_
 ·exact Nat.zero_le _
 intro ⟨k,u⟩ hk ih
 dsimp only at hk ⊢
 by_cases hlt:k < x.length
 ·obtain ⟨ba,oa,rfl,hrow⟩:=lm_at hA hlt
  have ht:=getD_lt (b:=4294967296) (by decide) hx k
  have hts:(x.take (k+1)).flatMap by4=(x.take k).flatMap by4++by4 (x.getD k 0):=by
   rw [List.take_add_one,List.getElem?_eq_getElem hlt,List.flatMap_append,List.getD_eq_getElem?_getD,List.getElem?_eq_getElem hlt]
   simp
  generalize x.getD k 0=t at *
  have hcs:flat bV ((x.take k).flatMap by4)++[.int .u8 ((t % 256:Nat):Int),.int .u8 ((t / 256 % 256:Nat):Int),.int .u8 ((t / 65536 % 256:Nat):Int),.int .u8 ((t / 16777216 % 256:Nat):Int)]=flat bV ((x.take (k+1)).flatMap by4):=by
   rw [hts,flat_append];rfl
  repeat' (first|(apply G.shrK (n:=8) (k1:=.u32);rfl;rfl;rfl;exact shr_n rfl rfl;rfl;rfl;rfl)|(apply G.shrK (n:=16) (k1:=.u32);rfl;rfl;rfl;exact shr_n rfl rfl;rfl;rfl;rfl)|(apply G.shrK (n:=24) (k1:=.u32);rfl;rfl;rfl;exact shr_n rfl rfl;rfl;rfl;rfl)|(apply G.convK;rfl;exact u8_of _;rfl;rfl;rfl)|(apply G.sliceL;rfl;rfl;rfl;rfl;rfl;rfl;rfl;rfl;intro Bs)|(apply G.ap;rfl;rfl;rfl;(repeat (first|exact RAt.head|apply RAt.tail));exact SrcV.blk (by exact mm) rfl rfl;exact hcs;omega;omega;intro v2)|(apply G.pu;rfl;rfl;first|exact trivial|omega)|(apply J.ct;rfl)|(apply G.nil;rfl)|(apply G.cm;rfl;rfl;all_goals intro h;all_goals try (exfalso;omega))|(apply G.fa;rfl;rfl)|(apply G.ld;rfl;(first|(apply LdV.one;(first|exact CellV.row0 (by assumption) rfl|exact CellV.rowS (by assumption) rfl|exact CellV.rowSS (by assumption) rfl|(apply CellV.blk;exact mm;rfl)))|(apply LdV.aggBlk;exact mm;rfl)|(apply LdV.part;exact mm;rfl;rfl)|(apply LdV.aggRow;assumption;rfl)|(apply LdV.partRow;assumption;rfl;rfl));rfl)|(apply G.sk;rfl)|(apply G.ls;rfl;rfl)|(apply G.ix;rfl;rfl;rfl;omega;rfl)|(apply G.ix;rfl;rfl;(first|exact sub_one _|exact add_one' _);omega;rfl)|(apply G.lt;rfl;rfl)|(apply G.bu;rfl;rfl;rfl)|(apply G.fd;rfl;rfl;rfl)|(apply G.cv;rfl;rfl;rfl;omega)|(apply G.beq;rfl;rfl;rfl)|(apply G.bne;rfl;rfl;rfl)|(apply G.mm;rfl;rfl)|(apply G.mf;rfl;rfl)|(apply G.mx;rfl;rfl;rfl)|(apply G.mn;rfl;rfl;rfl)|(apply G.bx;rfl;rfl;rfl;intro Bk)|(apply G.al;rfl;intro Bk)|(apply G.so;rfl;rfl;(repeat (first|exact RAt.head|apply RAt.tail));rfl;rfl)|(apply G.ss;rfl;rfl;(repeat (first|exact RAt.head|apply RAt.tail));rfl;rfl)|(apply J.regQ;exact Tryz.mixed;decide +kernel)|(apply J.regL;exact Tryz.mixed;decide +kernel)|apply J.reg)
  exact J.fin (ih (k+1,v2) (by dsimp only;omega) (by dsimp only;omega))
 ·have hke:k=x.length:=by omega
  subst hke
  rw [List.take_length]
  have hlen4:=by4_len x
  have hlt4:∀ d∈(x.flatMap by4).reverse,d < 256:=fun d hd=>by
   obtain ⟨y,_,hy⟩:=List.mem_flatMap.1 (List.mem_reverse.1 hd)
   exact by4_lt hy
  obtain ⟨e1,e2⟩:=bv_u8 _ hlt4
  have htx:=text_eq hx e2
  rw [hv,clean_eq] at htx
  have hl8:((x.flatMap by4).reverse.map UInt8.ofNat).length=4*x.length:=by rw [List.length_map,List.length_reverse,hlen4]
  generalize (x.flatMap by4).reverse.map UInt8.ofNat=l8 at *
  apply J.open (i:=0) rfl (by omega)
  intro g cap hcap hu
  subst hu
  have hrv:=fun (w':World) (M1:List Row) (tot:Nat) (hw:Sat w (.blk g 5 (flat bV (x.flatMap by4)) tot::M1) w')=>rev_holds w M1 g 5 tot cap (x.flatMap by4) w' (by omega) hw
  rw [hlen4] at hrv
  simp only [List.set_cons_zero]
  all_goals (refine go ?_;and_intros<;>(try exact trivial)<;>repeat (first|refine fun (Bk:Nat)=>?_|intro h))
  repeat' ((first|(apply G.cM (g:=136) (X:=Unit) (fun _=>.tuple #[]) (fun _=>[.blk g 5 (flat bV (x.flatMap by4).reverse) (cap*1)]);rfl;rfl;exact fun w' hw=>hrv w' [] _ hw;intro _)|(apply G.ofBytes (E:=5) (l:=l8);rfl;exact hl8;exact fun w' hw=>(e1 ▸ SlAt.ofBlk bV_len hw (.head _));rfl;rfl;rfl)|(apply G.cV (g:=155) (vs:=[.string (bs l8)]);rfl;rfl;exact fun w' _=>clean_holds l8 w' (by omega)))<;>(refine go ?_;and_intros<;>(try exact trivial)<;>repeat (first|refine fun (Bk:Nat)=>?_|intro h)))
  all_goals refine ret1b Tryz.func109 Tryz.results109 ?_
  all_goals exact ret_str htx
end Go.Proofs.YtcdgibkbbcekhaaGreatDoor
/-
 Contracts of the natural numbers as bytes: Valid,Int,Cmp,Add,Sub,Mul,DivMod,Gcd.
-/
namespace Go.Proofs.YtcdgibkbbcekhaaGreatDoor
open Go.RowKit Go.Sl Go.Num
theorem vB_dgs {l:List UInt8} (h:l.length≤536870912):(dgs B32 (vB l)).length≤134217728:=by
 refine Nat.le_trans (dgs_bound (by decide) ((l.length+3) / 4) _ ?_) (by omega)
 refine Nat.lt_of_lt_of_le (vB_lt l) ?_
 rw [← b32_eq,← Nat.pow_mul]
 exact Nat.pow_le_pow_right (by decide) (by omega)
theorem dgs_add {m n k:Nat} (h1:(dgs B32 m).length≤k) (h2:(dgs B32 n).length≤k):(dgs B32 (m+n)).length≤k+1:=by
 refine dgs_bound (by decide) _ _ ?_
 have a1:=vL_lt (b:=B32) (by decide) _ (dgs_lt (b:=B32) (by decide) m)
 have a2:=vL_lt (b:=B32) (by decide) _ (dgs_lt (b:=B32) (by decide) n)
 rw [vL_dgs (by decide)] at a1 a2
 have b1:B32 ^ (dgs B32 m).length≤B32 ^ k:=Nat.pow_le_pow_right (by decide) h1
 have b2:B32 ^ (dgs B32 n).length≤B32 ^ k:=Nat.pow_le_pow_right (by decide) h2
 rw [Nat.pow_succ]
 have:B32 ^ k*2≤B32 ^ k*B32:=Nat.mul_le_mul_left _ (by decide)
 omega
theorem dgs_mul {m n k l:Nat} (h1:(dgs B32 m).length≤k) (h2:(dgs B32 n).length≤l):(dgs B32 (m*n)).length≤k+l:=by
 refine dgs_bound (by decide) _ _ ?_
 have a1:=vL_lt (b:=B32) (by decide) _ (dgs_lt (b:=B32) (by decide) m)
 have a2:=vL_lt (b:=B32) (by decide) _ (dgs_lt (b:=B32) (by decide) n)
 rw [vL_dgs (by decide)] at a1 a2
 rw [Nat.pow_add]
 exact Nat.mul_lt_mul'' (Nat.lt_of_lt_of_le a1 (Nat.pow_le_pow_right (by decide) h1)) (Nat.lt_of_lt_of_le a2 (Nat.pow_le_pow_right (by decide) h2))
theorem natAdd_holds (a b:List UInt8) (w:World) (ha:a.length≤536870912) (hb:b.length≤536870912) :
  Calls Tryz.prog 133 #[.string (bs a),.string (bs b)] w fun e w'=>e=.returned (.string (bs (nB (vB a+vB b))))∧Below w.heap.size w w':=by
 have hla:=vB_dgs ha
 have hlb:=vB_dgs hb
 have hlc:=dgs_add hla hlb
 refine enterA [(0,.string (bs a)),(1,.string (bs b))] Tryz.func133 Tryz.ntmps133 ?_
 all_goals (refine go ?_;and_intros<;>(try exact trivial)<;>repeat (first|refine fun (Bk:Nat)=>?_|intro h))
 repeat' ((first|(apply G.cN (g:=107) (vs:=[.string (bs a)]) (fun a' c'=>.slice a' (dgs B32 (vB a)).length c') ((dgs B32 (vB a)).map lmV);rfl;rfl;exact fun w' _=>load_holds a w' (by omega);intro a1 c1 hp1 hq1)|(apply G.cN (g:=107) (vs:=[.string (bs b)]) (fun a' c'=>.slice a' (dgs B32 (vB b)).length c') ((dgs B32 (vB b)).map lmV);rfl;rfl;exact fun w' _=>load_holds b w' (by omega);intro a2 c2 hp2 hq2)|(apply G.cN (g:=168) (fun a' c'=>.slice a' (dgs B32 (vB a+vB b)).length c') ((dgs B32 (vB a+vB b)).map lmV);rfl;rfl;exact fun w' hw=>plus_holds _ _ _ _ _ _ w' (by omega) (by omega) (hw.sl (by exact mm)) (hw.sl (by exact mm));intro a3 c3 hp3 hq3)|(apply G.cV (g:=109);rfl;rfl;exact fun w' hw=>text_holds _ _ _ w' (by omega) (hw.sl (by exact mm))))<;>(refine go ?_;and_intros<;>(try exact trivial)<;>repeat (first|refine fun (Bk:Nat)=>?_|intro h)))
 all_goals refine ret1b Tryz.func133 Tryz.results133 ?_
 all_goals rfl
theorem natMul_holds (a b:List UInt8) (w:World) (ha:a.length≤536870912) (hb:b.length≤536870912) :
  Calls Tryz.prog 43 #[.string (bs a),.string (bs b)] w fun e w'=>e=.returned (.string (bs (nB (vB a*vB b))))∧Below w.heap.size w w':=by
 have hla:=vB_dgs ha
 have hlb:=vB_dgs hb
 have hlc:=dgs_mul hla hlb
 refine enterA [(0,.string (bs a)),(1,.string (bs b))] Tryz.func43 Tryz.ntmps43 ?_
 all_goals (refine go ?_;and_intros<;>(try exact trivial)<;>repeat (first|refine fun (Bk:Nat)=>?_|intro h))
 repeat' ((first|(apply G.cN (g:=107) (vs:=[.string (bs a)]) (fun a' c'=>.slice a' (dgs B32 (vB a)).length c') ((dgs B32 (vB a)).map lmV);rfl;rfl;exact fun w' _=>load_holds a w' (by omega);intro a1 c1 hp1 hq1)|(apply G.cN (g:=107) (vs:=[.string (bs b)]) (fun a' c'=>.slice a' (dgs B32 (vB b)).length c') ((dgs B32 (vB b)).map lmV);rfl;rfl;exact fun w' _=>load_holds b w' (by omega);intro a2 c2 hp2 hq2)|(apply G.cN (g:=108) (fun a' c'=>.slice a' (dgs B32 (vB a*vB b)).length c') ((dgs B32 (vB a*vB b)).map lmV);rfl;rfl;exact fun w' hw=>times_holds _ _ _ _ _ _ w' (by omega) (by omega) (hw.sl (by exact mm)) (hw.sl (by exact mm));intro a3 c3 hp3 hq3)|(apply G.cV (g:=109);rfl;rfl;exact fun w' hw=>text_holds _ _ _ w' (by omega) (hw.sl (by exact mm))))<;>(refine go ?_;and_intros<;>(try exact trivial)<;>repeat (first|refine fun (Bk:Nat)=>?_|intro h)))
 all_goals refine ret1b Tryz.func43 Tryz.results43 ?_
 all_goals rfl
theorem by_any (a:Option Addr) (m c:Nat) (b:Option Addr) (n d:Nat) (w:World) (hl:(dgs B32 m).length≤268435456) (hA:SlAt w a 1 ((dgs B32 m).map lmV)) (hB:SlAt w b 1 ((dgs B32 n).map lmV)) (hge:n≤m) (hn:n≠0) :
  Calls Tryz.prog 118 #[.slice a (dgs B32 m).length c,.slice b (dgs B32 n).length d] w (RetLL (m / n) (m % n) w):=by
 have h0:(dgs B32 n).length≠0:=by rw [dgs_pos (by decide) hn];simp
 rcases Nat.lt_or_ge (dgs B32 n).length 2 with h|h
 ·exact by_one a m c b n d w (by omega) hA hB hge (by omega)
 ·exact by_ge a m c b n d w hl hA hB hge h
theorem natDivMod_holds (a b:List UInt8) (w:World) (ha:a.length≤536870912) (hb:b.length≤536870912) (hn:vB b≠0) :
  Calls Tryz.prog 85 #[.string (bs a),.string (bs b)] w fun e w'=>e=.returned (.tuple #[.string (bs (nB (vB a / vB b))),.string (bs (nB (vB a % vB b))),.int .i64 0])∧Below w.heap.size w w':=by
 have hla:=vB_dgs ha
 have hlb:=vB_dgs hb
 have hlc:=dgs_len_mono (b:=B32) (by decide) (Nat.div_le_self (vB a) (vB b))
 have hld:=dgs_len_mono (b:=B32) (by decide) (Nat.mod_le (vB a) (vB b))
 have hn1:(dgs B32 (vB b)).length≠0:=by rw [dgs_pos (by decide) hn];simp
 rcases Nat.lt_or_ge (vB a) (vB b) with hlt|hge
 ·rw [Nat.mod_eq_of_lt hlt,Nat.div_eq_of_lt hlt] at *
  have hz:(dgs B32 0).length=0:=by rw [dgs_zero];rfl
  refine enterA [(0,.string (bs a)),(1,.string (bs b))] Tryz.func85 Tryz.ntmps85 ?_
  all_goals (refine go ?_;and_intros<;>(try exact trivial)<;>repeat (first|refine fun (Bk:Nat)=>?_|intro h))
  repeat' ((first|(apply G.cN (g:=107) (vs:=[.string (bs a)]) (fun a' c'=>.slice a' (dgs B32 (vB a)).length c') ((dgs B32 (vB a)).map lmV);rfl;rfl;exact fun w' _=>load_holds a w' (by omega);intro a1 c1 hp1 hq1)|(apply G.cN (g:=107) (vs:=[.string (bs b)]) (fun a' c'=>.slice a' (dgs B32 (vB b)).length c') ((dgs B32 (vB b)).map lmV);rfl;rfl;exact fun w' _=>load_holds b w' (by omega);intro a2 c2 hp2 hq2)|(apply G.cV (g:=118);rfl;rfl;exact fun w' hw=>by_lt _ _ _ _ _ _ w' (by omega) (by omega) (hw.sl (by exact mm)) (hw.sl (by exact mm)) hlt)|(apply G.cV (g:=109) (vs:=[.slice none 0 0]) (v:=.string (bs (nB 0)));rfl;rfl;exact fun w' hw=>(by have h:=text_holds none 0 0 w' (by omega) (by rw [dgs_zero];exact SlAt.nil);rw [hz] at h;exact h))|(apply G.cV (g:=109);rfl;rfl;exact fun w' hw=>text_holds _ _ _ w' (by omega) (hw.sl (by exact mm))))<;>(refine go ?_;and_intros<;>(try exact trivial)<;>repeat (first|refine fun (Bk:Nat)=>?_|intro h)))
  all_goals refine ret3b Tryz.func85 Tryz.results85 ?_
  all_goals rfl
 ·skip
  refine enterA [(0,.string (bs a)),(1,.string (bs b))] Tryz.func85 Tryz.ntmps85 ?_
  all_goals (refine go ?_;and_intros<;>(try exact trivial)<;>repeat (first|refine fun (Bk:Nat)=>?_|intro h))
  repeat' ((first|(apply G.cN (g:=107) (vs:=[.string (bs a)]) (fun a' c'=>.slice a' (dgs B32 (vB a)).length c') ((dgs B32 (vB a)).map lmV);rfl;rfl;exact fun w' _=>load_holds a w' (by omega);intro a1 c1 hp1 hq1)|(apply G.cN (g:=107) (vs:=[.string (bs b)]) (fun a' c'=>.slice a' (dgs B32 (vB b)).length c') ((dgs B32 (vB b)).map lmV);rfl;rfl;exact fun w' _=>load_holds b w' (by omega);intro a2 c2 hp2 hq2)|(apply G.cN2 (g:=118) (fun x1 c1 x2 c2=>.tuple #[.slice x1 (dgs B32 (vB a / vB b)).length c1,.slice x2 (dgs B32 (vB a % vB b)).length c2]) ((dgs B32 (vB a / vB b)).map lmV) ((dgs B32 (vB a % vB b)).map lmV);rfl;rfl;exact fun w' hw=>by_any _ _ _ _ _ _ w' (by omega) (hw.sl (by exact mm)) (hw.sl (by exact mm)) hge hn;intro a3 c3 a4 c4 hp3 hp4 hq3 hq4)|(apply G.cV (g:=109);rfl;rfl;exact fun w' hw=>text_holds _ _ _ w' (by omega) (hw.sl (by exact mm))))<;>(refine go ?_;and_intros<;>(try exact trivial)<;>repeat (first|refine fun (Bk:Nat)=>?_|intro h)))
  all_goals refine ret3b Tryz.func85 Tryz.results85 ?_
  all_goals rfl
end Go.Proofs.YtcdgibkbbcekhaaGreatDoor
/-
 Contracts of the natural numbers as bytes: Gcd,Int.
-/
namespace Go.Proofs.YtcdgibkbbcekhaaGreatDoor
open Go.RowKit Go.Sl Go.Num
theorem dgs_pos_len {n:Nat} (h:n≠0):0 < (dgs B32 n).length:=by rw [dgs_pos (by decide) h];simp
theorem div_b32 {n:Nat} (h:n < 9223372036854775808):n / B32 < B32:=by show n / 4294967296 < 4294967296;omega
theorem natInt_holds (n:Nat) (w:World) (h:n < 9223372036854775808):Calls Tryz.prog 84 #[.int .i64 n] w fun e w'=>e=.returned (.tuple #[.string (bs (nB n)),.int .i64 0])∧Below w.heap.size w w':=by
 have ht:trimL [n % B32,n / B32]=dgs B32 n:=by
  rw [trimL_eq (b:=B32) (by decide) [n % B32,n / B32] (fun d hd=>?_)]
  ·congr 1;simp only [vL];rw [Nat.mul_zero,Nat.add_zero];exact Nat.mod_add_div n B32
  ·simp only [List.mem_cons,List.not_mem_nil,or_false] at hd
   rcases hd with rfl|rfl
   ·exact Nat.mod_lt _ (by decide)
   ·exact div_b32 h
 have hl:(dgs B32 n).length≤2:=by rw [← ht];exact trimL_le _
 have hs:(n:Int).fdiv (2 ^ (min 32 IntKind.i64.bits))=((n / B32:Nat):Int):=shr_n rfl rfl
 have c1:IntKind.u32.wrap (n:Int)=((n % B32:Nat):Int):=u32_of n
 have c2:IntKind.u32.wrap ((n / B32:Nat):Int)=((n / B32:Nat):Int):=by rw [u32_of];congr 1;exact Nat.mod_eq_of_lt (div_b32 h)
 generalize n / B32=nh at *
 generalize n % B32=nl at *
 refine enterA [(0,.int .i64 n)] Tryz.func84 Tryz.ntmps84 ?_
 repeat' (first|(apply G.shrK (n:=32);rfl;rfl;rfl;exact hs;rfl;rfl;rfl)|(apply G.convK;rfl;exact c1;rfl;rfl;rfl)|(apply G.convK;rfl;exact c2;rfl;rfl;rfl)|(apply G.sliceL;rfl;rfl;rfl;rfl;rfl;rfl;rfl;rfl;intro Bs)|(apply G.cV (g:=140);rfl;rfl;exact fun w' hw=>trimD_holds (l:=[nl,nh]) hw (by exact mm) rfl ht (by decide) (by decide))|(apply G.cV (g:=109);rfl;rfl;exact fun w' hw=>text_holds _ n _ w' (by omega) (sl_blk (l:=[nl,nh]) hw (by exact mm) ht))|(apply G.pu;rfl;rfl;first|exact trivial|omega)|(apply J.ct;rfl)|(apply G.nil;rfl)|(apply G.cm;rfl;rfl;all_goals intro h;all_goals try (exfalso;omega))|(apply G.fa;rfl;rfl)|(apply G.ld;rfl;(first|(apply LdV.one;(first|exact CellV.row0 (by assumption) rfl|exact CellV.rowS (by assumption) rfl|exact CellV.rowSS (by assumption) rfl|(apply CellV.blk;exact mm;rfl)))|(apply LdV.aggBlk;exact mm;rfl)|(apply LdV.part;exact mm;rfl;rfl)|(apply LdV.aggRow;assumption;rfl)|(apply LdV.partRow;assumption;rfl;rfl));rfl)|(apply G.sk;rfl)|(apply G.ls;rfl;rfl)|(apply G.ix;rfl;rfl;rfl;omega;rfl)|(apply G.ix;rfl;rfl;(first|exact sub_one _|exact add_one' _);omega;rfl)|(apply G.lt;rfl;rfl)|(apply G.bu;rfl;rfl;rfl)|(apply G.fd;rfl;rfl;rfl)|(apply G.cv;rfl;rfl;rfl;omega)|(apply G.beq;rfl;rfl;rfl)|(apply G.bne;rfl;rfl;rfl)|(apply G.mm;rfl;rfl)|(apply G.mf;rfl;rfl)|(apply G.mx;rfl;rfl;rfl)|(apply G.mn;rfl;rfl;rfl)|(apply G.bx;rfl;rfl;rfl;intro Bk)|(apply G.al;rfl;intro Bk)|(apply G.so;rfl;rfl;(repeat (first|exact RAt.head|apply RAt.tail));rfl;rfl)|(apply G.ss;rfl;rfl;(repeat (first|exact RAt.head|apply RAt.tail));rfl;rfl)|(apply J.regQ;exact Tryz.mixed;decide +kernel)|(apply J.regL;exact Tryz.mixed;decide +kernel)|apply J.reg)
 all_goals refine ret2b Tryz.func84 Tryz.results84 ?_
 all_goals rfl
end Go.Proofs.YtcdgibkbbcekhaaGreatDoor
