/-
  Contracts of the specification of natural numbers: Clean, Valid, digit, number, Cmp, Add, Sub, Mul.
-/
import Derived.Test.YtcdgibkbbcekhaaGreatDoorRA5
set_option linter.unusedVariables false
set_option linter.unusedSimpArgs false
set_option linter.unusedSectionVars false
namespace Go.Proofs.YtcdgibkbbcekhaaGreatDoor
open Go.RowKit Go.Sl Go.Num
theorem rClean_holds (l:List UInt8) (w:World) (hl:l.length≤1073741824) :
  Calls Tryz.prog 144 #[.string (bs l)] w fun e w'=>e=.returned (.string (bs (nB (vB l))))∧Below w.heap.size w w':=by
 rw [← clean_eq]
 refine enterA [(0,.string (bs l))] Tryz.func144 Tryz.ntmps144 ?_
 all_goals (refine go ?_;and_intros<;>(try exact trivial)<;>repeat (first|refine fun (Bk:Nat)=>?_|intro h))
 refine J.loop (c:=_) (0:Nat) (fun s=>l.length-s) (fun s=>[(0,.string (bs l)),(3,.int .i64 s)]) (fun s=>[]) (fun s=>s≤l.length∧(l.drop s).dropWhile (· == 0)=l.dropWhile (· == 0)) ?_ sbT sbL ?_
 ·exact ⟨Nat.zero_le _,rfl⟩
 intro k ⟨hk,hd⟩ ih
 by_cases hlt:k < l.length
 ·have hdr:l.drop k=l[k]::l.drop (k+1):=List.drop_eq_getElem_cons hlt
  have hg:l[k]?=some l[k]:=List.getElem?_eq_getElem hlt
  rw [hdr] at hd
  generalize l[k]=x at *
  by_cases hx:x=0
  ·subst hx
   have hz:(((0:UInt8)).toNat:Int)=0:=rfl
   all_goals (refine go ?_;and_intros<;>(try exact trivial)<;>repeat (first|refine fun (Bk:Nat)=>?_|intro h))
   repeat' ((first|(apply G.sx (i:=k);rfl;rfl;rfl;exact hg;rfl))<;>(refine go ?_;and_intros<;>(try exact trivial)<;>repeat (first|refine fun (Bk:Nat)=>?_|intro h)))
   exact J.fin (ih (k+1) ⟨by omega,by rw [← hd];simp⟩ (by omega))
  ·have hz:((x.toNat:Nat):Int)≠0:=fun e=>hx (UInt8.toNat_inj.1 (by simpa using e))
   have hdx:(x::l.drop (k+1)).dropWhile (· == 0)=x::l.drop (k+1):=by simp [hx]
   rw [hdx] at hd
   rw [← hd,← hdr]
   all_goals (refine go ?_;and_intros<;>(try exact trivial)<;>repeat (first|refine fun (Bk:Nat)=>?_|intro h))
   repeat' ((first|(apply G.sx (i:=k);rfl;rfl;rfl;exact hg;rfl)|(apply G.subStrFrom (i:=k);rfl;rfl;rfl;omega;rfl;rfl;rfl))<;>(refine go ?_;and_intros<;>(try exact trivial)<;>repeat (first|refine fun (Bk:Nat)=>?_|intro h)))
   all_goals refine ret1b Tryz.func144 Tryz.results144 ?_
   all_goals rfl
 ·have hke:k=l.length:=by omega
  subst hke
  rw [List.drop_length] at hd
  rw [← hd]
  have hdl:l.drop l.length=[]:=List.drop_length
  all_goals (refine go ?_;and_intros<;>(try exact trivial)<;>repeat (first|refine fun (Bk:Nat)=>?_|intro h))
  repeat' ((first|(apply G.subStrFrom (i:=l.length);rfl;rfl;rfl;omega;rfl;rfl;rfl))<;>(refine go ?_;and_intros<;>(try exact trivial)<;>repeat (first|refine fun (Bk:Nat)=>?_|intro h)))
  all_goals refine ret1b Tryz.func144 Tryz.results144 ?_
  all_goals exact ret_str hdl
def dB (l:List UInt8):List Nat:=l.reverse.map UInt8.toNat
theorem dB_len (l:List UInt8):(dB l).length=l.length:=by simp [dB]
theorem dB_lt (l:List UInt8):∀ d∈dB l,d < 256:=fun d hd=>by
 obtain ⟨y,_,rfl⟩:=List.mem_map.1 hd
 exact y.toNat_lt
theorem dB_vL (l:List UInt8):vL 256 (dB l)=vB l:=(vB_rev l).symm
theorem digit_holds (l:List UInt8) (k:Nat) (w:World) (hl:l.length≤1073741824) :
  Calls Tryz.prog 142 #[.string (bs l),.int .i64 k] w fun e w'=>e=.returned (.int .i64 (((dB l).getD k 0:Nat):Int))∧Below w.heap.size w w':=by
 refine enterA [(0,.string (bs l)),(1,.int .i64 k)] Tryz.func142 Tryz.ntmps142 ?_
 by_cases hk:k < l.length
 ·have hg:l[l.length-1-k]?=some l[l.length-1-k]:=List.getElem?_eq_getElem (by omega)
  have hd:(dB l).getD k 0=(l[l.length-1-k]).toNat:=by
   rw [dB,List.getD_eq_getElem?_getD,List.getElem?_map,List.getElem?_reverse hk,hg];rfl
  have hb:=(l[l.length-1-k]).toNat_lt
  rw [hd]
  generalize l[l.length-1-k]=x at *
  all_goals (refine go ?_;and_intros<;>(try exact trivial)<;>repeat (first|refine fun (Bk:Nat)=>?_|intro h))
  repeat' ((first|(apply G.sx (i:=l.length-1-k);rfl;rfl;omega;exact hg;rfl))<;>(refine go ?_;and_intros<;>(try exact trivial)<;>repeat (first|refine fun (Bk:Nat)=>?_|intro h)))
  all_goals refine ret1b Tryz.func142 Tryz.results142 ?_
  all_goals rfl
 ·have hd:(dB l).getD k 0=0:=by
   rw [List.getD_eq_getElem?_getD,List.getElem?_eq_none (by rw [dB_len];omega)];rfl
  rw [hd]
  all_goals (refine go ?_;and_intros<;>(try exact trivial)<;>repeat (first|refine fun (Bk:Nat)=>?_|intro h))
  all_goals refine ret1b Tryz.func142 Tryz.results142 ?_
  all_goals rfl
end Go.Proofs.YtcdgibkbbcekhaaGreatDoor
/-
 Contracts of the specification of natural numbers: number,Cmp,Add,Sub,Mul.
-/
namespace Go.Proofs.YtcdgibkbbcekhaaGreatDoor
open Go.RowKit Go.Sl Go.Num
def iV (d:Nat):List Value:=[.int .i64 (d:Int)]
theorem iV_len (d:Nat):(iV d).length=1:=rfl
theorem iv_at {w:World}{a:Option Addr}{x:List Nat}{k:Nat} (hA:SlAt w a 1 (x.map iV)) (hk:k < x.length):∃ b off,a=some ⟨b,off,none⟩∧RowAt w b (off+k*1) [.int .i64 ((x.getD k 0:Nat):Int)]:=by
 obtain ⟨b,off,h1,h2⟩:=hA.at k hk
 refine ⟨b,off,h1,?_⟩
 rw [List.getD_eq_getElem?_getD,List.getElem?_eq_getElem hk]
 exact h2
theorem iv_get {p:List Nat}{j:Nat} (h:j < p.length):(flat iV p)[0+j*1]?=some (.int .i64 ((p.getD j 0:Nat):Int)):=by
 refine flat_get1 iV_len h ?_
 rw [List.getD_eq_getElem?_getD,List.getElem?_eq_getElem h];rfl
theorem iv_set {p:List Nat}{j d:Nat} (h:j < p.length):setL (flat iV p) (0+j*1) [.int .i64 (d:Int)]=flat iV (p.set j d):=flat_set1 iV_len h rfl
theorem bytes_end {l:List Nat} (h:∀ d∈l,d < 256):(l.reverse.map UInt8.ofNat).map u8V=l.reverse.map bV∧vB (l.reverse.map UInt8.ofNat)=vL 256 l:=by
 obtain ⟨e1,e2⟩:=bv_u8 l.reverse fun d hd=>h d (List.mem_reverse.1 hd)
 refine ⟨e1,?_⟩
 rw [vB_rev,List.map_reverse,e2,List.reverse_reverse]
theorem number_holds (a:Option Addr) (l:List Nat) (c:Nat) (w:World) (hl:l.length≤1073741824) (hd:∀ d∈l,d < 256) (hA:SlAt w a 1 (l.map iV)) :
  Calls Tryz.prog 143 #[.slice a l.length c] w fun e w'=>e=.returned (.string (bs (nB (vL 256 l))))∧Below w.heap.size w w':=by
 refine enterA [(0,.slice a l.length c)] Tryz.func143 Tryz.ntmps143 ?_
 all_goals (refine go ?_;and_intros<;>(try exact trivial)<;>repeat (first|refine fun (Bk:Nat)=>?_|intro h))
 apply J.nilOwn (E:=5) (size:=1)
 refine J.loop (c:=_) ((l.length,0,(l.length:Int)-1,.slice none 0 0,[]):Nat×Nat×Int×Value×List Nat) (fun s=>s.1) (fun s=>[(0,.slice a l.length c),(3,s.2.2.2.1),(4,.int .i64 s.2.2.1)]) (fun s=>[.own 0 s.2.2.2.1 5 1 s.2.1 (flat bV s.2.2.2.2)]) (fun s=>s.1+s.2.1=l.length∧s.2.2.1=(s.1:Int)-1∧s.2.2.2.2=(l.drop s.1).reverse) ?_ sbT sbL ?_
 ·exact ⟨rfl,rfl,by simp⟩
 intro ⟨i,j,z,u,o⟩ ⟨h1,h2,h3⟩ ih
 dsimp only at h1 h2 h3 ⊢
 subst h3
 rcases Nat.eq_zero_or_pos i with rfl|h0
 ·apply J.ownForm (i:=0) rfl
  intro a2 c2 hu
  subst hu
  obtain ⟨e1,e2⟩:=bytes_end hd
  have e3:(l.reverse.map UInt8.ofNat).length=j:=by simp;omega
  rw [List.drop_zero]
  have hlr:l.reverse.length=j:=by simp;omega
  rw [← e2]
  generalize l.reverse.map UInt8.ofNat=l8 at *
  all_goals (refine go ?_;and_intros<;>(try exact trivial)<;>repeat (first|refine fun (Bk:Nat)=>?_|intro h))
  repeat' ((first|(apply G.ofBytes (E:=5) (l:=l8);rfl;exact e3;exact fun w' hw=>(e1 ▸ SlAt.ofOwn bV_len (hw.hold _ (.head _)) hlr);rfl;rfl;rfl)|(apply G.cV (g:=144) (vs:=[.string (bs l8)]);rfl;rfl;exact fun w' _=>rClean_holds l8 w' (by omega)))<;>(refine go ?_;and_intros<;>(try exact trivial)<;>repeat (first|refine fun (Bk:Nat)=>?_|intro h)))
  all_goals refine ret1b Tryz.func143 Tryz.results143 ?_
  all_goals rfl
 ·obtain ⟨k,rfl⟩:∃ k,i=k+1:=⟨i-1,by omega⟩
  have hz:z=(k:Int):=by omega
  subst hz
  obtain ⟨ba,oa,rfl,hrow⟩:=iv_at hA (k:=k) (by omega)
  have hg:=getD_lt (by decide) hd k
  have hdr:(l.drop k).reverse=(l.drop (k+1)).reverse++[l.getD k 0]:=by
   rw [List.drop_eq_getElem_cons (show k < l.length by omega),List.reverse_cons,List.getD_eq_getElem?_getD,List.getElem?_eq_getElem (show k < l.length by omega)];rfl
  generalize l.getD k 0=t at *
  all_goals (refine go ?_;and_intros<;>(try exact trivial)<;>repeat (first|refine fun (Bk:Nat)=>?_|intro h))
  repeat' ((first|(apply G.sliceL;rfl;rfl;rfl;rfl;rfl;rfl;rfl;rfl;intro Bs)|(apply G.ap;rfl;rfl;rfl;(repeat (first|exact RAt.head|apply RAt.tail));exact SrcV.blk (by exact mm) rfl rfl;exact flat1 bV _ t;omega;omega;intro v2))<;>(refine go ?_;and_intros<;>(try exact trivial)<;>repeat (first|refine fun (Bk:Nat)=>?_|intro h)))
  exact J.fin (ih (k,j+1,(k:Int)-1,v2,(l.drop (k+1)).reverse++[t]) ⟨by dsimp only;omega,rfl,hdr.symm⟩ (by dsimp only;omega))
theorem vB_cons (x:UInt8) (r:List UInt8):vB (x::r)=x.toNat*256 ^ r.length+vB r:=by
 have:=vB_append [x] r
 rw [List.singleton_append] at this
 rw [this];simp [vB]
theorem less_iff:∀ {a b:List UInt8},a.length=b.length→(Op.bytesLess a b=true ↔ vB a < vB b)
 | [],[],_=>by simp [Op.bytesLess]
 | x::r,y::s,h=>by
  have hl:r.length=s.length:=by simpa using h
  have ih:=less_iff hl
  have h1:=vB_lt r
  have h2:=vB_lt s
  rw [hl] at h1
  rw [vB_cons,vB_cons,hl,Op.bytesLess]
  simp only [Bool.or_eq_true,decide_eq_true_eq,Bool.and_eq_true,beq_iff_eq,ih]
  rcases Nat.lt_trichotomy x.toNat y.toNat with hlt|heq|hgt
  ·have h3:(x.toNat+1)*256 ^ s.length≤y.toNat*256 ^ s.length:=Nat.mul_le_mul_right _ hlt
   rw [Nat.add_mul,Nat.one_mul] at h3
   have h4:x < y:=UInt8.lt_iff_toNat_lt.2 hlt
   exact ⟨fun _=>by omega,fun _=>.inl h4⟩
  ·have:x=y:=UInt8.toNat_inj.1 heq
   subst this
   constructor
   ·rintro (h3|⟨_,h3⟩)
    ·exact absurd (UInt8.lt_iff_toNat_lt.1 h3) (Nat.lt_irrefl _)
    ·omega
   ·intro h3
    exact .inr ⟨rfl,by omega⟩
  ·have h3:(y.toNat+1)*256 ^ s.length≤x.toNat*256 ^ s.length:=Nat.mul_le_mul_right _ hgt
   rw [Nat.add_mul,Nat.one_mul] at h3
   constructor
   ·rintro (h4|⟨h4,_⟩)
    ·have:=UInt8.lt_iff_toNat_lt.1 h4;omega
    ·subst h4;omega
   ·intro h4;omega
theorem nB_len_le {m n:Nat} (h:m≤n):(nB m).length≤(nB n).length:=by
 simp only [nB,List.length_reverse,List.length_map]
 exact dgs_len_mono (by decide) h
theorem cmpI_lt_eq {m n:Nat} (h:m=n):cmpI m n=0:=by rw [h,cmpI_eq]
theorem rCmp_holds (a b:List UInt8) (w:World) (ha:a.length≤1073741824) (hb:b.length≤1073741824) :
  Calls Tryz.prog 145 #[.string (bs a),.string (bs b)] w fun e w'=>e=.returned (.int .i64 (cmpI (vB a) (vB b)))∧Below w.heap.size w w':=by
 have hca:=fun (w':World)=>rClean_holds a w' ha
 have hcb:=fun (w':World)=>rClean_holds b w' hb
 refine enterA [(0,.string (bs a)),(1,.string (bs b))] Tryz.func145 Tryz.ntmps145 ?_
 rcases Nat.lt_trichotomy (vB a) (vB b) with hlt|heq|hgt
 ·rw [cmpI_lt (by omega)]
  have hne:nB (vB a)≠nB (vB b):=fun e=>by have:=nB_inj e;omega
  have hle:=nB_len_le (Nat.le_of_lt hlt)
  have hls:(nB (vB a)).length=(nB (vB b)).length→Op.bytesLess (nB (vB a)) (nB (vB b))=true:=fun h=>(less_iff h).2 (by rw [vB_nB,vB_nB];exact hlt)
  generalize nB (vB a)=x at *
  generalize nB (vB b)=y at *
  all_goals (refine go ?_;and_intros<;>(try exact trivial)<;>repeat (first|refine fun (Bk:Nat)=>?_|intro h))
  repeat' ((first|(apply G.cV (g:=144) (vs:=[.string (bs a)]);rfl;rfl;exact fun w' _=>hca w')|(apply G.cV (g:=144) (vs:=[.string (bs b)]);rfl;rfl;exact fun w' _=>hcb w')|(apply G.eqlStr;rfl;rfl;rfl;rfl;rfl;all_goals intro h;all_goals try (exact absurd h hne))|(apply G.lssStr;rfl;rfl;rfl;rfl;rfl;all_goals intro h;all_goals try (rw [hls (by omega)] at h;cases h;done)))<;>(refine go ?_;and_intros<;>(try exact trivial)<;>repeat (first|refine fun (Bk:Nat)=>?_|intro h)))
  all_goals refine ret1b Tryz.func145 Tryz.results145 ?_
  all_goals rfl
 ·rw [cmpI_lt_eq heq]
  have he:nB (vB a)=nB (vB b):=by rw [heq]
  all_goals (refine go ?_;and_intros<;>(try exact trivial)<;>repeat (first|refine fun (Bk:Nat)=>?_|intro h))
  repeat' ((first|(apply G.cV (g:=144) (vs:=[.string (bs a)]);rfl;rfl;exact fun w' _=>hca w')|(apply G.cV (g:=144) (vs:=[.string (bs b)]);rfl;rfl;exact fun w' _=>hcb w')|(apply G.eqlStr;rfl;rfl;rfl;rfl;rfl;all_goals intro h;all_goals try (exact absurd he h)))<;>(refine go ?_;and_intros<;>(try exact trivial)<;>repeat (first|refine fun (Bk:Nat)=>?_|intro h)))
  all_goals refine ret1b Tryz.func145 Tryz.results145 ?_
  all_goals rfl
 ·rw [cmpI_gt (by omega)]
  have hne:nB (vB a)≠nB (vB b):=fun e=>by have:=nB_inj e;omega
  have hle:=nB_len_le (Nat.le_of_lt hgt)
  have hls:(nB (vB a)).length=(nB (vB b)).length→Op.bytesLess (nB (vB a)) (nB (vB b))=false:=fun h=>by
   cases hh:Op.bytesLess (nB (vB a)) (nB (vB b)) with
   | false=>rfl
   | true=>have:=(less_iff h).1 hh;rw [vB_nB,vB_nB] at this;omega
  generalize nB (vB a)=x at *
  generalize nB (vB b)=y at *
  all_goals (refine go ?_;and_intros<;>(try exact trivial)<;>repeat (first|refine fun (Bk:Nat)=>?_|intro h))
  repeat' ((first|(apply G.cV (g:=144) (vs:=[.string (bs a)]);rfl;rfl;exact fun w' _=>hca w')|(apply G.cV (g:=144) (vs:=[.string (bs b)]);rfl;rfl;exact fun w' _=>hcb w')|(apply G.eqlStr;rfl;rfl;rfl;rfl;rfl;all_goals intro h;all_goals try (exact absurd h hne))|(apply G.lssStr;rfl;rfl;rfl;rfl;rfl;all_goals intro h;all_goals try (rw [hls (by omega)] at h;cases h;done)))<;>(refine go ?_;and_intros<;>(try exact trivial)<;>repeat (first|refine fun (Bk:Nat)=>?_|intro h)))
  all_goals refine ret1b Tryz.func145 Tryz.results145 ?_
  all_goals rfl
theorem numberO {w0 w:World}{M:List Row}{base E c n:Nat}{a:Option Addr}{l:List Nat} (hw:Sat w0 M w) (hm:Row.own base (.slice a l.length c) E 1 l.length (flat iV l)∈M) (hl:l.length≤1073741824) (hd:∀ d∈l,d < 256) (hv:vL 256 l=n) :
  Calls Tryz.prog 143 #[.slice a l.length c] w fun e w'=>e=.returned (.string (bs (nB n)))∧Below w.heap.size w w':=by
 have ho:w.ownsRow base E 1 (.slice a l.length c) l.length (flat iV l):=hw.hold _ hm
 rw [← hv]
 exact number_holds a l c w hl hd (SlAt.ofOwn iV_len ho rfl)
theorem rem_n {t b:Nat}:((t:Int)).tmod (b:Int)=((t % b:Nat):Int):=by rw [Int.tmod_eq_emod_of_nonneg (by omega),Int.natCast_emod]
theorem quo64_n {t b:Nat} (h:t < 9223372036854775808):IntKind.i64.wrap ((t:Int).tdiv (b:Int))=((t / b:Nat):Int):=by
 have h2:=Nat.div_le_self t b
 rw [Int.tdiv_eq_ediv_of_nonneg (by omega),← Int.natCast_ediv]
 generalize t / b=q at *
 exact wrap_in (by omega) (by omega)
theorem rSub_holds (a b:List UInt8) (w:World) (ha:a.length≤536870912) (hb:b.length≤536870912) (hle:vB b≤vB a) :
  Calls Tryz.prog 146 #[.string (bs a),.string (bs b)] w fun e w'=>e=.returned (.agg #[.string (bs (nB (vB a-vB b))),.int .i64 0])∧Below w.heap.size w w':=by
 have hx:=dB_lt a
 have hy:=dB_lt b
 have lx:=dB_len a
 have hcm:=fun (w':World)=>rCmp_holds a b w' (by omega) (by omega)
 have hc0:0≤cmpI (vB a) (vB b):=by
  rcases Nat.lt_or_ge (vB b) (vB a) with h|h
  ·rw [cmpI_gt (by omega)];decide
  ·rw [show vB a=vB b by omega,cmpI_eq];decide
 generalize cmpI (vB a) (vB b)=cc at *
 have hend:∀ (o:List Nat) (v:Nat),o.length=a.length→(∀ d∈o,d < 256)→vL 256 o+vL 256 ((dB b).take a.length)=vL 256 ((dB a).take a.length)+256 ^ a.length*v→vL 256 o=vB a-vB b:=fun o v h1 h2 h=>by
  rw [← lx,List.take_length] at h
  have:=minus_end (by decide) hx h2 (h1.trans lx.symm) (by rw [dB_vL,dB_vL];exact hle) h
  rwa [dB_vL,dB_vL] at this
 refine enterA [(0,.string (bs a)),(1,.string (bs b))] Tryz.func146 Tryz.ntmps146 ?_
 all_goals (refine go ?_;and_intros<;>(try exact trivial)<;>repeat (first|refine fun (Bk:Nat)=>?_|intro h))
 repeat' ((first|(apply G.cV (g:=145);rfl;rfl;exact fun w' _=>hcm w'))<;>(refine go ?_;and_intros<;>(try exact trivial)<;>repeat (first|refine fun (Bk:Nat)=>?_|intro h)))
 apply J.nilOwn (E:=3) (size:=1)
 refine J.loop (c:=_) ((0,0,.slice none 0 0,[]):Nat×Nat×Value×List Nat) (fun s=>a.length-s.1) (fun s=>[(0,.string (bs a)),(1,.string (bs b)),(4,.pointer (some ⟨Bk,0,none⟩)),(5,s.2.2.1),(6,.int .i64 s.2.1),(7,.int .i64 s.1)]) (fun s=>[.own 0 s.2.2.1 3 1 s.1 (flat iV s.2.2.2),.blk Bk 146 [.string (bs []),.int .i64 0] 2]) (fun s=>s.1≤a.length∧s.2.1≤1∧s.2.2.2.length=s.1∧(∀ d∈s.2.2.2,d < 256)∧vL 256 s.2.2.2+vL 256 ((dB b).take s.1)=vL 256 ((dB a).take s.1)+256 ^ s.1*s.2.1) ?_ sbT sbL ?_
 ·exact ⟨Nat.zero_le _,Nat.zero_le _,rfl,by simp,by simp [vL]⟩
 intro ⟨k,v,u,o⟩ ⟨h1,h2,h3,h4,h5⟩ ih
 dsimp only at h1 h2 h3 h4 h5 ⊢
 by_cases hk:k < a.length
 ·have g1:=getD_lt (by decide) hx k
  have g2:=getD_lt (by decide) hy k
  obtain ⟨dg,v',f1,f2,f3,f4⟩:=minus_step (b:=256) (by decide) h3 hy h2 (by rw [h5,Nat.add_assoc,← Nat.mul_add];congr 2;omega) g1
  have f5:=lt_snoc h4 f2
  have hv':v'=0∨v'=1:=by omega
  rcases hv' with rfl|rfl
  ·have hdg:((dB a).getD k 0:Int)-((dB b).getD k 0:Nat)-(v:Nat)=(dg:Int):=by omega
   repeat' (first|(apply G.cV (g:=142) (vs:=[.string (bs a),.int .i64 k]);rfl;rfl;exact fun w' _=>digit_holds a k w' (by omega))|(apply G.cV (g:=142) (vs:=[.string (bs b),.int .i64 k]);rfl;rfl;exact fun w' _=>digit_holds b k w' (by omega))|(apply G.subK;rfl;rfl;exact (by rw [hdg];exact wrap_in (by omega) (by omega):IntKind.i64.wrap (((dB a).getD k 0:Int)-((dB b).getD k 0:Nat)-(v:Nat))=(dg:Int));rfl;rfl;rfl)|(apply G.sliceL;rfl;rfl;rfl;rfl;rfl;rfl;rfl;rfl;intro Bs)|(apply G.ap;rfl;rfl;rfl;(repeat (first|exact RAt.head|apply RAt.tail));exact SrcV.blk (by exact mm) rfl rfl;exact flat1 iV o dg;omega;omega;intro v2)|(apply G.pu;rfl;rfl;first|exact trivial|omega)|(apply J.ct;rfl)|(apply G.nil;rfl)|(apply G.cm;rfl;rfl;all_goals intro h;all_goals try (exfalso;omega))|(apply G.fa;rfl;rfl)|(apply G.ld;rfl;(first|(apply LdV.one;(first|exact CellV.row0 (by assumption) rfl|exact CellV.rowS (by assumption) rfl|exact CellV.rowSS (by assumption) rfl|(apply CellV.blk;exact mm;rfl)))|(apply LdV.aggBlk;exact mm;rfl)|(apply LdV.part;exact mm;rfl;rfl)|(apply LdV.aggRow;assumption;rfl)|(apply LdV.partRow;assumption;rfl;rfl));rfl)|(apply G.sk;rfl)|(apply G.ls;rfl;rfl)|(apply G.ix;rfl;rfl;rfl;omega;rfl)|(apply G.ix;rfl;rfl;(first|exact sub_one _|exact add_one' _);omega;rfl)|(apply G.lt;rfl;rfl)|(apply G.bu;rfl;rfl;rfl)|(apply G.fd;rfl;rfl;rfl)|(apply G.cv;rfl;rfl;rfl;omega)|(apply G.beq;rfl;rfl;rfl)|(apply G.bne;rfl;rfl;rfl)|(apply G.mm;rfl;rfl)|(apply G.mf;rfl;rfl)|(apply G.mx;rfl;rfl;rfl)|(apply G.mn;rfl;rfl;rfl)|(apply G.bx;rfl;rfl;rfl;intro Bk)|(apply G.al;rfl;intro Bk)|(apply G.so;rfl;rfl;(repeat (first|exact RAt.head|apply RAt.tail));rfl;rfl)|(apply G.ss;rfl;rfl;(repeat (first|exact RAt.head|apply RAt.tail));rfl;rfl)|(apply J.regQ;exact Tryz.mixed;decide +kernel)|(apply J.regL;exact Tryz.mixed;decide +kernel)|apply J.reg)
   exact J.fin (ih (k+1,0,v2,o++[dg]) ⟨by dsimp only;omega,by dsimp only;omega,by simp [h3],f5,f4⟩ (by dsimp only;omega))
  ·have hdg:((dB a).getD k 0:Int)-((dB b).getD k 0:Nat)-(v:Nat)+256=(dg:Int):=by omega
   repeat' (first|(apply G.cV (g:=142) (vs:=[.string (bs a),.int .i64 k]);rfl;rfl;exact fun w' _=>digit_holds a k w' (by omega))|(apply G.cV (g:=142) (vs:=[.string (bs b),.int .i64 k]);rfl;rfl;exact fun w' _=>digit_holds b k w' (by omega))|(apply G.addK;rfl;rfl;exact (by rw [hdg];exact wrap_in (by omega) (by omega):IntKind.i64.wrap (((dB a).getD k 0:Int)-((dB b).getD k 0:Nat)-(v:Nat)+256)=(dg:Int));rfl;rfl;rfl)|(apply G.sliceL;rfl;rfl;rfl;rfl;rfl;rfl;rfl;rfl;intro Bs)|(apply G.ap;rfl;rfl;rfl;(repeat (first|exact RAt.head|apply RAt.tail));exact SrcV.blk (by exact mm) rfl rfl;exact flat1 iV o dg;omega;omega;intro v2)|(apply G.pu;rfl;rfl;first|exact trivial|omega)|(apply J.ct;rfl)|(apply G.nil;rfl)|(apply G.cm;rfl;rfl;all_goals intro h;all_goals try (exfalso;omega))|(apply G.fa;rfl;rfl)|(apply G.ld;rfl;(first|(apply LdV.one;(first|exact CellV.row0 (by assumption) rfl|exact CellV.rowS (by assumption) rfl|exact CellV.rowSS (by assumption) rfl|(apply CellV.blk;exact mm;rfl)))|(apply LdV.aggBlk;exact mm;rfl)|(apply LdV.part;exact mm;rfl;rfl)|(apply LdV.aggRow;assumption;rfl)|(apply LdV.partRow;assumption;rfl;rfl));rfl)|(apply G.sk;rfl)|(apply G.ls;rfl;rfl)|(apply G.ix;rfl;rfl;rfl;omega;rfl)|(apply G.ix;rfl;rfl;(first|exact sub_one _|exact add_one' _);omega;rfl)|(apply G.lt;rfl;rfl)|(apply G.bu;rfl;rfl;rfl)|(apply G.fd;rfl;rfl;rfl)|(apply G.cv;rfl;rfl;rfl;omega)|(apply G.beq;rfl;rfl;rfl)|(apply G.bne;rfl;rfl;rfl)|(apply G.mm;rfl;rfl)|(apply G.mf;rfl;rfl)|(apply G.mx;rfl;rfl;rfl)|(apply G.mn;rfl;rfl;rfl)|(apply G.bx;rfl;rfl;rfl;intro Bk)|(apply G.al;rfl;intro Bk)|(apply G.so;rfl;rfl;(repeat (first|exact RAt.head|apply RAt.tail));rfl;rfl)|(apply G.ss;rfl;rfl;(repeat (first|exact RAt.head|apply RAt.tail));rfl;rfl)|(apply J.regQ;exact Tryz.mixed;decide +kernel)|(apply J.regL;exact Tryz.mixed;decide +kernel)|apply J.reg)
   exact J.fin (ih (k+1,1,v2,o++[dg]) ⟨by dsimp only;omega,by dsimp only;omega,by simp [h3],f5,f4⟩ (by dsimp only;omega))
 ·have h6:o.length=a.length:=by omega
  subst h3
  rw [h6] at h5
  apply J.ownForm (i:=0) rfl
  intro a2 c2 hu
  subst hu
  all_goals (refine go ?_;and_intros<;>(try exact trivial)<;>repeat (first|refine fun (Bk:Nat)=>?_|intro h))
  repeat' ((first|(apply G.cV (g:=143);rfl;rfl;exact fun w' hw=>numberO hw (by exact mm) (by omega) h4 (hend o v h6 h4 h5)))<;>(refine go ?_;and_intros<;>(try exact trivial)<;>repeat (first|refine fun (Bk:Nat)=>?_|intro h)))
  all_goals refine ret1b Tryz.func146 Tryz.results146 ?_
  all_goals rfl
theorem zero_iv (n:Nat):flat (fun x:List Value=>x) (List.replicate n [.int .i64 0])=flat iV (List.replicate n 0):=by
 simp only [flat,List.map_replicate];rfl
theorem numberB {w0 w:World}{M:List Row}{E g c tot m n:Nat}{l:List Nat} (hw:Sat w0 M w) (hm:Row.blk g E (flat iV l) tot∈M) (hl:l.length=m) (hm2:m≤1073741824) (hd:∀ d∈l,d < 256) (hv:vL 256 l=n) :
  Calls Tryz.prog 143 #[.slice (some ⟨g,0,none⟩) m c] w fun e w'=>e=.returned (.string (bs (nB n)))∧Below w.heap.size w w':=by
 rw [← hv]
 subst hl
 exact number_holds _ l c w hm2 hd (SlAt.ofBlk iV_len hw hm)
theorem rMul_holds (a b:List UInt8) (w:World) (ha:a.length≤536870000) (hb:b.length≤536870000) :
  Calls Tryz.prog 89 #[.string (bs a),.string (bs b)] w fun e w'=>e=.returned (.string (bs (nB (vB a*vB b))))∧Below w.heap.size w w':=by
 have hx:=dB_lt a
 have hy:=dB_lt b
 have lx:=dB_len a
 have ly:=dB_len b
 rw [← dB_vL a,← dB_vL b]
 refine enterA [(0,.string (bs a)),(1,.string (bs b))] Tryz.func89 Tryz.ntmps89 ?_
 all_goals (refine go ?_;and_intros<;>(try exact trivial)<;>repeat (first|refine fun (Bk:Nat)=>?_|intro h))
 repeat' ((first|(apply G.make (n:=a.length+b.length+1) [.int .i64 0];rfl;rfl;rfl;rfl;rfl;omega;omega;rfl;omega;omega;intro Bk;rw [zero_iv]))<;>(refine go ?_;and_intros<;>(try exact trivial)<;>repeat (first|refine fun (Bk:Nat)=>?_|intro h)))
 refine J.loop (c:=_) ((0,List.replicate (a.length+b.length+1) 0):Nat×List Nat) (fun s=>a.length-s.1) (fun s=>[(0,.string (bs a)),(1,.string (bs b)),(5,.slice (some ⟨Bk,0,none⟩) (a.length+b.length+1) (a.length+b.length+1)),(6,.int .i64 s.1)]) (fun s=>[.blk Bk 3 (flat iV s.2) ((a.length+b.length+1)*1)]) (fun s=>s.1≤a.length∧s.2.length=a.length+b.length+1∧(∀ d∈s.2,d < 256)∧vL 256 s.2=vL 256 ((dB a).take s.1)*vL 256 (dB b)) ?_ sbT sbL ?_
 ·exact ⟨Nat.zero_le _,by simp,fun d hd=>by rw [List.eq_of_mem_replicate hd];decide,by rw [vL_zero];simp [vL]⟩
 intro ⟨i,o⟩ ⟨h1,h2,h3,h4⟩ ih
 dsimp only at h1 h2 h3 h4 ⊢
 by_cases hi:i < a.length
 ·have hav2:=getD_lt (by decide) hx i
  have hz:vL 256 o < 256 ^ (i+b.length):=by
   rw [h4,Nat.pow_add]
   have e1:=vL_lt (b:=256) (by decide) ((dB a).take i) fun d hd=>hx d (List.mem_of_mem_take hd)
   have e2:=vL_lt (b:=256) (by decide) (dB b) hy
   rw [List.length_take,Nat.min_eq_left (by omega)] at e1
   rw [ly] at e2
   exact Nat.mul_lt_mul'' e1 e2
  have hts:vL 256 ((dB a).take (i+1))=vL 256 ((dB a).take i)+256 ^ i*(dB a).getD i 0:=vL_take_succ 256 (dB a) i
  all_goals (refine go ?_;and_intros<;>(try exact trivial)<;>repeat (first|refine fun (Bk:Nat)=>?_|intro h))
  refine J.loop (c:=_) ((0,0,o):Nat×Nat×List Nat) (fun s=>b.length+1-s.1) (fun s=>[(0,.string (bs a)),(1,.string (bs b)),(5,.slice (some ⟨Bk,0,none⟩) (a.length+b.length+1) (a.length+b.length+1)),(6,.int .i64 i),(7,.int .i64 s.2.1),(8,.int .i64 s.1)]) (fun s=>[.blk Bk 3 (flat iV s.2.2) ((a.length+b.length+1)*1)]) (fun s=>s.1≤b.length+1∧s.2.1 < 256∧s.2.2.length=a.length+b.length+1∧(∀ d∈s.2.2,d < 256)∧vL 256 s.2.2+256 ^ (i+s.1)*s.2.1=vL 256 o+(dB a).getD i 0*256 ^ i*vL 256 ((dB b).take s.1)) ?_ sbT sbL ?_
  ·exact ⟨Nat.zero_le _,(by decide:0 < 256),h2,h3,by simp [vL]⟩
  intro ⟨k,v,p⟩ ⟨j1,j2,j3,j4,j5⟩ ih2
  dsimp only at j1 j2 j3 j4 j5 ⊢
  by_cases hk:k≤b.length
  ·have g1:=getD_lt (by decide) hy k
   have g2:=getD_lt (by decide) j4 (i+k)
   have g3:=times_small hav2 g1 g2 j2
   have g4:(dB a).getD i 0*(dB b).getD k 0≤255*255:=Nat.mul_le_mul (by omega) (by omega)
   have e9:=times_step (by omega) j5
   have q1:=iv_get (p:=p) (j:=i+k) (by omega)
   have l9:(flat iV p).length=p.length:=by rw [flat_len iV_len,Nat.mul_one]
   generalize hpo:p.getD (i+k) 0=po at *
   obtain ⟨t,ht⟩:∃ t,t=(dB a).getD i 0*(dB b).getD k 0+po+v:=⟨_,rfl⟩
   rw [← ht] at g3 e9
   have q2:=iv_set (p:=p) (j:=i+k) (d:=t % 256) (by omega)
   have m1:IntKind.i64.wrap (((dB a).getD i 0:Int)*((dB b).getD k 0:Nat))=(((dB a).getD i 0*(dB b).getD k 0:Nat):Int):=by
    rw [← Int.natCast_mul];exact wrap_in (by omega) (by omega)
   have ht2:(po:Int)+((dB a).getD i 0*(dB b).getD k 0:Nat)+v=(t:Int):=by omega
   have c1:((po:Int)+((dB a).getD i 0*(dB b).getD k 0:Nat)+v).tmod 256=((t % 256:Nat):Int):=by rw [ht2];exact rem_n (b:=256)
   have c2:IntKind.i64.wrap (((po:Int)+((dB a).getD i 0*(dB b).getD k 0:Nat)+v).tdiv 256)=((t / 256:Nat):Int):=by rw [ht2];exact quo64_n (b:=256) (by omega)
   repeat' (first|(apply G.cV (g:=142) (vs:=[.string (bs b),.int .i64 k]);rfl;rfl;exact fun w' _=>digit_holds b k w' (by omega))|(apply G.cV (g:=142) (vs:=[.string (bs a),.int .i64 i]);rfl;rfl;exact fun w' _=>digit_holds a i w' (by omega))|(apply G.mulK;rfl;rfl;exact m1;rfl;rfl;rfl)|(apply G.remK;rfl;rfl;decide;exact c1;rfl;rfl;rfl)|(apply G.quoK;rfl;rfl;decide;exact c2;rfl;rfl;rfl)|(apply G.ix (i:=i+k);rfl;rfl;omega;omega;rfl)|(apply G.ld;rfl;(apply LdV.one;exact CellV.blk (by exact mm) q1);rfl)|(apply G.s1;rfl;rfl;rfl;(repeat (first|exact RAt.head|apply RAt.tail));exact ⟨rfl,rfl⟩;omega;exact q2)|(apply G.pu;rfl;rfl;first|exact trivial|omega)|(apply J.ct;rfl)|(apply G.nil;rfl)|(apply G.cm;rfl;rfl;all_goals intro h;all_goals try (exfalso;omega))|(apply G.fa;rfl;rfl)|(apply G.ld;rfl;(first|(apply LdV.one;(first|exact CellV.row0 (by assumption) rfl|exact CellV.rowS (by assumption) rfl|exact CellV.rowSS (by assumption) rfl|(apply CellV.blk;exact mm;rfl)))|(apply LdV.aggBlk;exact mm;rfl)|(apply LdV.part;exact mm;rfl;rfl)|(apply LdV.aggRow;assumption;rfl)|(apply LdV.partRow;assumption;rfl;rfl));rfl)|(apply G.sk;rfl)|(apply G.ls;rfl;rfl)|(apply G.ix;rfl;rfl;rfl;omega;rfl)|(apply G.ix;rfl;rfl;(first|exact sub_one _|exact add_one' _);omega;rfl)|(apply G.lt;rfl;rfl)|(apply G.bu;rfl;rfl;rfl)|(apply G.fd;rfl;rfl;rfl)|(apply G.cv;rfl;rfl;rfl;omega)|(apply G.beq;rfl;rfl;rfl)|(apply G.bne;rfl;rfl;rfl)|(apply G.mm;rfl;rfl)|(apply G.mf;rfl;rfl)|(apply G.mx;rfl;rfl;rfl)|(apply G.mn;rfl;rfl;rfl)|(apply G.bx;rfl;rfl;rfl;intro Bk)|(apply G.al;rfl;intro Bk)|(apply G.so;rfl;rfl;(repeat (first|exact RAt.head|apply RAt.tail));rfl;rfl)|(apply G.ss;rfl;rfl;(repeat (first|exact RAt.head|apply RAt.tail));rfl;rfl)|(apply J.regQ;exact Tryz.mixed;decide +kernel)|(apply J.regL;exact Tryz.mixed;decide +kernel)|apply J.reg)
   all_goals (refine J.fin (ih2 (k+1,t / 256,p.set (i+k) (t % 256)) ⟨by dsimp only;omega,g3,by simp [j3],set_lt j4 (Nat.mod_lt _ (by decide)),e9⟩ (by dsimp only;omega)))
  ·have hke:k=b.length+1:=by omega
   subst hke
   have hv0:v=0:=by
    refine times_val (o:=p) (y:=dB b) (by decide) ?_ (by rw [ly];exact hz) hav2 hy
    rw [List.take_of_length_le (by omega)] at j5
    rw [ly];exact j5
   subst hv0
   rw [List.take_of_length_le (by omega),Nat.mul_zero,Nat.add_zero,h4] at j5
   all_goals (refine go ?_;and_intros<;>(try exact trivial)<;>repeat (first|refine fun (Bk:Nat)=>?_|intro h))
   exact J.fin (ih (i+1,p) ⟨by dsimp only;omega,j3,j4,by dsimp only;rw [j5,hts,Nat.add_mul,Nat.mul_comm (256 ^ i)]⟩ (by dsimp only;omega))
 ·have h6:i=a.length:=by omega
  subst h6
  rw [← lx,List.take_length] at h4
  all_goals (refine go ?_;and_intros<;>(try exact trivial)<;>repeat (first|refine fun (Bk:Nat)=>?_|intro h))
  repeat' ((first|(apply G.cV (g:=143);rfl;rfl;exact fun w' hw=>numberB hw (by exact mm) h2 (by omega) h3 h4))<;>(refine go ?_;and_intros<;>(try exact trivial)<;>repeat (first|refine fun (Bk:Nat)=>?_|intro h)))
  all_goals refine ret1b Tryz.func89 Tryz.results89 ?_
  all_goals rfl
end Go.Proofs.YtcdgibkbbcekhaaGreatDoor
/-
 Contracts of the specification of natural numbers: DivMod,Gcd,Int.
-/
namespace Go.Proofs.YtcdgibkbbcekhaaGreatDoor
open Go.RowKit Go.Sl Go.Num
theorem u8_row {c:Nat} (h:c < 256):flat u8V [UInt8.ofNat c]=[.int .u8 (c:Int)]:=by
 have:(UInt8.ofNat c).toNat=c:=by simp [UInt8.toNat_ofNat',Nat.mod_eq_of_lt h]
 simp [flat,u8V,this]
theorem vB_snoc (l:List UInt8) (x:UInt8):vB (l++[x])=vB l*256+x.toNat:=by
 rw [vB_append];simp [vB]
theorem rDivMod_holds (a b:List UInt8) (w:World) (ha:a.length≤536870000) (hb:b.length≤536870000) (hn:vB b≠0) :
  Calls Tryz.prog 91 #[.string (bs a),.string (bs b)] w fun e w'=>e=.returned (.agg #[.string (bs (nB (vB a / vB b))),.string (bs (nB (vB a % vB b))),.int .i64 0])∧Below w.heap.size w w':=by
 have hcb:=fun (w':World)=>rClean_holds b w' (by omega)
 have hne:nB (vB b)≠[]:=fun e=>hn (nB_nil.1 e)
 have hrl:∀ r,r < vB b→(nB r).length≤b.length:=fun r h=>nB_bound (Nat.lt_trans h (vB_lt b))
 obtain ⟨n,hnb⟩:∃ n,n=vB b:=⟨_,rfl⟩
 rw [← hnb] at hcb hne hrl hn ⊢
 have hcmp:=fun (ρ:Nat) (w':World) (h:(nB ρ).length≤536870912)=>rCmp_holds (nB ρ) b w' (by omega) (by omega)
 have hsub:=fun (ρ:Nat) (w':World) (h:(nB ρ).length≤536870912) (hle:n≤ρ)=>rSub_holds (nB ρ) b w' h (by omega) (by rw [vB_nB,← hnb];exact hle)
 simp only [vB_nB,← hnb] at hcmp hsub
 refine enterA [(0,.string (bs a)),(1,.string (bs b))] Tryz.func91 Tryz.ntmps91 ?_
 all_goals (refine go ?_;and_intros<;>(try exact trivial)<;>repeat (first|refine fun (Bk:Nat)=>?_|intro h))
 repeat' ((first|(apply G.cV (g:=144) (vs:=[.string (bs b)]);rfl;rfl;exact fun w' _=>hcb w')|(apply G.eqlStr;rfl;rfl;rfl;rfl;rfl;all_goals intro h;all_goals try (exact absurd h hne)))<;>(refine go ?_;and_intros<;>(try exact trivial)<;>repeat (first|refine fun (Bk:Nat)=>?_|intro h)))
 refine J.loop (c:=_) ((0,[],0,[]):Nat×List UInt8×Nat×List UInt8) (fun s=>a.length-s.1) (fun s=>[(0,.string (bs a)),(1,.string (bs b)),(4,.pointer (some ⟨Bk,0,none⟩)),(5,.string (bs s.2.1)),(6,.string (bs s.2.2.2)),(7,.int .i64 s.1)]) (fun s=>[.blk Bk 149 [.string (bs []),.string (bs []),.int .i64 0] 3]) (fun s=>s.1≤a.length∧s.2.1.length=s.1∧s.2.2.1 < n∧vB s.2.1*n+s.2.2.1=vB (a.take s.1)∧s.2.2.2=nB s.2.2.1) ?_ sbT sbL ?_
 ·exact ⟨Nat.zero_le _,rfl,Nat.pos_of_ne_zero hn,by simp [vB],nB_zero.symm⟩
 intro ⟨k,q,r,rs⟩ ⟨h1,h2,h3,h4,h5⟩ ih
 dsimp only at h1 h2 h3 h4 h5 ⊢
 subst h5
 by_cases hk:k < a.length
 ·have hts:=vB_take_succ hk
  have hx8:(a[k]).toNat < 256:=(a[k]).toNat_lt
  have hsl:(a.drop k).take (k+1-k)=[a[k]]:=by
   rw [show k+1-k=1 by omega,List.drop_eq_getElem_cons hk];rfl
  have hR:vB (nB r++[a[k]])=r*256+(a[k]).toNat:=by rw [vB_snoc,vB_nB]
  have hrl1:=hrl r h3
  have hcl:=fun (w':World)=>rClean_holds (nB r++[a[k]]) w' (by rw [List.length_append,List.length_singleton];omega)
  rw [hR] at hcl
  generalize a[k]=x at *
  obtain ⟨R,hRe⟩:∃ R,R=r*256+x.toNat:=⟨_,rfl⟩
  rw [← hRe] at hcl
  have hRn:R < 256*n:=by omega
  have hRl:∀ ρ,ρ≤R→(nB ρ).length≤536870912:=fun ρ h=>by
   have:(nB ρ).length≤b.length+1:=nB_bound (by
    rw [Nat.pow_succ,hnb] at *
    have:=vB_lt b
    omega)
   omega
  all_goals (refine go ?_;and_intros<;>(try exact trivial)<;>repeat (first|refine fun (Bk:Nat)=>?_|intro h))
  repeat' ((first|(apply G.subStr (i:=k) (j:=k+1);rfl;rfl;rfl;rfl;rfl;omega;omega;rfl;rfl;rfl)|(apply G.catStr (b:=[x]);rfl;(rw [hsl];rfl);(rw [List.length_singleton];omega);rfl;rfl;rfl)|(apply G.cV (g:=144);rfl;rfl;exact fun w' _=>hcl w'))<;>(refine go ?_;and_intros<;>(try exact trivial)<;>repeat (first|refine fun (Bk:Nat)=>?_|intro h)))
  refine J.loop (c:=_) ((0,R):Nat×Nat) (fun s=>s.2) (fun s=>[(0,.string (bs a)),(1,.string (bs b)),(4,.pointer (some ⟨Bk,0,none⟩)),(5,.string (bs q)),(6,.string (bs (nB s.2))),(7,.int .i64 k),(8,.int .i64 s.1)]) (fun s=>[.blk Bk 149 [.string (bs []),.string (bs []),.int .i64 0] 3]) (fun s=>s.1*n+s.2=R) ?_ sbT sbL ?_
  ·show 0*n+R=R;omega
  intro ⟨c,ρ⟩ hcr ih2
  dsimp only at hcr ⊢
  have hρR:ρ≤R:=by omega
  have hρl:=hRl ρ hρR
  have hcmp:=fun w'=>hcmp ρ w' hρl
  by_cases hge:n≤ρ
  ·have hsub:=fun w'=>hsub ρ w' hρl hge
   have hc0:0≤cmpI (ρ:Int) n:=by
    rcases Nat.lt_or_ge n ρ with h|h
    ·rw [cmpI_gt (by omega)];decide
    ·rw [show ρ=n by omega,cmpI_eq];decide
   generalize cmpI (ρ:Int) n=cc at *
   have hc256:c < 256:=by
    rcases Nat.lt_or_ge c 256 with h|h
    ·exact h
    ·have:=Nat.mul_le_mul_right n h;omega
   all_goals (refine go ?_;and_intros<;>(try exact trivial)<;>repeat (first|refine fun (Bk:Nat)=>?_|intro h))
   repeat' ((first|(apply G.cV (g:=145);rfl;rfl;exact fun w' _=>hcmp w')|(apply G.cV (g:=146);rfl;rfl;exact fun w' _=>hsub w'))<;>(refine go ?_;and_intros<;>(try exact trivial)<;>repeat (first|refine fun (Bk:Nat)=>?_|intro h)))
   exact J.fin (ih2 (c+1,ρ-n) (by dsimp only;rw [Nat.add_mul,Nat.one_mul];omega) (by dsimp only;omega))
  ·rw [cmpI_lt (by omega)] at hcmp
   have hc256:c < 256:=by
    rcases Nat.lt_or_ge c 256 with h|h
    ·exact h
    ·have:=Nat.mul_le_mul_right n h;omega
   have hu8:=u8_row hc256
   have hq2:vB (q++[UInt8.ofNat c])=vB q*256+c:=by
    rw [vB_snoc];simp [UInt8.toNat_ofNat',Nat.mod_eq_of_lt hc256]
   all_goals (refine go ?_;and_intros<;>(try exact trivial)<;>repeat (first|refine fun (Bk:Nat)=>?_|intro h))
   repeat' ((first|(apply G.cV (g:=145);rfl;rfl;exact fun w' _=>hcmp w')|(apply G.sliceL;rfl;rfl;rfl;rfl;rfl;rfl;rfl;rfl;intro Bs)|(apply G.ofBytes (E:=5) (l:=[UInt8.ofNat c]);rfl;rfl;exact fun w' hw=>SlAt.ofBlk (fun _=>rfl) hw (by (rw [hu8];exact .head _));rfl;rfl;rfl)|(apply G.catStr;rfl;rfl;(rw [List.length_singleton];omega);rfl;rfl;rfl))<;>(refine go ?_;and_intros<;>(try exact trivial)<;>repeat (first|refine fun (Bk:Nat)=>?_|intro h)))
   refine J.fin (ih (k+1,q++[UInt8.ofNat c],ρ,nB ρ) ⟨by dsimp only;omega,by simp [h2],by dsimp only;omega,?_,rfl⟩ (by dsimp only;omega))
   dsimp only
   rw [hq2,hts,← h4,Nat.add_mul,Nat.add_mul,Nat.mul_right_comm]
   omega
 ·have hke:k=a.length:=by omega
  subst hke
  rw [List.take_length] at h4
  have hqv:vB q=vB a / n:=by
   rw [← h4,Nat.add_comm,Nat.add_mul_div_right _ _ (by omega),Nat.div_eq_of_lt h3,Nat.zero_add]
  have hrv:r=vB a % n:=by
   rw [← h4,Nat.add_comm,Nat.add_mul_mod_self_right,Nat.mod_eq_of_lt h3]
  have hcl:=fun (w':World)=>rClean_holds q w' (by omega)
  rw [hqv] at hcl
  rw [← hrv]
  all_goals (refine go ?_;and_intros<;>(try exact trivial)<;>repeat (first|refine fun (Bk:Nat)=>?_|intro h))
  repeat' ((first|(apply G.cV (g:=144);rfl;rfl;exact fun w' _=>hcl w'))<;>(refine go ?_;and_intros<;>(try exact trivial)<;>repeat (first|refine fun (Bk:Nat)=>?_|intro h)))
  all_goals refine ret1b Tryz.func91 Tryz.results91 ?_
  all_goals rfl
theorem nB_succ {m:Nat} (h:m≠0):nB m=nB (m / 256)++[UInt8.ofNat (m % 256)]:=by
 rw [nB,dgs_pos (by decide) h,List.map_cons,List.reverse_cons];rfl
theorem rInt_holds (n:Nat) (w:World) (h:n < 9223372036854775808):Calls Tryz.prog 88 #[.int .i64 n] w fun e w'=>e=.returned (.agg #[.string (bs (nB n)),.int .i64 0])∧Below w.heap.size w w':=by
 refine enterA [(0,.int .i64 n)] Tryz.func88 Tryz.ntmps88 ?_
 all_goals (refine go ?_;and_intros<;>(try exact trivial)<;>repeat (first|refine fun (Bk:Nat)=>?_|intro h))
 refine J.loop (c:=_) ((n,[]):Nat×List UInt8) (fun s=>s.1) (fun s=>[(0,.int .i64 s.1),(2,.pointer (some ⟨Bk,0,none⟩)),(3,.string (bs s.2))]) (fun s=>[.blk Bk 146 [.string (bs []),.int .i64 0] 2]) (fun s=>s.1≤n∧nB s.1++s.2=nB n) ?_ sbT sbL ?_
 ·exact ⟨Nat.le_refl _,by simp⟩
 intro ⟨m,l⟩ ⟨h1,h2⟩ ih
 dsimp only at h1 h2 ⊢
 by_cases hm:m=0
 ·subst hm
  rw [nB_zero,List.nil_append] at h2
  rw [← h2]
  all_goals (refine go ?_;and_intros<;>(try exact trivial)<;>repeat (first|refine fun (Bk:Nat)=>?_|intro h))
  all_goals refine ret1b Tryz.func88 Tryz.results88 ?_
  all_goals rfl
 ·have hu8:=u8_row (c:=m % 256) (Nat.mod_lt _ (by decide))
  have hlt:m / 256 < m:=Nat.div_lt_self (by omega) (by decide)
  have hll:l.length≤8:=by
   have h3:=congrArg List.length h2
   rw [List.length_append] at h3
   have h4:(nB n).length≤8:=nB_bound (by omega)
   omega
  have c1:(m:Int).tmod 256=((m % 256:Nat):Int):=rem_n (b:=256)
  have c2:IntKind.i64.wrap ((m:Int).tdiv 256)=((m / 256:Nat):Int):=quo64_n (b:=256) (by omega)
  repeat' (first|(apply G.remK;rfl;rfl;decide;exact c1;rfl;rfl;rfl)|(apply G.quoK;rfl;rfl;decide;exact c2;rfl;rfl;rfl)|(apply G.sliceL;rfl;rfl;rfl;rfl;rfl;rfl;rfl;rfl;intro Bs)|(apply G.ofBytes (E:=5) (l:=[UInt8.ofNat (m % 256)]);rfl;rfl;exact fun w' hw=>SlAt.ofBlk (fun _=>rfl) hw (by (rw [hu8];exact .head _));rfl;rfl;rfl)|(apply G.catStr;rfl;rfl;(rw [List.length_singleton];omega);rfl;rfl;rfl)|(apply G.pu;rfl;rfl;first|exact trivial|omega)|(apply J.ct;rfl)|(apply G.nil;rfl)|(apply G.cm;rfl;rfl;all_goals intro h;all_goals try (exfalso;omega))|(apply G.fa;rfl;rfl)|(apply G.ld;rfl;(first|(apply LdV.one;(first|exact CellV.row0 (by assumption) rfl|exact CellV.rowS (by assumption) rfl|exact CellV.rowSS (by assumption) rfl|(apply CellV.blk;exact mm;rfl)))|(apply LdV.aggBlk;exact mm;rfl)|(apply LdV.part;exact mm;rfl;rfl)|(apply LdV.aggRow;assumption;rfl)|(apply LdV.partRow;assumption;rfl;rfl));rfl)|(apply G.sk;rfl)|(apply G.ls;rfl;rfl)|(apply G.ix;rfl;rfl;rfl;omega;rfl)|(apply G.ix;rfl;rfl;(first|exact sub_one _|exact add_one' _);omega;rfl)|(apply G.lt;rfl;rfl)|(apply G.bu;rfl;rfl;rfl)|(apply G.fd;rfl;rfl;rfl)|(apply G.cv;rfl;rfl;rfl;omega)|(apply G.beq;rfl;rfl;rfl)|(apply G.bne;rfl;rfl;rfl)|(apply G.mm;rfl;rfl)|(apply G.mf;rfl;rfl)|(apply G.mx;rfl;rfl;rfl)|(apply G.mn;rfl;rfl;rfl)|(apply G.bx;rfl;rfl;rfl;intro Bk)|(apply G.al;rfl;intro Bk)|(apply G.so;rfl;rfl;(repeat (first|exact RAt.head|apply RAt.tail));rfl;rfl)|(apply G.ss;rfl;rfl;(repeat (first|exact RAt.head|apply RAt.tail));rfl;rfl)|(apply J.regQ;exact Tryz.mixed;decide +kernel)|(apply J.regL;exact Tryz.mixed;decide +kernel)|apply J.reg)
  exact J.fin (ih (m / 256,[UInt8.ofNat (m % 256)]++l) ⟨by dsimp only;omega,by dsimp only;rw [← List.append_assoc,← nB_succ hm];exact h2⟩ hlt)
end Go.Proofs.YtcdgibkbbcekhaaGreatDoor
/-
 Contracts of the rational numbers: Valid,of,lowest,plus,less,times,over.
-/
namespace Go.Proofs.YtcdgibkbbcekhaaGreatDoor
open Go.RowKit Go.Sl Go.Num
theorem nB_one:nB 1=[1]:=by
 have h:=nB_vB_of (x:=1) (r:=[]) (by decide)
 have e:vB [1]=1:=rfl
 rwa [e] at h
end Go.Proofs.YtcdgibkbbcekhaaGreatDoor
