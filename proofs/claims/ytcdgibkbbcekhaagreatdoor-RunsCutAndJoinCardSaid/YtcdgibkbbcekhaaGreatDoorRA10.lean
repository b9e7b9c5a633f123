/-
  Contracts: how many bits a number has; the sort of short lists.
-/
import Derived.Test.YtcdgibkbbcekhaaGreatDoorRA9
set_option linter.unusedVariables false
set_option linter.unusedSimpArgs false
set_option linter.unusedSectionVars false
namespace Go.Sl
open Go.RowKit
variable {C:Ctx}{st:List (Nat×Value)}{M:List Row}{k:List Item}{q q':Md}{all rest:List Oper}{d:Nat}{ty:TypeId}{pos:String}{after:Array Edge}{gd:Option (Nat×Bool)}
theorem G.sxa {T:TypeId}{x y:Operand}{l:List UInt8}{ki:IntKind}{e:Int}{i:Nat} (hx:evS st x=some (.string (bs l))) (hy:evS st y=some (.int ki e)) (he:e=(i:Int)) (hi:i < l.length) [hT:TString C.P T] (hs:sideB all st gd d C.N q.calm=some q') (h:∀ t:Nat,t < 256→G q' C all ((d,.int .u8 (t:Int))::st) M rest k) :
  G q C all st M ({ dst:=some d,op:=.index T x y,type:=ty,pos,after,guard:=gd }::rest) k:=G.sx hx hy he (List.getElem?_eq_getElem hi) hs (h _ (UInt8.toNat_lt _))
end Go.Sl
namespace Go.Proofs.YtcdgibkbbcekhaaGreatDoor
open Go.RowKit Go.Sl Go.Num
theorem len64_holds (x:Nat) (w:World) (hx:x < 18446744073709551616):Calls Tryz.prog 189 #[.int .u64 x] w fun e w'=>∃ z:Int,(0≤z∧z≤1000)∧e=.returned (.int .i64 z)∧Below w.heap.size w w':=by
 refine enterA [(0,.int .u64 x)] Tryz.func189 Tryz.ntmps189 ?_
 all_goals (refine go ?_;and_intros<;>(try exact trivial)<;>repeat (first|refine fun (Bk:Nat)=>?_|intro h))
 repeat' ((first|(apply G.shrK (n:=32) (k1:=.u64);rfl;rfl;rfl;exact shr_n (k:=4294967296) rfl rfl;rfl;rfl;rfl)|(apply G.shrK (n:=16) (k1:=.u64);rfl;rfl;rfl;exact shr_n (k:=65536) rfl rfl;rfl;rfl;rfl)|(apply G.shrK (n:=8) (k1:=.u64);rfl;rfl;rfl;exact shr_n (k:=256) rfl rfl;rfl;rfl;rfl)|(apply G.sxa;rfl;rfl;rfl;exact Nat.lt_of_lt_of_eq (m:=256) (by omega) (by decide +kernel);rfl;intro tt ht))<;>(refine go ?_;and_intros<;>(try exact trivial)<;>repeat (first|refine fun (Bk:Nat)=>?_|intro h)))
 all_goals refine ret1 Tryz.func189 Tryz.results189 fun w' hw=>⟨_,?_,rfl,hw.below⟩
 all_goals omega
theorem len_holds (x:Nat) (w:World) (hx:x < 18446744073709551616):Calls Tryz.prog 167 #[.int .u64 x] w fun e w'=>∃ z:Int,(0≤z∧z≤1000)∧e=.returned (.int .i64 z)∧Below w.heap.size w w':=by
 have hl:=fun w' (_:Below w.heap.size w w')=>len64_holds x w' hx
 refine enterA [(0,.int .u64 x)] Tryz.func167 Tryz.ntmps167 ?_
 all_goals (refine go ?_;and_intros<;>(try exact trivial)<;>repeat (first|refine fun (Bk:Nat)=>?_|intro h))
 repeat' ((first|(refine G.cX (X:={ z:Int // 0≤z∧z≤1000 }) (v:=fun z=>.int .i64 z.1) (fun w' hb=>(hl w' hb).mono fun e w2 ⟨z,h1,h2,h3⟩=>⟨⟨z,h1⟩,h2,h3⟩) ?_;intro z))<;>(refine go ?_;and_intros<;>(try exact trivial)<;>repeat (first|refine fun (Bk:Nat)=>?_|intro h)))
 refine ret1 Tryz.func167 Tryz.results167 fun w' hw=>⟨_,z.2,rfl,hw.below⟩
theorem pdq12_holds (w0:World) (M:List Row) (w:World) (g tot n cp:Nat) (S:List Int) (a b:Nat) (L:Int) (hw:Sat w0 (.blk g 3 (flat isV S) tot::M) w) (hb:b≤n) (hn:n=S.length) (hl:n≤1000000000) (ha:a≤n) (h12:b≤a+12) :
  Calls Tryz.prog 166 #[.slice (some ⟨g,0,none⟩) n cp,.int .i64 a,.int .i64 b,.int .i64 L] w fun e w'=>∃ S',e=.returned (.tuple #[])∧(WP S a b S'∧Srt S' a b)∧Sat w0 (.blk g 3 (flat isV S') tot::M) w':=by
 refine enterR [(0,.slice (some ⟨g,0,none⟩) n cp),(1,.int .i64 a),(2,.int .i64 b),(3,.int .i64 L)] hw Tryz.func166 Tryz.ntmps166 ?_
 all_goals (refine go ?_;and_intros<;>(try exact trivial)<;>repeat (first|refine fun (Bk:Nat)=>?_|intro h))
 refine J.loop (c:=_) () (fun _=>0) (fun _=>[(0,.slice (some ⟨g,0,none⟩) n cp),(1,.int .i64 a),(2,.int .i64 b),(3,.int .i64 L),(8,.bool true),(9,.bool true)]) (fun _=>.blk g 3 (flat isV S) tot::M) (fun _=>True) trivial sbT sbL ?_
 intro _ _ ih
 clear ih
 all_goals (refine go ?_;and_intros<;>(try exact trivial)<;>repeat (first|refine fun (Bk:Nat)=>?_|intro h))
 repeat' ((first|(refine G.cP (X:={ S' // WP S a b S'∧Srt S' a b }) (fun _=>.tuple #[]) [.blk g 3 (flat isV S) tot] (fun x=>[.blk g 3 (flat isV x.1) tot]) rfl rfl (List.Perm.refl _) (fun w' hw'=>(insSort_holds _ _ w' g tot n cp S a b hw' hb hn hl ha).mono fun e w2 ⟨S',h1,h2,h3⟩=>⟨⟨S',h2⟩,h1,h3⟩) ?_;rintro ⟨S',hS'⟩))<;>(refine go ?_;and_intros<;>(try exact trivial)<;>repeat (first|refine fun (Bk:Nat)=>?_|intro h)))
 refine ret0 Tryz.func166 Tryz.results166 ?_
 exact fun w' hw'=>⟨S',rfl,hS',hw'⟩
end Go.Proofs.YtcdgibkbbcekhaaGreatDoor
/-
 Contract: the sort of a short slice of the caller's own.
-/
namespace Go.Proofs.YtcdgibkbbcekhaaGreatDoor
open Go.RowKit Go.Sl Go.Num
theorem pdq0_holds (w0:World) (M:List Row) (w:World) (v:Value) (L:Int) (hw:Sat w0 M w) :
  Calls Tryz.prog 166 #[v,.int .i64 0,.int .i64 0,.int .i64 L] w fun e w'=>e=.returned (.tuple #[])∧Sat w0 M w':=by
 refine enterR [(0,v),(1,.int .i64 0),(2,.int .i64 0),(3,.int .i64 L)] hw Tryz.func166 Tryz.ntmps166 ?_
 all_goals (refine go ?_;and_intros<;>(try exact trivial)<;>repeat (first|refine fun (Bk:Nat)=>?_|intro h))
 refine J.loop (c:=_) () (fun _=>0) (fun _=>[(0,v),(1,.int .i64 0),(2,.int .i64 0),(3,.int .i64 L),(8,.bool true),(9,.bool true)]) (fun _=>M) (fun _=>True) trivial sbT sbL ?_
 intro _ _ ih
 clear ih
 have hI:∀ (M:List Row) (w:World),Sat w0 M w→Calls Tryz.prog 179 #[v,.int .i64 0,.int .i64 0] w fun e w'=>e=.returned (.tuple #[])∧Sat w0 M w':=fun M w hw=>by
  refine enterR [(0,v),(1,.int .i64 0),(2,.int .i64 0)] hw Tryz.func179 Tryz.ntmps179 ?_
  all_goals (refine go ?_;and_intros<;>(try exact trivial)<;>repeat (first|refine fun (Bk:Nat)=>?_|intro h))
  refine J.loop (c:=_) () (fun _=>0) (fun _=>[(0,v),(1,.int .i64 0),(2,.int .i64 0),(6,.int .i64 1)]) (fun _=>M) (fun _=>True) trivial sbT sbL ?_
  intro _ _ ih
  clear ih
  all_goals (refine go ?_;and_intros<;>(try exact trivial)<;>repeat (first|refine fun (Bk:Nat)=>?_|intro h))
  refine end0 Tryz.func179 Tryz.results179 ?_
  exact fun w' hw'=>⟨rfl,hw'⟩
 all_goals (refine go ?_;and_intros<;>(try exact trivial)<;>repeat (first|refine fun (Bk:Nat)=>?_|intro h))
 repeat' ((first|(refine G.cI (v:=.tuple #[]) rfl rfl (List.Perm.refl _) (fun w' hw'=>hI _ w' hw') ?_))<;>(refine go ?_;and_intros<;>(try exact trivial)<;>repeat (first|refine fun (Bk:Nat)=>?_|intro h)))
 refine ret0 Tryz.func166 Tryz.results166 ?_
 exact fun w' hw'=>⟨rfl,hw'⟩
theorem sort12_holds (w0:World) (M:List Row) (w:World) (au:Option Addr) (n cu:Nat) (S:List Int) (hw:Sat w0 (.own 0 (.slice au n cu) 3 1 n (flat isV S)::M) w) (hn:n=S.length) (h12:n≤12) :
  Calls Tryz.prog 127 #[.slice au n cu] w fun e w'=>∃ S',e=.returned (.tuple #[])∧(S'.Perm S∧S'.Pairwise (·≤·))∧Sat w0 (.own 0 (.slice au n cu) 3 1 n (flat isV S')::M) w':=by
 have hlen:=fun w' (_:Below w0.heap.size w0 w')=>len_holds n w' (by omega)
 refine enterR [(0,.slice au n cu)] hw Tryz.func127 Tryz.ntmps127 ?_
 rcases Nat.eq_zero_or_pos n with rfl|h0
 ·obtain rfl:S=[]:=List.length_eq_zero_iff.1 hn.symm
  all_goals (refine go ?_;and_intros<;>(try exact trivial)<;>repeat (first|refine fun (Bk:Nat)=>?_|intro h))
  repeat' ((first|(refine G.cX (X:={ z:Int // 0≤z∧z≤1000 }) (v:=fun z=>.int .i64 z.1) (fun w' hb=>(hlen w' hb).mono fun e w2 ⟨z,h1,h2,h3⟩=>⟨⟨z,h1⟩,h2,h3⟩) ?_;intro z)|(refine G.cI (v:=.tuple #[]) rfl rfl (List.Perm.refl _) (fun w' hw'=>pdq0_holds _ _ w' _ _ hw') ?_))<;>(refine go ?_;and_intros<;>(try exact trivial)<;>repeat (first|refine fun (Bk:Nat)=>?_|intro h)))
  refine end0 Tryz.func127 Tryz.results127 ?_
  exact fun w' hw'=>⟨[],rfl,⟨.refl _,.nil⟩,hw'⟩
 ·refine J.ownOpen RAt.head h0 fun g cap h1 h2 h3=>?_
  cases h3
  all_goals (refine go ?_;and_intros<;>(try exact trivial)<;>repeat (first|refine fun (Bk:Nat)=>?_|intro h))
  repeat' ((first|(refine G.cX (X:={ z:Int // 0≤z∧z≤1000 }) (v:=fun z=>.int .i64 z.1) (fun w' hb=>(hlen w' hb).mono fun e w2 ⟨z,h1,h2,h3⟩=>⟨⟨z,h1⟩,h2,h3⟩) ?_;intro z)|(refine G.cP (X:={ S' // WP S 0 n S'∧Srt S' 0 n }) (fun _=>.tuple #[]) [.blk g 3 (flat isV S) (cu*1)] (fun x=>[.blk g 3 (flat isV x.1) (cu*1)]) rfl rfl (List.Perm.refl _) (fun w' hw'=>(pdq12_holds _ _ w' g (cu*1) n cu S 0 n z.1 hw' (Nat.le_refl _) hn (by omega) (by omega) (by omega)).mono fun e w2 ⟨S',h1,h2,h3⟩=>⟨⟨S',h2⟩,h1,h3⟩) ?_;rintro ⟨S',hS',hs⟩))<;>(refine go ?_;and_intros<;>(try exact trivial)<;>repeat (first|refine fun (Bk:Nat)=>?_|intro h)))
  have hl:=hS'.len
  dsimp only
  refine J.blkCut (g:=g) (l':=S') n isV_len RAt.head h1 h2 (by omega) (List.take_of_length_le (by omega)) ?_
  refine end0 Tryz.func127 Tryz.results127 ?_
  exact fun w' hw'=>⟨S',rfl,⟨hS'.per,srt_pair (by rw [show S'.length=n by omega];exact hs)⟩,hw'⟩
end Go.Proofs.YtcdgibkbbcekhaaGreatDoor
/-
 Contracts: a range that is turned,and the choice of a pivot.
-/
namespace Go.Proofs.YtcdgibkbbcekhaaGreatDoor
open Go.RowKit Go.Sl Go.Num
theorem reverse_holds (w0:World) (M:List Row) (w:World) (g tot n cp:Nat) (S:List Int) (a b:Nat) (hw:Sat w0 (.blk g 3 (flat isV S) tot::M) w) (hb:b≤n) (hn:n=S.length) (hl:n≤1000000000) (ha:a≤n) :
  Calls Tryz.prog 183 #[.slice (some ⟨g,0,none⟩) n cp,.int .i64 a,.int .i64 b] w fun e w'=>∃ S',e=.returned (.tuple #[])∧WP S a b S'∧Sat w0 (.blk g 3 (flat isV S') tot::M) w':=by
 refine enterR [(0,.slice (some ⟨g,0,none⟩) n cp),(1,.int .i64 a),(2,.int .i64 b)] hw Tryz.func183 Tryz.ntmps183 ?_
 all_goals (refine go ?_;and_intros<;>(try exact trivial)<;>repeat (first|refine fun (Bk:Nat)=>?_|intro h))
 refine J.loop (c:=_) ((0,b,S):Nat×Nat×List Int) (fun s=>s.2.1) (fun s=>[(0,.slice (some ⟨g,0,none⟩) n cp),(6,.int .i64 ((a+s.1:Nat):Int)),(7,.int .i64 ((s.2.1:Int)-1))]) (fun s=>.blk g 3 (flat isV s.2.2) tot::M) (fun s=>s.2.1≤b∧s.1≤n∧WP S a b s.2.2) ?_ sbT sbL ?_
 ·exact ⟨Nat.le_refl _,Nat.zero_le _,WP.refl _ _ _⟩
 intro ⟨i,k,S1⟩ ⟨h1,h2,h3⟩ ih
 dsimp only at h1 h2 h3 ⊢
 have hl1:=h3.len
 by_cases hi:a+i+1 < k
 ·obtain ⟨j,rfl⟩:∃ j,k=j+1:=⟨k-1,by omega⟩
  have ih:=ih (i+1,j,swp S1 (a+i) j) ⟨by dsimp only;omega,by dsimp only;omega,h3.trans (WP.swp ⟨by omega,by omega⟩ ⟨by omega,by omega⟩ (by omega))⟩ (by dsimp only;omega)
  have q1:=gI (S:=S1) (j:=(a+i)) (by omega)
  have q2:=gI (S:=S1) (j:=j) (by omega)
  have r1:=sI (S:=S1) (j:=(a+i)) (v:=(S1).getD j 0) (by omega)
  have r2:=sI (S:=(S1).set (a+i) ((S1).getD j 0)) (j:=j) (v:=(S1).getD (a+i) 0) (by rw [List.length_set];omega)
  have l1:0+(a+i)*1 < (flat isV (S1)).length:=by rw [isLen];omega
  have l2:0+j*1 < (flat isV ((S1).set (a+i) ((S1).getD j 0))).length:=by rw [isLen,List.length_set];omega
  dsimp only [swp] at ih
  generalize hx:a+i=x at *
  clear h3
  generalize S1.getD x 0=y at *
  generalize S1.getD j 0=z at *
  generalize S1.set x z=S3 at *
  generalize S3.set j y=S4 at *
  rw [show ((j+1:Nat):Int)-1=(j:Int) by omega]
  all_goals (refine goR ?_;and_intros<;>(try exact trivial)<;>repeat (first|refine fun (Bk:Nat)=>?_|intro h))
  repeat' ((first|(apply G.ld;rfl;(apply LdV.one;exact CellV.blk (by exact mm) q1);rfl)|(apply G.ld;rfl;(apply LdV.one;exact CellV.blk (by exact mm) q2);rfl)|(apply J.regX 0 [2,3] (.q 0 <| .q 1 <| .q 2 <| .q 3 <| .q 4 <| .q 5 <| .q 6 <| .q 7 <| .q 8 <| .q 9 <| .q 10 <| .q 11 <| .q 12 <| .e 13 <| .q 14 <| .e 15 <| .nil);exact Tryz.mixed;decide +kernel)|(apply G.s1n (n:=0);rfl;rfl;rfl;exact rfl;exact ⟨rfl,rfl⟩;exact l1;exact r1)|(apply G.s1n (n:=0);rfl;rfl;rfl;exact rfl;exact ⟨rfl,rfl⟩;exact l2;exact r2)|(apply J.regQ;exact Tryz.mixed;decide +kernel)|(apply J.regL';exact Tryz.mixed;decide +kernel))<;>(refine goR ?_;and_intros<;>(try exact trivial)<;>repeat (first|refine fun (Bk:Nat)=>?_|intro h)))
  rw [show (x:Int)+1=((a+(i+1):Nat):Int) by omega]
  exact J.fin ih
 ·clear ih
  all_goals (refine go ?_;and_intros<;>(try exact trivial)<;>repeat (first|refine fun (Bk:Nat)=>?_|intro h))
  refine end0 Tryz.func183 Tryz.results183 ?_
  exact fun w' hw'=>⟨S1,rfl,h3,hw'⟩
theorem order2_holds (w0:World) (M:List Row) (w:World) (bs g tot n cp:Nat) (S:List Int) (a b:Nat) (v:Int) (hw:Sat w0 (.blk bs 3 [.int .i64 v] 1::.blk g 3 (flat isV S) tot::M) w) (hn:n=S.length) (ha:a < n) (hb:b < n) (hv:0≤v∧v≤1000) :
  Calls Tryz.prog 202 #[.slice (some ⟨g,0,none⟩) n cp,.int .i64 a,.int .i64 b,.pointer (some ⟨bs,0,none⟩)] w fun e w'=>∃ (x y:Nat) (u:Int),((x=a∧y=b∨x=b∧y=a)∧v≤u∧u≤v+1)∧e=.returned (.tuple #[.int .i64 x,.int .i64 y])∧Sat w0 (.blk bs 3 [.int .i64 u] 1::.blk g 3 (flat isV S) tot::M) w':=by
 have q1:=gI (S:=S) (j:=a) (by omega)
 have q2:=gI (S:=S) (j:=b) (by omega)
 have hle:=fun w'=>lessI_holds (S.getD b 0) (S.getD a 0) w'
 refine enterR [(0,.slice (some ⟨g,0,none⟩) n cp),(1,.int .i64 a),(2,.int .i64 b),(3,.pointer (some ⟨bs,0,none⟩))] hw Tryz.func202 Tryz.ntmps202 ?_
 by_cases hc:S.getD b 0 < S.getD a 0
 ·rw [decide_eq_true hc] at hle
  generalize S.getD a 0=x at *
  generalize S.getD b 0=y at *
  all_goals (refine goR ?_;and_intros<;>(try exact trivial)<;>repeat (first|refine fun (Bk:Nat)=>?_|intro h))
  repeat' ((first|(apply G.ld;rfl;(apply LdV.one;exact CellV.blk (by exact mm) q1);rfl)|(apply G.ld;rfl;(apply LdV.one;exact CellV.blk (by exact mm) q2);rfl)|(apply G.cV (g:=185);rfl;rfl;exact fun w' _=>hle w')|(apply J.regA (.q 0 <| .q 1 <| .q 2 <| .q 3 <| .q 4 <| .q 5 <| .q 6 <| .q 7 <| .q 8 <| .nil);exact Tryz.mixed;decide +kernel)|(apply J.regQ;exact Tryz.mixed;decide +kernel)|(apply J.regL';exact Tryz.mixed;decide +kernel))<;>(refine goR ?_;and_intros<;>(try exact trivial)<;>repeat (first|refine fun (Bk:Nat)=>?_|intro h)))
  exact ret2 Tryz.func202 Tryz.results202 fun w' hw'=>⟨b,a,v+1,⟨.inr ⟨rfl,rfl⟩,by omega,by omega⟩,rfl,hw'⟩
 ·rw [decide_eq_false hc] at hle
  generalize S.getD a 0=x at *
  generalize S.getD b 0=y at *
  all_goals (refine goR ?_;and_intros<;>(try exact trivial)<;>repeat (first|refine fun (Bk:Nat)=>?_|intro h))
  repeat' ((first|(apply G.ld;rfl;(apply LdV.one;exact CellV.blk (by exact mm) q1);rfl)|(apply G.ld;rfl;(apply LdV.one;exact CellV.blk (by exact mm) q2);rfl)|(apply G.cV (g:=185);rfl;rfl;exact fun w' _=>hle w')|(apply J.regA (.q 0 <| .q 1 <| .q 2 <| .q 3 <| .q 4 <| .q 5 <| .q 6 <| .q 7 <| .q 8 <| .nil);exact Tryz.mixed;decide +kernel)|(apply J.regQ;exact Tryz.mixed;decide +kernel)|(apply J.regL';exact Tryz.mixed;decide +kernel))<;>(refine goR ?_;and_intros<;>(try exact trivial)<;>repeat (first|refine fun (Bk:Nat)=>?_|intro h)))
  exact ret2 Tryz.func202 Tryz.results202 fun w' hw'=>⟨a,b,v,⟨.inl ⟨rfl,rfl⟩,by omega,by omega⟩,rfl,hw'⟩
theorem median_holds (w0:World) (M:List Row) (w:World) (bs g tot n cp:Nat) (S:List Int) (a b c:Nat) (v:Int) (hw:Sat w0 (.blk bs 3 [.int .i64 v] 1::.blk g 3 (flat isV S) tot::M) w) (hn:n=S.length) (ha:a < n) (hb:b < n) (hc:c < n) (hv:0≤v∧v≤900) :
  Calls Tryz.prog 198 #[.slice (some ⟨g,0,none⟩) n cp,.int .i64 a,.int .i64 b,.int .i64 c,.pointer (some ⟨bs,0,none⟩)] w fun e w'=>∃ (x:Nat) (u:Int),((x=a∨x=b∨x=c)∧v≤u∧u≤v+3)∧e=.returned (.int .i64 x)∧Sat w0 (.blk bs 3 [.int .i64 u] 1::.blk g 3 (flat isV S) tot::M) w':=by
 refine enterR [(0,.slice (some ⟨g,0,none⟩) n cp),(1,.int .i64 a),(2,.int .i64 b),(3,.int .i64 c),(4,.pointer (some ⟨bs,0,none⟩))] hw Tryz.func198 Tryz.ntmps198 ?_
 all_goals (refine go ?_;and_intros<;>(try exact trivial)<;>repeat (first|refine fun (Bk:Nat)=>?_|intro h))
 repeat' ((first|(refine G.cP (d:=16) (g:=202) (X:={ t:Nat×Nat×Int // (t.1=a∧t.2.1=b∨t.1=b∧t.2.1=a)∧v≤t.2.2∧t.2.2≤v+1 }) (fun t=>.tuple #[.int .i64 t.1.1,.int .i64 t.1.2.1]) [.blk bs 3 [.int .i64 v] 1,.blk g 3 (flat isV S) tot] (fun t=>[.blk bs 3 [.int .i64 t.1.2.2] 1,.blk g 3 (flat isV S) tot]) rfl rfl (by (repeat (first|exact List.Perm.refl _|(refine pickT (by (repeat (first|exact Pick.head|apply Pick.tail))) ?_)))) ?_ ?_;exact fun w' hw'=>(order2_holds _ _ w' bs g tot n cp S a b v hw' hn (by omega) (by omega) (by omega)).mono fun e w2 ⟨x,y,u,h1,h2,h3⟩=>⟨⟨(x,y,u),h1⟩,h2,h3⟩;rintro ⟨⟨x1,y1,u1⟩,k1⟩;dsimp only at k1 ⊢))<;>(refine go ?_;and_intros<;>(try exact trivial)<;>repeat (first|refine fun (Bk:Nat)=>?_|intro h)))
 all_goals (refine go ?_;and_intros<;>(try exact trivial)<;>repeat (first|refine fun (Bk:Nat)=>?_|intro h))
 repeat' ((first|(refine G.cP (d:=24) (g:=202) (X:={ t:Nat×Nat×Int // (t.1=y1∧t.2.1=c∨t.1=c∧t.2.1=y1)∧u1≤t.2.2∧t.2.2≤u1+1 }) (fun t=>.tuple #[.int .i64 t.1.1,.int .i64 t.1.2.1]) [.blk bs 3 [.int .i64 u1] 1,.blk g 3 (flat isV S) tot] (fun t=>[.blk bs 3 [.int .i64 t.1.2.2] 1,.blk g 3 (flat isV S) tot]) rfl rfl (by (repeat (first|exact List.Perm.refl _|(refine pickT (by (repeat (first|exact Pick.head|apply Pick.tail))) ?_)))) ?_ ?_;exact fun w' hw'=>(order2_holds _ _ w' bs g tot n cp S y1 c u1 hw' hn (by omega) (by omega) (by omega)).mono fun e w2 ⟨x,y,u,h1,h2,h3⟩=>⟨⟨(x,y,u),h1⟩,h2,h3⟩;rintro ⟨⟨x2,y2,u2⟩,k2⟩;dsimp only at k2 ⊢))<;>(refine go ?_;and_intros<;>(try exact trivial)<;>repeat (first|refine fun (Bk:Nat)=>?_|intro h)))
 all_goals (refine go ?_;and_intros<;>(try exact trivial)<;>repeat (first|refine fun (Bk:Nat)=>?_|intro h))
 repeat' ((first|(refine G.cP (d:=32) (g:=202) (X:={ t:Nat×Nat×Int // (t.1=x1∧t.2.1=x2∨t.1=x2∧t.2.1=x1)∧u2≤t.2.2∧t.2.2≤u2+1 }) (fun t=>.tuple #[.int .i64 t.1.1,.int .i64 t.1.2.1]) [.blk bs 3 [.int .i64 u2] 1,.blk g 3 (flat isV S) tot] (fun t=>[.blk bs 3 [.int .i64 t.1.2.2] 1,.blk g 3 (flat isV S) tot]) rfl rfl (by (repeat (first|exact List.Perm.refl _|(refine pickT (by (repeat (first|exact Pick.head|apply Pick.tail))) ?_)))) ?_ ?_;exact fun w' hw'=>(order2_holds _ _ w' bs g tot n cp S x1 x2 u2 hw' hn (by omega) (by omega) (by omega)).mono fun e w2 ⟨x,y,u,h1,h2,h3⟩=>⟨⟨(x,y,u),h1⟩,h2,h3⟩;rintro ⟨⟨x3,y3,u3⟩,k3⟩;dsimp only at k3 ⊢))<;>(refine go ?_;and_intros<;>(try exact trivial)<;>repeat (first|refine fun (Bk:Nat)=>?_|intro h)))
 exact ret1 Tryz.func198 Tryz.results198 fun w' hw'=>⟨y3,u3,⟨by omega,by omega,by omega⟩,rfl,hw'⟩
theorem medianAdj_holds (w0:World) (M:List Row) (w:World) (bs g tot n cp:Nat) (S:List Int) (a:Nat) (v:Int) (hw:Sat w0 (.blk bs 3 [.int .i64 v] 1::.blk g 3 (flat isV S) tot::M) w) (hn:n=S.length) (hl:n≤1000000000) (ha:a+2 < n) (hv:0≤v∧v≤900) :
  Calls Tryz.prog 197 #[.slice (some ⟨g,0,none⟩) n cp,.int .i64 ((a+1:Nat):Int),.pointer (some ⟨bs,0,none⟩)] w fun e w'=>∃ (x:Nat) (u:Int),((a≤x∧x≤a+2)∧v≤u∧u≤v+3)∧e=.returned (.int .i64 x)∧Sat w0 (.blk bs 3 [.int .i64 u] 1::.blk g 3 (flat isV S) tot::M) w':=by
 refine enterR [(0,.slice (some ⟨g,0,none⟩) n cp),(1,.int .i64 ((a+1:Nat):Int)),(2,.pointer (some ⟨bs,0,none⟩))] hw Tryz.func197 Tryz.ntmps197 ?_
 all_goals (refine go ?_;and_intros<;>(try exact trivial)<;>repeat (first|refine fun (Bk:Nat)=>?_|intro h))
 rw [show ((a+1:Nat):Int)-1=(a:Int) by omega,show ((a+1:Nat):Int)+1=((a+2:Nat):Int) by omega]
 all_goals (refine go ?_;and_intros<;>(try exact trivial)<;>repeat (first|refine fun (Bk:Nat)=>?_|intro h))
 repeat' ((first|(refine G.cP (g:=198) (X:={ t:Nat×Int // (t.1=a∨t.1=a+1∨t.1=a+2)∧v≤t.2∧t.2≤v+3 }) (fun t=>.int .i64 t.1.1) [.blk bs 3 [.int .i64 v] 1,.blk g 3 (flat isV S) tot] (fun t=>[.blk bs 3 [.int .i64 t.1.2] 1,.blk g 3 (flat isV S) tot]) rfl rfl (by (repeat (first|exact List.Perm.refl _|(refine pickT (by (repeat (first|exact Pick.head|apply Pick.tail))) ?_)))) ?_ ?_;exact fun w' hw'=>(median_holds _ _ w' bs g tot n cp S a (a+1) (a+2) v hw' hn (by omega) (by omega) (by omega) hv).mono fun e w2 ⟨x,u,h1,h2,h3⟩=>⟨⟨(x,u),h1⟩,h2,h3⟩;rintro ⟨⟨x1,u1⟩,k1⟩;dsimp only at k1 ⊢))<;>(refine go ?_;and_intros<;>(try exact trivial)<;>repeat (first|refine fun (Bk:Nat)=>?_|intro h)))
 exact ret1 Tryz.func197 Tryz.results197 fun w' hw'=>⟨x1,u1,⟨⟨by omega,by omega⟩,by omega,by omega⟩,rfl,hw'⟩
theorem pivot_holds (w0:World) (M:List Row) (w:World) (g tot n cp:Nat) (S:List Int) (a b:Nat) (hw:Sat w0 (.blk g 3 (flat isV S) tot::M) w) (hn:n=S.length) (hl:n≤1000000000) (hab:a+12 < b) (hb:b≤n) :
  Calls Tryz.prog 182 #[.slice (some ⟨g,0,none⟩) n cp,.int .i64 a,.int .i64 b] w fun e w'=>∃ (x:Nat) (h:Int),((a≤x∧x < b)∧0≤h∧h≤2)∧e=.returned (.tuple #[.int .i64 x,.int .i64 h])∧Sat w0 (.blk g 3 (flat isV S) tot::M) w':=by
 refine enterR [(0,.slice (some ⟨g,0,none⟩) n cp),(1,.int .i64 a),(2,.int .i64 b)] hw Tryz.func182 Tryz.ntmps182 ?_
 obtain ⟨l,rfl⟩:∃ l,b=a+l:=⟨b-a,by omega⟩
 obtain ⟨p1,hp1⟩:∃ p,a+l / 4=p+1:=⟨a+l / 4-1,by omega⟩
 obtain ⟨p2,hp2⟩:∃ p,a+l / 4*2=p+1:=⟨a+l / 4*2-1,by omega⟩
 obtain ⟨p3,hp3⟩:∃ p,a+l / 4*3=p+1:=⟨a+l / 4*3-1,by omega⟩
 have e1:((a:Int)+(((a+l:Nat):Int)-a) / 4*1)=((p1+1:Nat):Int):=by omega
 have e2:((a:Int)+(((a+l:Nat):Int)-a) / 4*2)=((p2+1:Nat):Int):=by omega
 have e3:((a:Int)+(((a+l:Nat):Int)-a) / 4*3)=((p3+1:Nat):Int):=by omega
 have k0:(0:Int)≤0∧(0:Int)≤0:=by omega
 by_cases h50:50≤l
 ·skip
  all_goals (refine go ?_;and_intros<;>(try exact trivial)<;>repeat (first|refine fun (Bk:Nat)=>?_|intro h))
  revert Bk;intro Bs
  simp only [e1,e2,e3]
  all_goals (refine go ?_;and_intros<;>(try exact trivial)<;>repeat (first|refine fun (Bk:Nat)=>?_|intro h))
  repeat' ((first|(refine G.cP (d:=37) (g:=197) (X:={ t:Nat×Int // (p1≤t.1∧t.1≤p1+2)∧0≤t.2∧t.2≤0+3 }) (fun t=>.int .i64 t.1.1) [.blk Bs 3 [.int .i64 0] 1,.blk g 3 (flat isV S) tot] (fun t=>[.blk Bs 3 [.int .i64 t.1.2] 1,.blk g 3 (flat isV S) tot]) rfl rfl (by (repeat (first|exact List.Perm.refl _|(refine pickT (by (repeat (first|exact Pick.head|apply Pick.tail))) ?_)))) ?_ ?_;exact fun w' hw'=>(medianAdj_holds _ _ w' Bs g tot n cp S p1 0 hw' hn hl (by omega) (by omega)).mono fun e w2 ⟨x,u,h1,h2,h3⟩=>⟨⟨(x,u),h1⟩,h2,h3⟩;rintro ⟨⟨x1,u1⟩,k1⟩;dsimp only at k1 ⊢))<;>(refine go ?_;and_intros<;>(try exact trivial)<;>repeat (first|refine fun (Bk:Nat)=>?_|intro h)))
  all_goals (refine go ?_;and_intros<;>(try exact trivial)<;>repeat (first|refine fun (Bk:Nat)=>?_|intro h))
  repeat' ((first|(refine G.cP (d:=40) (g:=197) (X:={ t:Nat×Int // (p2≤t.1∧t.1≤p2+2)∧u1≤t.2∧t.2≤u1+3 }) (fun t=>.int .i64 t.1.1) [.blk Bs 3 [.int .i64 u1] 1,.blk g 3 (flat isV S) tot] (fun t=>[.blk Bs 3 [.int .i64 t.1.2] 1,.blk g 3 (flat isV S) tot]) rfl rfl (by (repeat (first|exact List.Perm.refl _|(refine pickT (by (repeat (first|exact Pick.head|apply Pick.tail))) ?_)))) ?_ ?_;exact fun w' hw'=>(medianAdj_holds _ _ w' Bs g tot n cp S p2 u1 hw' hn hl (by omega) (by omega)).mono fun e w2 ⟨x,u,h1,h2,h3⟩=>⟨⟨(x,u),h1⟩,h2,h3⟩;rintro ⟨⟨x2,u2⟩,k2⟩;dsimp only at k2 ⊢))<;>(refine go ?_;and_intros<;>(try exact trivial)<;>repeat (first|refine fun (Bk:Nat)=>?_|intro h)))
  all_goals (refine go ?_;and_intros<;>(try exact trivial)<;>repeat (first|refine fun (Bk:Nat)=>?_|intro h))
  repeat' ((first|(refine G.cP (d:=43) (g:=197) (X:={ t:Nat×Int // (p3≤t.1∧t.1≤p3+2)∧u2≤t.2∧t.2≤u2+3 }) (fun t=>.int .i64 t.1.1) [.blk Bs 3 [.int .i64 u2] 1,.blk g 3 (flat isV S) tot] (fun t=>[.blk Bs 3 [.int .i64 t.1.2] 1,.blk g 3 (flat isV S) tot]) rfl rfl (by (repeat (first|exact List.Perm.refl _|(refine pickT (by (repeat (first|exact Pick.head|apply Pick.tail))) ?_)))) ?_ ?_;exact fun w' hw'=>(medianAdj_holds _ _ w' Bs g tot n cp S p3 u2 hw' hn hl (by omega) (by omega)).mono fun e w2 ⟨x,u,h1,h2,h3⟩=>⟨⟨(x,u),h1⟩,h2,h3⟩;rintro ⟨⟨x3,u3⟩,k3⟩;dsimp only at k3 ⊢))<;>(refine go ?_;and_intros<;>(try exact trivial)<;>repeat (first|refine fun (Bk:Nat)=>?_|intro h)))
  all_goals (refine go ?_;and_intros<;>(try exact trivial)<;>repeat (first|refine fun (Bk:Nat)=>?_|intro h))
  repeat' ((first|(refine G.cP (d:=48) (g:=198) (X:={ t:Nat×Int // (t.1=x1∨t.1=x2∨t.1=x3)∧u3≤t.2∧t.2≤u3+3 }) (fun t=>.int .i64 t.1.1) [.blk Bs 3 [.int .i64 u3] 1,.blk g 3 (flat isV S) tot] (fun t=>[.blk Bs 3 [.int .i64 t.1.2] 1,.blk g 3 (flat isV S) tot]) rfl rfl (by (repeat (first|exact List.Perm.refl _|(refine pickT (by (repeat (first|exact Pick.head|apply Pick.tail))) ?_)))) ?_ ?_;exact fun w' hw'=>(median_holds _ _ w' Bs g tot n cp S x1 x2 x3 u3 hw' hn (by omega) (by omega) (by omega) (by omega)).mono fun e w2 ⟨x,u,h1,h2,h3⟩=>⟨⟨(x,u),h1⟩,h2,h3⟩;rintro ⟨⟨x4,u4⟩,k4⟩;dsimp only at k4 ⊢))<;>(refine go ?_;and_intros<;>(try exact trivial)<;>repeat (first|refine fun (Bk:Nat)=>?_|intro h)))
  all_goals
   refine ret2 Tryz.func182 Tryz.results182 ?_
   intro w' hw'
   exact ⟨x4,_,⟨⟨by omega,by omega⟩,by decide,by decide⟩,rfl,hw'.forget (List.sublist_cons_self _ _)⟩
 ·skip
  all_goals (refine go ?_;and_intros<;>(try exact trivial)<;>repeat (first|refine fun (Bk:Nat)=>?_|intro h))
  revert Bk;intro Bs
  simp only [e1,e2,e3]
  all_goals (refine go ?_;and_intros<;>(try exact trivial)<;>repeat (first|refine fun (Bk:Nat)=>?_|intro h))
  repeat' ((first|(refine G.cP (d:=48) (g:=198) (X:={ t:Nat×Int // (t.1=(p1+1)∨t.1=(p2+1)∨t.1=(p3+1))∧0≤t.2∧t.2≤0+3 }) (fun t=>.int .i64 t.1.1) [.blk Bs 3 [.int .i64 0] 1,.blk g 3 (flat isV S) tot] (fun t=>[.blk Bs 3 [.int .i64 t.1.2] 1,.blk g 3 (flat isV S) tot]) rfl rfl (by (repeat (first|exact List.Perm.refl _|(refine pickT (by (repeat (first|exact Pick.head|apply Pick.tail))) ?_)))) ?_ ?_;exact fun w' hw'=>(median_holds _ _ w' Bs g tot n cp S (p1+1) (p2+1) (p3+1) 0 hw' hn (by omega) (by omega) (by omega) (by omega)).mono fun e w2 ⟨x,u,h1,h2,h3⟩=>⟨⟨(x,u),h1⟩,h2,h3⟩;rintro ⟨⟨x4,u4⟩,k4⟩;dsimp only at k4 ⊢))<;>(refine go ?_;and_intros<;>(try exact trivial)<;>repeat (first|refine fun (Bk:Nat)=>?_|intro h)))
  all_goals
   refine ret2 Tryz.func182 Tryz.results182 ?_
   intro w' hw'
   exact ⟨x4,_,⟨⟨by omega,by omega⟩,by decide,by decide⟩,rfl,hw'.forget (List.sublist_cons_self _ _)⟩
end Go.Proofs.YtcdgibkbbcekhaaGreatDoor
/-
 Contracts: the partitions of the library's quicksort.
-/
namespace Go.Proofs.YtcdgibkbbcekhaaGreatDoor
open Go.RowKit Go.Sl Go.Num
theorem swp_at {S:List Int}{x y z:Nat} (hx:x < S.length) (hy:y < S.length):(swp S x y).getD z 0=if z=x then S.getD y 0 else if z=y then S.getD x 0 else S.getD z 0:=by
 by_cases h1:z=x
 ·subst h1;rw [if_pos rfl,swp_fst hx hy]
 ·rw [if_neg h1]
  by_cases h2:z=y
  ·subst h2;rw [if_pos rfl,swp_snd hx hy]
  ·rw [if_neg h2,swp_oth hx hy h1 h2]
structure PIn (S:List Int) (a i k b:Nat):Prop where
 h1:a+1≤i
 h2:i≤k
 h3:k≤b
 lo:∀ x,a < x→x < i→S.getD x 0 < S.getD a 0
 hi:∀ y,k≤y→y < b→S.getD a 0≤S.getD y 0
theorem PIn.inc {S:List Int}{a i k b:Nat} (h:PIn S a i k b) (hk:i < k) (hs:S.getD i 0 < S.getD a 0):PIn S a (i+1) k b :=
 ⟨by have:=h.h1;omega,by omega,h.h3,fun x h1 h2=>by
  by_cases hx:x=i
  ·subst hx;exact hs
  ·exact h.lo x h1 (by omega),h.hi⟩
theorem PIn.dec {S:List Int}{a i k b:Nat} (h:PIn S a i (k+1) b) (hk:i < k+1) (hs:S.getD a 0≤S.getD k 0):PIn S a i k b :=
 ⟨h.h1,by omega,by have:=h.h3;omega,h.lo,fun y h1 h2=>by
  by_cases hy:y=k
  ·subst hy;exact hs
  ·exact h.hi y (by omega) h2⟩
theorem PIn.swap {S:List Int}{a i k b:Nat} (h:PIn S a i (k+1) b) (hb:b≤S.length) (hk:i < k) (h1:S.getD a 0≤S.getD i 0) (h2:S.getD k 0 < S.getD a 0):PIn (swp S i k) a (i+1) k b:=by
 have p1:=h.h1
 have p3:=h.h3
 have ha:(swp S i k).getD a 0=S.getD a 0:=by rw [swp_at (by omega) (by omega),if_neg (by omega),if_neg (by omega)]
 refine ⟨by omega,by omega,by omega,fun x q1 q2=>?_,fun y q1 q2=>?_⟩
 ·rw [ha,swp_at (by omega) (by omega)]
  split
  ·exact h2
  ·split
   ·omega
   ·exact h.lo x q1 (by omega)
 ·rw [ha,swp_at (by omega) (by omega)]
  split
  ·omega
  ·split
   ·exact h1
   ·exact h.hi y (by omega) q2
theorem cutK {C:Ctx}{st:List (Nat×Value)}{M:List Row}{k k2:List Item}{X:Type} (stF:X→List (Nat×Value)) (MF:X→List Row) (h:(∀ x,J C (stF x) (MF x) k2)→J C st M k) (hk:∀ x,J C (stF x) (MF x) k2):J C st M k:=h hk
def Par (S:List Int) (a m b:Nat):Prop:=(a≤m∧m < b)∧(∀ x,a≤x→x < m→S.getD x 0≤S.getD m 0)∧∀ y,m < y→y < b→S.getD m 0≤S.getD y 0
theorem PIn.fin {S:List Int}{a k b:Nat} (h:PIn S a (k+1) (k+1) b) (hb:b≤S.length):Par (swp S k a) a k b:=by
 have p1:=h.h1
 have p3:=h.h3
 have hm:(swp S k a).getD k 0=S.getD a 0:=by rw [swp_at (by omega) (by omega),if_pos rfl]
 refine ⟨⟨by omega,by omega⟩,fun x q1 q2=>?_,fun y q1 q2=>?_⟩
 ·rw [hm,swp_at (by omega) (by omega),if_neg (by omega)]
  split
  ·exact Int.le_of_lt (h.lo k (by omega) (by omega))
  ·exact Int.le_of_lt (h.lo x (by omega) (by omega))
 ·rw [hm,swp_at (by omega) (by omega),if_neg (by omega),if_neg (by omega)]
  exact h.hi y (by omega) q2
set_option maxHeartbeats 4000000 in
theorem partition_holds (w0:World) (M:List Row) (w:World) (g tot n cp:Nat) (S:List Int) (a b p:Nat) (hw:Sat w0 (.blk g 3 (flat isV S) tot::M) w) (hb:b≤n) (hn:n=S.length) (hl:n≤1000000000) (hp:a≤p∧p < b) :
  Calls Tryz.prog 187 #[.slice (some ⟨g,0,none⟩) n cp,.int .i64 a,.int .i64 b,.int .i64 p] w fun e w'=>∃ S' m bo,(WP S a b S'∧Par S' a m b)∧e=.returned (.tuple #[.int .i64 (m:Nat),.bool bo])∧Sat w0 (.blk g 3 (flat isV S') tot::M) w':=by
 refine enterR [(0,.slice (some ⟨g,0,none⟩) n cp),(1,.int .i64 a),(2,.int .i64 b),(3,.int .i64 p)] hw Tryz.func187 Tryz.ntmps187 ?_
 have w1:=WP.swp (S:=S) (a:=a) (b:=b) (x:=a) (y:=p) ⟨Nat.le_refl _,by omega⟩ hp (by omega)
 have q1:=gI (S:=S) (j:=a) (by omega)
 have q2:=gI (S:=S) (j:=p) (by omega)
 have r1:=sI (S:=S) (j:=a) (v:=(S).getD p 0) (by omega)
 have r2:=sI (S:=(S).set a ((S).getD p 0)) (j:=p) (v:=(S).getD a 0) (by rw [List.length_set];omega)
 have l1:0+a*1 < (flat isV (S)).length:=by rw [isLen];omega
 have l2:0+p*1 < (flat isV ((S).set a ((S).getD p 0))).length:=by rw [isLen,List.length_set];omega
 dsimp only [swp] at w1
 generalize S.getD a 0=y at *
 generalize S.getD p 0=z at *
 generalize S.set a z=S3 at *
 generalize S3.set p y=S4 at *
 all_goals (refine goR ?_;and_intros<;>(try exact trivial)<;>repeat (first|refine fun (Bk:Nat)=>?_|intro h))
 repeat' ((first|(apply G.ld;rfl;(apply LdV.one;exact CellV.blk (by exact mm) q1);rfl)|(apply G.ld;rfl;(apply LdV.one;exact CellV.blk (by exact mm) q2);rfl)|(apply J.regX 0 [2,3] (.q 0 <| .q 1 <| .q 2 <| .q 3 <| .q 4 <| .q 5 <| .q 6 <| .q 7 <| .q 8 <| .q 9 <| .q 10 <| .q 11 <| .q 12 <| .e 13 <| .q 14 <| .e 15 <| .nil);exact Tryz.mixed;decide +kernel)|(apply G.s1n (n:=0);rfl;rfl;rfl;exact rfl;exact ⟨rfl,rfl⟩;exact l1;exact r1)|(apply G.s1n (n:=0);rfl;rfl;rfl;exact rfl;exact ⟨rfl,rfl⟩;exact l2;exact r2)|(apply J.regQ;exact Tryz.mixed;decide +kernel)|(apply J.regL';exact Tryz.mixed;decide +kernel))<;>(refine goR ?_;and_intros<;>(try exact trivial)<;>repeat (first|refine fun (Bk:Nat)=>?_|intro h)))
 have hl4:=w1.len
 clear q1 q2 r1 r2 l1 l2
 rw [show (a:Int)+1=((a+1:Nat):Int) by omega]
 have hP:PIn S4 a (a+1) b b:=⟨Nat.le_refl _,by omega,Nat.le_refl _,fun x h1 h2=>by omega,fun y h1 h2=>by omega⟩
 apply cutK (X:={ x:Nat // PIn S4 a x b b∧(x=b∨x < b∧(S4).getD a 0≤(S4).getD x 0) }) (fun x=>[(0,.slice (some ⟨g,0,none⟩) n cp),(1,.int .i64 a),(10,.int .i64 (x.1:Nat)),(11,.int .i64 ((b:Int)-1))]) (fun _=>.blk g 3 (flat isV S4) tot::M)
 ·intro hk
  refine J.loop (c:=_) ((a+1):Nat) (fun s=>b-s) (fun s=>[(0,.slice (some ⟨g,0,none⟩) n cp),(1,.int .i64 a),(10,.int .i64 (s:Nat)),(11,.int .i64 ((b:Int)-1))]) (fun s=>.blk g 3 (flat isV S4) tot::M) (fun s=>PIn S4 a s b b) ?_ sbT sbL ?_
  ·exact hP
  intro i hQ ih
  have p1:=hQ.h1
  have p2:=hQ.h2
  have p3:=hQ.h3
  by_cases c1:i < b
  ·have hle:=fun w'=>lessI_holds ((S4).getD i 0) ((S4).getD a 0) w'
   have q1:=gI (S:=S4) (j:=i) (by omega)
   have q2:=gI (S:=S4) (j:=a) (by omega)
   by_cases c2:(S4).getD i 0 < (S4).getD a 0
   ·have ih:=ih (i+1) (hQ.inc c1 c2) (by omega)
    rw [decide_eq_true c2] at hle
    clear hQ hk
    generalize (S4).getD i 0=y at hle q1
    generalize (S4).getD a 0=z at hle q2
    all_goals (refine goR ?_;and_intros<;>(try exact trivial)<;>repeat (first|refine fun (Bk:Nat)=>?_|intro h))
    repeat' ((first|(apply G.ld;rfl;(apply LdV.one;exact CellV.blk (by exact mm) q1);rfl)|(apply G.ld;rfl;(apply LdV.one;exact CellV.blk (by exact mm) q2);rfl)|(apply G.cV (g:=185);rfl;rfl;exact fun w' _=>hle w')|(apply J.regA (.q 0 <| .q 1 <| .q 2 <| .q 3 <| .q 4 <| .q 5 <| .q 6 <| .q 7 <| .q 8 <| .q 9 <| .q 10 <| .q 11 <| .q 12 <| .q 13 <| .nil);exact Tryz.mixed;decide +kernel)|(apply J.regA (.q 0 <| .q 1 <| .q 2 <| .q 3 <| .q 4 <| .q 5 <| .q 6 <| .q 7 <| .q 8 <| .q 9 <| .q 10 <| .q 11 <| .q 12 <| .q 13 <| .q 14 <| .nil);exact Tryz.mixed;decide +kernel)|(apply J.regQ;exact Tryz.mixed;decide +kernel)|(apply J.regL';exact Tryz.mixed;decide +kernel))<;>(refine goR ?_;and_intros<;>(try exact trivial)<;>repeat (first|refine fun (Bk:Nat)=>?_|intro h)))
    exact J.fin ih
   ·have hk2:=hk ⟨i,hQ,.inr ⟨c1,by omega⟩⟩
    dsimp only at hk2
    rw [decide_eq_false c2] at hle
    clear hk hQ ih
    generalize (S4).getD i 0=y at hle q1
    generalize (S4).getD a 0=z at hle q2
    all_goals (refine goR ?_;and_intros<;>(try exact trivial)<;>repeat (first|refine fun (Bk:Nat)=>?_|intro h))
    repeat' ((first|(apply G.ld;rfl;(apply LdV.one;exact CellV.blk (by exact mm) q1);rfl)|(apply G.ld;rfl;(apply LdV.one;exact CellV.blk (by exact mm) q2);rfl)|(apply G.cV (g:=185);rfl;rfl;exact fun w' _=>hle w')|(apply J.regA (.q 0 <| .q 1 <| .q 2 <| .q 3 <| .q 4 <| .q 5 <| .q 6 <| .q 7 <| .q 8 <| .q 9 <| .q 10 <| .q 11 <| .q 12 <| .q 13 <| .nil);exact Tryz.mixed;decide +kernel)|(apply J.regA (.q 0 <| .q 1 <| .q 2 <| .q 3 <| .q 4 <| .q 5 <| .q 6 <| .q 7 <| .q 8 <| .q 9 <| .q 10 <| .q 11 <| .q 12 <| .q 13 <| .q 14 <| .nil);exact Tryz.mixed;decide +kernel)|(apply J.regQ;exact Tryz.mixed;decide +kernel)|(apply J.regL';exact Tryz.mixed;decide +kernel))<;>(refine goR ?_;and_intros<;>(try exact trivial)<;>repeat (first|refine fun (Bk:Nat)=>?_|intro h)))
    exact J.fin hk2
  ·have hk2:=hk ⟨i,hQ,.inl (by omega)⟩
   dsimp only at hk2
   clear hk hQ ih
   all_goals (refine goR ?_;and_intros<;>(try exact trivial)<;>repeat (first|refine fun (Bk:Nat)=>?_|intro h))
   repeat' ((first|(apply G.cV (g:=185);rfl;rfl;exact fun w' _=>hle w')|(apply J.regA (.q 0 <| .q 1 <| .q 2 <| .q 3 <| .q 4 <| .q 5 <| .q 6 <| .q 7 <| .q 8 <| .q 9 <| .q 10 <| .q 11 <| .q 12 <| .q 13 <| .nil);exact Tryz.mixed;decide +kernel)|(apply J.regA (.q 0 <| .q 1 <| .q 2 <| .q 3 <| .q 4 <| .q 5 <| .q 6 <| .q 7 <| .q 8 <| .q 9 <| .q 10 <| .q 11 <| .q 12 <| .q 13 <| .q 14 <| .nil);exact Tryz.mixed;decide +kernel)|(apply J.regQ;exact Tryz.mixed;decide +kernel)|(apply J.regL';exact Tryz.mixed;decide +kernel))<;>(refine goR ?_;and_intros<;>(try exact trivial)<;>repeat (first|refine fun (Bk:Nat)=>?_|intro h)))
   exact J.fin hk2
 clear hP
 rintro ⟨i,hP,hx⟩
 dsimp only at hP hx ⊢
 all_goals (refine go ?_;and_intros<;>(try exact trivial)<;>repeat (first|refine fun (Bk:Nat)=>?_|intro h))
 refine J.loop (c:=_) (b:Nat) (fun s=>s) (fun s=>[(0,.slice (some ⟨g,0,none⟩) n cp),(1,.int .i64 a),(10,.int .i64 (i:Nat)),(11,.int .i64 ((s:Int)-1))]) (fun s=>.blk g 3 (flat isV S4) tot::M) (fun s=>PIn S4 a i s b∧s≤b) ?_ sbT sbL ?_
 ·exact ⟨hP,Nat.le_refl _⟩
 clear hP
 intro k ⟨hP,hk3⟩ ih
 have p1:=hP.h1
 have p2:=hP.h2
 have p3:=hP.h3
 have q2:=gI (S:=S4) (j:=a) (by omega)
 by_cases hst:i < k∧¬ (S4).getD (k-1) 0 < (S4).getD a 0
 ·obtain ⟨k,rfl⟩:∃ j,k=j+1:=⟨k-1,by omega⟩
  rw [Nat.add_sub_cancel] at hst
  obtain ⟨c1,c2⟩:=hst
  rw [show ((k+1:Nat):Int)-1=(k:Int) by omega]
  have hle:=fun w'=>lessI_holds ((S4).getD k 0) ((S4).getD a 0) w'
  have q1:=gI (S:=S4) (j:=k) (by omega)
  have ih:=ih k ⟨hP.dec c1 (by omega),by omega⟩ (by omega)
  rw [decide_eq_false c2] at hle
  clear hP
  generalize (S4).getD k 0=y at hle q1
  generalize (S4).getD a 0=z at hle q2
  all_goals (refine goR ?_;and_intros<;>(try exact trivial)<;>repeat (first|refine fun (Bk:Nat)=>?_|intro h))
  repeat' ((first|(apply G.ld;rfl;(apply LdV.one;exact CellV.blk (by exact mm) q1);rfl)|(apply G.ld;rfl;(apply LdV.one;exact CellV.blk (by exact mm) q2);rfl)|(apply G.cV (g:=185);rfl;rfl;exact fun w' _=>hle w')|(apply J.regA (.q 0 <| .q 1 <| .q 2 <| .q 3 <| .q 4 <| .q 5 <| .q 6 <| .q 7 <| .q 8 <| .q 9 <| .q 10 <| .q 11 <| .q 12 <| .q 13 <| .nil);exact Tryz.mixed;decide +kernel)|(apply J.regA (.q 0 <| .q 1 <| .q 2 <| .q 3 <| .q 4 <| .q 5 <| .q 6 <| .q 7 <| .q 8 <| .q 9 <| .q 10 <| .q 11 <| .q 12 <| .q 13 <| .q 14 <| .nil);exact Tryz.mixed;decide +kernel)|(apply J.regQ;exact Tryz.mixed;decide +kernel)|(apply J.regL';exact Tryz.mixed;decide +kernel))<;>(refine goR ?_;and_intros<;>(try exact trivial)<;>repeat (first|refine fun (Bk:Nat)=>?_|intro h)))
  exact J.fin ih
 clear ih
 by_cases c1:i < k
 ·have hx:S4.getD a 0≤S4.getD i 0:=by
   rcases hx with h|h
   ·exfalso;omega
   ·exact h.2
  obtain ⟨k,rfl⟩:∃ j,k=j+1:=⟨k-1,by omega⟩
  rw [Nat.add_sub_cancel] at hst
  have c2:(S4).getD k 0 < (S4).getD a 0:=Decidable.not_not.1 fun h=>hst ⟨c1,h⟩
  rw [show ((k+1:Nat):Int)-1=(k:Int) by omega]
  have hle:=fun w'=>lessI_holds ((S4).getD k 0) ((S4).getD a 0) w'
  have q1:=gI (S:=S4) (j:=k) (by omega)
  rw [decide_eq_true c2] at hle
  generalize (S4).getD k 0=y at hle q1
  generalize (S4).getD a 0=z at hle q2
  have hik:i≠k:=fun e=>by subst e;omega
  have hsw:=hP.swap (by omega) (by omega) hx c2
  have w2:=w1.trans (WP.swp (S:=S4) (a:=a) (b:=b) (x:=i) (y:=k) ⟨by omega,by omega⟩ ⟨by omega,by omega⟩ (by omega))
  all_goals (refine goR ?_;and_intros<;>(try exact trivial)<;>repeat (first|refine fun (Bk:Nat)=>?_|intro h))
  repeat' ((first|(apply G.ld;rfl;(apply LdV.one;exact CellV.blk (by exact mm) q1);rfl)|(apply G.ld;rfl;(apply LdV.one;exact CellV.blk (by exact mm) q2);rfl)|(apply G.cV (g:=185);rfl;rfl;exact fun w' _=>hle w')|(apply J.regA (.q 0 <| .q 1 <| .q 2 <| .q 3 <| .q 4 <| .q 5 <| .q 6 <| .q 7 <| .q 8 <| .q 9 <| .q 10 <| .q 11 <| .q 12 <| .q 13 <| .nil);exact Tryz.mixed;decide +kernel)|(apply J.regA (.q 0 <| .q 1 <| .q 2 <| .q 3 <| .q 4 <| .q 5 <| .q 6 <| .q 7 <| .q 8 <| .q 9 <| .q 10 <| .q 11 <| .q 12 <| .q 13 <| .q 14 <| .nil);exact Tryz.mixed;decide +kernel)|(apply J.regQ;exact Tryz.mixed;decide +kernel)|(apply J.regL';exact Tryz.mixed;decide +kernel))<;>(refine goR ?_;and_intros<;>(try exact trivial)<;>repeat (first|refine fun (Bk:Nat)=>?_|intro h)))
  have q1:=gI (S:=S4) (j:=i) (by omega)
  have q2:=gI (S:=S4) (j:=k) (by omega)
  have r1:=sI (S:=S4) (j:=i) (v:=(S4).getD k 0) (by omega)
  have r2:=sI (S:=(S4).set i ((S4).getD k 0)) (j:=k) (v:=(S4).getD i 0) (by rw [List.length_set];omega)
  have l1:0+i*1 < (flat isV (S4)).length:=by rw [isLen];omega
  have l2:0+k*1 < (flat isV ((S4).set i ((S4).getD k 0))).length:=by rw [isLen,List.length_set];omega
  dsimp only [swp] at w2 hsw
  clear hP hx w1 hst c2
  generalize S4.getD i 0=y at *
  generalize S4.getD k 0=z at *
  generalize S4.set i z=S5 at *
  generalize S5.set k y=S6 at *
  all_goals (refine goR ?_;and_intros<;>(try exact trivial)<;>repeat (first|refine fun (Bk:Nat)=>?_|intro h))
  repeat' ((first|(apply G.ld;rfl;(apply LdV.one;exact CellV.blk (by exact mm) q1);rfl)|(apply G.ld;rfl;(apply LdV.one;exact CellV.blk (by exact mm) q2);rfl)|(apply J.regX 0 [2,3] (.q 0 <| .q 1 <| .q 2 <| .q 3 <| .q 4 <| .q 5 <| .q 6 <| .q 7 <| .q 8 <| .q 9 <| .q 10 <| .q 11 <| .q 12 <| .e 13 <| .q 14 <| .e 15 <| .nil);exact Tryz.mixed;decide +kernel)|(apply G.s1n (n:=0);rfl;rfl;rfl;exact rfl;exact ⟨rfl,rfl⟩;exact l1;exact r1)|(apply G.s1n (n:=0);rfl;rfl;rfl;exact rfl;exact ⟨rfl,rfl⟩;exact l2;exact r2)|(apply J.regQ;exact Tryz.mixed;decide +kernel)|(apply J.regL';exact Tryz.mixed;decide +kernel))<;>(refine goR ?_;and_intros<;>(try exact trivial)<;>repeat (first|refine fun (Bk:Nat)=>?_|intro h)))
  rw [show (i:Int)+1=((i+1:Nat):Int) by omega]
  have hl6:=w2.len
  clear hl4 q1 q2 r1 r2 l1 l2 p1 p2 p3 hle
  dsimp only [List.set]
  refine J.loop (c:=_) ((i+1,k,S6):Nat×Nat×List Int) (fun s=>s.2.1) (fun s=>[(0,.slice (some ⟨g,0,none⟩) n cp),(1,.int .i64 a),(10,.int .i64 (s.1:Nat)),(11,.int .i64 ((s.2.1:Int)-1))]) (fun s=>.blk g 3 (flat isV s.2.2) tot::M) (fun s=>WP S a b s.2.2∧PIn s.2.2 a s.1 s.2.1 b) ?_ sbT sbL ?_
  ·exact ⟨w2,hsw⟩
  clear w2 hsw hl6
  intro ⟨i,k,S4⟩ ⟨w1,hP⟩ ihm
  dsimp only at w1 hP ⊢
  have hl4:=w1.len
  all_goals (refine go ?_;and_intros<;>(try exact trivial)<;>repeat (first|refine fun (Bk:Nat)=>?_|intro h))
  apply cutK (X:={ x:Nat // PIn S4 a x k b∧(x=k∨x < k∧(S4).getD a 0≤(S4).getD x 0) }) (fun x=>[(0,.slice (some ⟨g,0,none⟩) n cp),(1,.int .i64 a),(10,.int .i64 (x.1:Nat)),(11,.int .i64 ((k:Int)-1))]) (fun _=>.blk g 3 (flat isV S4) tot::M)
  ·intro hk
   refine J.loop (c:=_) (i:Nat) (fun s=>k-s) (fun s=>[(0,.slice (some ⟨g,0,none⟩) n cp),(1,.int .i64 a),(10,.int .i64 (s:Nat)),(11,.int .i64 ((k:Int)-1))]) (fun s=>.blk g 3 (flat isV S4) tot::M) (fun s=>PIn S4 a s k b) ?_ sbT sbL ?_
   ·exact hP
   intro i hQ ih
   have p1:=hQ.h1
   have p2:=hQ.h2
   have p3:=hQ.h3
   by_cases c1:i < k
   ·have hle:=fun w'=>lessI_holds ((S4).getD i 0) ((S4).getD a 0) w'
    have q1:=gI (S:=S4) (j:=i) (by omega)
    have q2:=gI (S:=S4) (j:=a) (by omega)
    by_cases c2:(S4).getD i 0 < (S4).getD a 0
    ·have ih:=ih (i+1) (hQ.inc c1 c2) (by omega)
     rw [decide_eq_true c2] at hle
     clear hQ hk
     generalize (S4).getD i 0=y at hle q1
     generalize (S4).getD a 0=z at hle q2
     all_goals (refine goR ?_;and_intros<;>(try exact trivial)<;>repeat (first|refine fun (Bk:Nat)=>?_|intro h))
     repeat' ((first|(apply G.ld;rfl;(apply LdV.one;exact CellV.blk (by exact mm) q1);rfl)|(apply G.ld;rfl;(apply LdV.one;exact CellV.blk (by exact mm) q2);rfl)|(apply G.cV (g:=185);rfl;rfl;exact fun w' _=>hle w')|(apply J.regA (.q 0 <| .q 1 <| .q 2 <| .q 3 <| .q 4 <| .q 5 <| .q 6 <| .q 7 <| .q 8 <| .q 9 <| .q 10 <| .q 11 <| .q 12 <| .q 13 <| .nil);exact Tryz.mixed;decide +kernel)|(apply J.regA (.q 0 <| .q 1 <| .q 2 <| .q 3 <| .q 4 <| .q 5 <| .q 6 <| .q 7 <| .q 8 <| .q 9 <| .q 10 <| .q 11 <| .q 12 <| .q 13 <| .q 14 <| .nil);exact Tryz.mixed;decide +kernel)|(apply J.regQ;exact Tryz.mixed;decide +kernel)|(apply J.regL';exact Tryz.mixed;decide +kernel))<;>(refine goR ?_;and_intros<;>(try exact trivial)<;>repeat (first|refine fun (Bk:Nat)=>?_|intro h)))
     exact J.fin ih
    ·have hk2:=hk ⟨i,hQ,.inr ⟨c1,by omega⟩⟩
     dsimp only at hk2
     rw [decide_eq_false c2] at hle
     clear hk hQ ih
     generalize (S4).getD i 0=y at hle q1
     generalize (S4).getD a 0=z at hle q2
     all_goals (refine goR ?_;and_intros<;>(try exact trivial)<;>repeat (first|refine fun (Bk:Nat)=>?_|intro h))
     repeat' ((first|(apply G.ld;rfl;(apply LdV.one;exact CellV.blk (by exact mm) q1);rfl)|(apply G.ld;rfl;(apply LdV.one;exact CellV.blk (by exact mm) q2);rfl)|(apply G.cV (g:=185);rfl;rfl;exact fun w' _=>hle w')|(apply J.regA (.q 0 <| .q 1 <| .q 2 <| .q 3 <| .q 4 <| .q 5 <| .q 6 <| .q 7 <| .q 8 <| .q 9 <| .q 10 <| .q 11 <| .q 12 <| .q 13 <| .nil);exact Tryz.mixed;decide +kernel)|(apply J.regA (.q 0 <| .q 1 <| .q 2 <| .q 3 <| .q 4 <| .q 5 <| .q 6 <| .q 7 <| .q 8 <| .q 9 <| .q 10 <| .q 11 <| .q 12 <| .q 13 <| .q 14 <| .nil);exact Tryz.mixed;decide +kernel)|(apply J.regQ;exact Tryz.mixed;decide +kernel)|(apply J.regL';exact Tryz.mixed;decide +kernel))<;>(refine goR ?_;and_intros<;>(try exact trivial)<;>repeat (first|refine fun (Bk:Nat)=>?_|intro h)))
     exact J.fin hk2
   ·have hk2:=hk ⟨i,hQ,.inl (by omega)⟩
    dsimp only at hk2
    clear hk hQ ih
    all_goals (refine goR ?_;and_intros<;>(try exact trivial)<;>repeat (first|refine fun (Bk:Nat)=>?_|intro h))
    repeat' ((first|(apply G.cV (g:=185);rfl;rfl;exact fun w' _=>hle w')|(apply J.regA (.q 0 <| .q 1 <| .q 2 <| .q 3 <| .q 4 <| .q 5 <| .q 6 <| .q 7 <| .q 8 <| .q 9 <| .q 10 <| .q 11 <| .q 12 <| .q 13 <| .nil);exact Tryz.mixed;decide +kernel)|(apply J.regA (.q 0 <| .q 1 <| .q 2 <| .q 3 <| .q 4 <| .q 5 <| .q 6 <| .q 7 <| .q 8 <| .q 9 <| .q 10 <| .q 11 <| .q 12 <| .q 13 <| .q 14 <| .nil);exact Tryz.mixed;decide +kernel)|(apply J.regQ;exact Tryz.mixed;decide +kernel)|(apply J.regL';exact Tryz.mixed;decide +kernel))<;>(refine goR ?_;and_intros<;>(try exact trivial)<;>repeat (first|refine fun (Bk:Nat)=>?_|intro h)))
    exact J.fin hk2
  clear hP
  rintro ⟨i,hP,hx⟩
  dsimp only at hP hx ⊢
  obtain ⟨kk,hkk⟩:∃ kk,kk=k:=⟨_,rfl⟩
  all_goals (refine go ?_;and_intros<;>(try exact trivial)<;>repeat (first|refine fun (Bk:Nat)=>?_|intro h))
  refine J.loop (c:=_) (k:Nat) (fun s=>s) (fun s=>[(0,.slice (some ⟨g,0,none⟩) n cp),(1,.int .i64 a),(10,.int .i64 (i:Nat)),(11,.int .i64 ((s:Int)-1))]) (fun s=>.blk g 3 (flat isV S4) tot::M) (fun s=>PIn S4 a i s b∧s≤k) ?_ sbT sbL ?_
  ·exact ⟨hP,Nat.le_refl _⟩
  clear hP
  intro k ⟨hP,hk3⟩ ih
  have p1:=hP.h1
  have p2:=hP.h2
  have p3:=hP.h3
  have q2:=gI (S:=S4) (j:=a) (by omega)
  by_cases hst:i < k∧¬ (S4).getD (k-1) 0 < (S4).getD a 0
  ·obtain ⟨k,rfl⟩:∃ j,k=j+1:=⟨k-1,by omega⟩
   rw [Nat.add_sub_cancel] at hst
   obtain ⟨c1,c2⟩:=hst
   rw [show ((k+1:Nat):Int)-1=(k:Int) by omega]
   have hle:=fun w'=>lessI_holds ((S4).getD k 0) ((S4).getD a 0) w'
   have q1:=gI (S:=S4) (j:=k) (by omega)
   have ih:=ih k ⟨hP.dec c1 (by omega),by omega⟩ (by omega)
   rw [decide_eq_false c2] at hle
   clear hP
   generalize (S4).getD k 0=y at hle q1
   generalize (S4).getD a 0=z at hle q2
   all_goals (refine goR ?_;and_intros<;>(try exact trivial)<;>repeat (first|refine fun (Bk:Nat)=>?_|intro h))
   repeat' ((first|(apply G.ld;rfl;(apply LdV.one;exact CellV.blk (by exact mm) q1);rfl)|(apply G.ld;rfl;(apply LdV.one;exact CellV.blk (by exact mm) q2);rfl)|(apply G.cV (g:=185);rfl;rfl;exact fun w' _=>hle w')|(apply J.regA (.q 0 <| .q 1 <| .q 2 <| .q 3 <| .q 4 <| .q 5 <| .q 6 <| .q 7 <| .q 8 <| .q 9 <| .q 10 <| .q 11 <| .q 12 <| .q 13 <| .nil);exact Tryz.mixed;decide +kernel)|(apply J.regA (.q 0 <| .q 1 <| .q 2 <| .q 3 <| .q 4 <| .q 5 <| .q 6 <| .q 7 <| .q 8 <| .q 9 <| .q 10 <| .q 11 <| .q 12 <| .q 13 <| .q 14 <| .nil);exact Tryz.mixed;decide +kernel)|(apply J.regQ;exact Tryz.mixed;decide +kernel)|(apply J.regL';exact Tryz.mixed;decide +kernel))<;>(refine goR ?_;and_intros<;>(try exact trivial)<;>repeat (first|refine fun (Bk:Nat)=>?_|intro h)))
   exact J.fin ih
  clear ih
  by_cases c1:i < k
  ·have hx:S4.getD a 0≤S4.getD i 0:=by
    rcases hx with h|h
    ·exfalso;omega
    ·exact h.2
   obtain ⟨k,rfl⟩:∃ j,k=j+1:=⟨k-1,by omega⟩
   rw [Nat.add_sub_cancel] at hst
   have c2:(S4).getD k 0 < (S4).getD a 0:=Decidable.not_not.1 fun h=>hst ⟨c1,h⟩
   rw [show ((k+1:Nat):Int)-1=(k:Int) by omega]
   have hle:=fun w'=>lessI_holds ((S4).getD k 0) ((S4).getD a 0) w'
   have q1:=gI (S:=S4) (j:=k) (by omega)
   rw [decide_eq_true c2] at hle
   generalize (S4).getD k 0=y at hle q1
   generalize (S4).getD a 0=z at hle q2
   have hik:i≠k:=fun e=>by subst e;omega
   have hsw:=hP.swap (by omega) (by omega) hx c2
   have w2:=w1.trans (WP.swp (S:=S4) (a:=a) (b:=b) (x:=i) (y:=k) ⟨by omega,by omega⟩ ⟨by omega,by omega⟩ (by omega))
   all_goals (refine goR ?_;and_intros<;>(try exact trivial)<;>repeat (first|refine fun (Bk:Nat)=>?_|intro h))
   repeat' ((first|(apply G.ld;rfl;(apply LdV.one;exact CellV.blk (by exact mm) q1);rfl)|(apply G.ld;rfl;(apply LdV.one;exact CellV.blk (by exact mm) q2);rfl)|(apply G.cV (g:=185);rfl;rfl;exact fun w' _=>hle w')|(apply J.regA (.q 0 <| .q 1 <| .q 2 <| .q 3 <| .q 4 <| .q 5 <| .q 6 <| .q 7 <| .q 8 <| .q 9 <| .q 10 <| .q 11 <| .q 12 <| .q 13 <| .nil);exact Tryz.mixed;decide +kernel)|(apply J.regA (.q 0 <| .q 1 <| .q 2 <| .q 3 <| .q 4 <| .q 5 <| .q 6 <| .q 7 <| .q 8 <| .q 9 <| .q 10 <| .q 11 <| .q 12 <| .q 13 <| .q 14 <| .nil);exact Tryz.mixed;decide +kernel)|(apply J.regQ;exact Tryz.mixed;decide +kernel)|(apply J.regL';exact Tryz.mixed;decide +kernel))<;>(refine goR ?_;and_intros<;>(try exact trivial)<;>repeat (first|refine fun (Bk:Nat)=>?_|intro h)))
   have q1:=gI (S:=S4) (j:=i) (by omega)
   have q2:=gI (S:=S4) (j:=k) (by omega)
   have r1:=sI (S:=S4) (j:=i) (v:=(S4).getD k 0) (by omega)
   have r2:=sI (S:=(S4).set i ((S4).getD k 0)) (j:=k) (v:=(S4).getD i 0) (by rw [List.length_set];omega)
   have l1:0+i*1 < (flat isV (S4)).length:=by rw [isLen];omega
   have l2:0+k*1 < (flat isV ((S4).set i ((S4).getD k 0))).length:=by rw [isLen,List.length_set];omega
   have ihm:=ihm (i+1,k,swp S4 i k) ⟨w2,hsw⟩ (by dsimp only;omega)
   dsimp only [swp] at ihm
   clear hP hx w1 hst c2 w2 hsw
   generalize S4.getD i 0=y at *
   generalize S4.getD k 0=z at *
   generalize S4.set i z=S5 at *
   generalize S5.set k y=S6 at *
   all_goals (refine goR ?_;and_intros<;>(try exact trivial)<;>repeat (first|refine fun (Bk:Nat)=>?_|intro h))
   repeat' ((first|(apply G.ld;rfl;(apply LdV.one;exact CellV.blk (by exact mm) q1);rfl)|(apply G.ld;rfl;(apply LdV.one;exact CellV.blk (by exact mm) q2);rfl)|(apply J.regX 0 [2,3] (.q 0 <| .q 1 <| .q 2 <| .q 3 <| .q 4 <| .q 5 <| .q 6 <| .q 7 <| .q 8 <| .q 9 <| .q 10 <| .q 11 <| .q 12 <| .e 13 <| .q 14 <| .e 15 <| .nil);exact Tryz.mixed;decide +kernel)|(apply G.s1n (n:=0);rfl;rfl;rfl;exact rfl;exact ⟨rfl,rfl⟩;exact l1;exact r1)|(apply G.s1n (n:=0);rfl;rfl;rfl;exact rfl;exact ⟨rfl,rfl⟩;exact l2;exact r2)|(apply J.regQ;exact Tryz.mixed;decide +kernel)|(apply J.regL';exact Tryz.mixed;decide +kernel))<;>(refine goR ?_;and_intros<;>(try exact trivial)<;>repeat (first|refine fun (Bk:Nat)=>?_|intro h)))
   rw [show (i:Int)+1=((i+1:Nat):Int) by omega]
   exact J.fin ihm
  ·obtain rfl:i=k:=by omega
   obtain ⟨j,rfl⟩:∃ j,i=j+1:=⟨i-1,by omega⟩
   have hfin:=hP.fin (by omega)
   have w2:=w1.trans (WP.swp (S:=S4) (a:=a) (b:=b) (x:=j) (y:=a) ⟨by omega,by omega⟩ ⟨by omega,by omega⟩ (by omega))
   rw [show ((j+1:Nat):Int)-1=(j:Int) by omega]
   all_goals (refine goR ?_;and_intros<;>(try exact trivial)<;>repeat (first|refine fun (Bk:Nat)=>?_|intro h))
   repeat' ((first|(apply G.cV (g:=185);rfl;rfl;exact fun w' _=>hle w')|(apply J.regA (.q 0 <| .q 1 <| .q 2 <| .q 3 <| .q 4 <| .q 5 <| .q 6 <| .q 7 <| .q 8 <| .q 9 <| .q 10 <| .q 11 <| .q 12 <| .q 13 <| .nil);exact Tryz.mixed;decide +kernel)|(apply J.regA (.q 0 <| .q 1 <| .q 2 <| .q 3 <| .q 4 <| .q 5 <| .q 6 <| .q 7 <| .q 8 <| .q 9 <| .q 10 <| .q 11 <| .q 12 <| .q 13 <| .q 14 <| .nil);exact Tryz.mixed;decide +kernel)|(apply J.regQ;exact Tryz.mixed;decide +kernel)|(apply J.regL';exact Tryz.mixed;decide +kernel))<;>(refine goR ?_;and_intros<;>(try exact trivial)<;>repeat (first|refine fun (Bk:Nat)=>?_|intro h)))
   have q1:=gI (S:=S4) (j:=j) (by omega)
   have q2:=gI (S:=S4) (j:=a) (by omega)
   have r1:=sI (S:=S4) (j:=j) (v:=(S4).getD a 0) (by omega)
   have r2:=sI (S:=(S4).set j ((S4).getD a 0)) (j:=a) (v:=(S4).getD j 0) (by rw [List.length_set];omega)
   have l1:0+j*1 < (flat isV (S4)).length:=by rw [isLen];omega
   have l2:0+a*1 < (flat isV ((S4).set j ((S4).getD a 0))).length:=by rw [isLen,List.length_set];omega
   dsimp only [swp] at w2 hfin
   clear hP hx w1 ihm
   generalize S4.getD j 0=y at *
   generalize S4.getD a 0=z at *
   generalize S4.set j z=S5 at *
   generalize S5.set a y=S6 at *
   all_goals (refine goR ?_;and_intros<;>(try exact trivial)<;>repeat (first|refine fun (Bk:Nat)=>?_|intro h))
   repeat' ((first|(apply G.ld;rfl;(apply LdV.one;exact CellV.blk (by exact mm) q1);rfl)|(apply G.ld;rfl;(apply LdV.one;exact CellV.blk (by exact mm) q2);rfl)|(apply J.regX 0 [2,3] (.q 0 <| .q 1 <| .q 2 <| .q 3 <| .q 4 <| .q 5 <| .q 6 <| .q 7 <| .q 8 <| .q 9 <| .q 10 <| .q 11 <| .q 12 <| .e 13 <| .q 14 <| .e 15 <| .nil);exact Tryz.mixed;decide +kernel)|(apply G.s1n (n:=0);rfl;rfl;rfl;exact rfl;exact ⟨rfl,rfl⟩;exact l1;exact r1)|(apply G.s1n (n:=0);rfl;rfl;rfl;exact rfl;exact ⟨rfl,rfl⟩;exact l2;exact r2)|(apply J.regQ;exact Tryz.mixed;decide +kernel)|(apply J.regL';exact Tryz.mixed;decide +kernel))<;>(refine goR ?_;and_intros<;>(try exact trivial)<;>repeat (first|refine fun (Bk:Nat)=>?_|intro h)))
   refine ret2 Tryz.func187 Tryz.results187 ?_
   exact fun w' hw'=>⟨S6,j,false,⟨w2,hfin⟩,rfl,hw'⟩
 ·obtain rfl:i=k:=by omega
  obtain ⟨j,rfl⟩:∃ j,i=j+1:=⟨i-1,by omega⟩
  have hfin:=hP.fin (by omega)
  have w2:=w1.trans (WP.swp (S:=S4) (a:=a) (b:=b) (x:=j) (y:=a) ⟨by omega,by omega⟩ ⟨by omega,by omega⟩ (by omega))
  rw [show ((j+1:Nat):Int)-1=(j:Int) by omega]
  all_goals (refine goR ?_;and_intros<;>(try exact trivial)<;>repeat (first|refine fun (Bk:Nat)=>?_|intro h))
  repeat' ((first|(apply G.cV (g:=185);rfl;rfl;exact fun w' _=>hle w')|(apply J.regA (.q 0 <| .q 1 <| .q 2 <| .q 3 <| .q 4 <| .q 5 <| .q 6 <| .q 7 <| .q 8 <| .q 9 <| .q 10 <| .q 11 <| .q 12 <| .q 13 <| .nil);exact Tryz.mixed;decide +kernel)|(apply J.regA (.q 0 <| .q 1 <| .q 2 <| .q 3 <| .q 4 <| .q 5 <| .q 6 <| .q 7 <| .q 8 <| .q 9 <| .q 10 <| .q 11 <| .q 12 <| .q 13 <| .q 14 <| .nil);exact Tryz.mixed;decide +kernel)|(apply J.regQ;exact Tryz.mixed;decide +kernel)|(apply J.regL';exact Tryz.mixed;decide +kernel))<;>(refine goR ?_;and_intros<;>(try exact trivial)<;>repeat (first|refine fun (Bk:Nat)=>?_|intro h)))
  have q1:=gI (S:=S4) (j:=j) (by omega)
  have q2:=gI (S:=S4) (j:=a) (by omega)
  have r1:=sI (S:=S4) (j:=j) (v:=(S4).getD a 0) (by omega)
  have r2:=sI (S:=(S4).set j ((S4).getD a 0)) (j:=a) (v:=(S4).getD j 0) (by rw [List.length_set];omega)
  have l1:0+j*1 < (flat isV (S4)).length:=by rw [isLen];omega
  have l2:0+a*1 < (flat isV ((S4).set j ((S4).getD a 0))).length:=by rw [isLen,List.length_set];omega
  dsimp only [swp] at w2 hfin
  clear hP hx w1
  generalize S4.getD j 0=y at *
  generalize S4.getD a 0=z at *
  generalize S4.set j z=S5 at *
  generalize S5.set a y=S6 at *
  all_goals (refine goR ?_;and_intros<;>(try exact trivial)<;>repeat (first|refine fun (Bk:Nat)=>?_|intro h))
  repeat' ((first|(apply G.ld;rfl;(apply LdV.one;exact CellV.blk (by exact mm) q1);rfl)|(apply G.ld;rfl;(apply LdV.one;exact CellV.blk (by exact mm) q2);rfl)|(apply J.regX 0 [2,3] (.q 0 <| .q 1 <| .q 2 <| .q 3 <| .q 4 <| .q 5 <| .q 6 <| .q 7 <| .q 8 <| .q 9 <| .q 10 <| .q 11 <| .q 12 <| .e 13 <| .q 14 <| .e 15 <| .nil);exact Tryz.mixed;decide +kernel)|(apply G.s1n (n:=0);rfl;rfl;rfl;exact rfl;exact ⟨rfl,rfl⟩;exact l1;exact r1)|(apply G.s1n (n:=0);rfl;rfl;rfl;exact rfl;exact ⟨rfl,rfl⟩;exact l2;exact r2)|(apply J.regQ;exact Tryz.mixed;decide +kernel)|(apply J.regL';exact Tryz.mixed;decide +kernel))<;>(refine goR ?_;and_intros<;>(try exact trivial)<;>repeat (first|refine fun (Bk:Nat)=>?_|intro h)))
  refine ret2 Tryz.func187 Tryz.results187 ?_
  exact fun w' hw'=>⟨S6,j,true,⟨w2,hfin⟩,rfl,hw'⟩
end Go.Proofs.YtcdgibkbbcekhaaGreatDoor
