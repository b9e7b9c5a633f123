/-
  Contracts: the partial insertion of the library's sort.
-/
import Derived.Test.YtcdgibkbbcekhaaDoorRD6
set_option linter.unusedVariables false
set_option linter.unusedSimpArgs false
set_option linter.unusedSectionVars false
namespace Go.Proofs.YtcdgibkbbcekhaaDoor
open Go.RowKit Go.Sl Go.Num
theorem Srt.inc {S:List Int}{a i:Nat} (h:Srt S a (i+1)) (hs:S.getD i 0≤S.getD (i+1) 0) (ha:a≤i):Srt S a (i+2):=fun x y h1 h2 h3=>by
 by_cases hy:y=i+1
 ·subst hy
  by_cases hx:x=i
  ·subst hx;exact hs
  ·exact Int.le_trans (h x i h1 (by omega) (by omega)) hs
 ·exact h x y h1 h2 (by omega)
theorem Srt.less {S:List Int}{a i:Nat} (h:Srt S a (i+1)):Srt S a i:=fun x y h1 h2 h3=>h x y h1 h2 (by omega)
theorem Srt.pre {S T:List Int}{a i:Nat} (h:Srt S a i) (he:∀ z,z < i→T.getD z 0=S.getD z 0):Srt T a i:=fun x y h1 h2 h3=>by
 rw [he x (by omega),he y h3];exact h x y h1 h2 h3
set_option maxHeartbeats 4000000 in
theorem partIns_holds (w0:World) (M:List Row) (w:World) (g tot n cp:Nat) (S:List Int) (a b:Nat) (hw:Sat w0 (.blk g 3 (flat isV S) tot::M) w) (hb:b≤n) (hn:n=S.length) (hl:n≤1000000000) (hab:a < b) (hpre:0 < a→∀ z,a≤z→z < b→S.getD (a-1) 0≤S.getD z 0) :
  Calls Tryd.prog 74 #[.slice (some ⟨g,0,none⟩) n cp,.int .i64 a,.int .i64 b] w fun e w'=>∃ S' bo,(WP S a b S'∧(bo=true→Srt S' a b))∧e=.returned (.bool bo)∧Sat w0 (.blk g 3 (flat isV S') tot::M) w':=by
 refine enterR [(0,.slice (some ⟨g,0,none⟩) n cp),(1,.int .i64 a),(2,.int .i64 b)] hw Tryd.func74 Tryd.ntmps74 ?_
 all_goals (refine go ?_;and_intros<;>(try exact trivial)<;>repeat (first|refine fun (Bk:Nat)=>?_|intro h))
 rw [show (a:Int)+1=((a+1:Nat):Int) by omega]
 refine J.loop (c:=_) ((0,a,S):Nat×Nat×List Int) (fun s=>5-s.1) (fun s=>[(0,.slice (some ⟨g,0,none⟩) n cp),(1,.int .i64 a),(2,.int .i64 b),(7,.int .i64 ((s.2.1+1:Nat):Int)),(8,.int .i64 (s.1:Nat))]) (fun s=>.blk g 3 (flat isV s.2.2) tot::M) (fun s=>s.1≤5∧(a≤s.2.1∧s.2.1+1≤b)∧WP S a b s.2.2∧Srt s.2.2 a (s.2.1+1)) ?_ sbT sbL ?_
 ·exact ⟨Nat.zero_le _,⟨Nat.le_refl _,by dsimp only;omega⟩,WP.refl _ _ _,Srt.short (Nat.le_refl _)⟩
 intro ⟨c,i,S1⟩ ⟨c1,c2,w1,hS⟩ ihm
 dsimp only at c1 c2 w1 hS ⊢
 have hl1:=w1.len
 by_cases hc:c < 5
 case neg =>
  clear ihm
  all_goals (refine go ?_;and_intros<;>(try exact trivial)<;>repeat (first|refine fun (Bk:Nat)=>?_|intro h))
  refine ret1 Tryd.func74 Tryd.results74 ?_
  exact fun w' hw'=>⟨S1,false,⟨w1,fun h=>by cases h⟩,rfl,hw'⟩
 all_goals (refine go ?_;and_intros<;>(try exact trivial)<;>repeat (first|refine fun (Bk:Nat)=>?_|intro h))
 refine J.loop (c:=_) (i:Nat) (fun s=>b-s) (fun s=>[(0,.slice (some ⟨g,0,none⟩) n cp),(1,.int .i64 a),(2,.int .i64 b),(7,.int .i64 ((s+1:Nat):Int)),(8,.int .i64 (c:Nat))]) (fun s=>.blk g 3 (flat isV S1) tot::M) (fun s=>(a≤s∧s+1≤b)∧Srt S1 a (s+1)) ?_ sbT sbL ?_
 ·exact ⟨c2,hS⟩
 clear c2 hS
 intro i ⟨d1,d2⟩ ih
 by_cases e1:i+1 < b
 case neg =>
  obtain rfl:i+1=b:=by omega
  clear ihm ih
  all_goals (refine goR ?_;and_intros<;>(try exact trivial)<;>repeat (first|refine fun (Bk:Nat)=>?_|intro h))
  repeat' ((first|(apply G.cV (g:=75);rfl;rfl;exact fun w' _=>hle w')|(apply J.regA (.q 0 <| .q 1 <| .q 2 <| .q 3 <| .q 4 <| .q 5 <| .q 6 <| .q 7 <| .q 8 <| .q 9 <| .q 10 <| .q 11 <| .q 12 <| .q 13 <| .q 14 <| .q 15 <| .nil);exact Tryd.mixed;decide +kernel)|(apply J.regA (.q 0 <| .q 1 <| .q 2 <| .q 3 <| .q 4 <| .q 5 <| .q 6 <| .q 7 <| .q 8 <| .q 9 <| .q 10 <| .nil);exact Tryd.mixed;decide +kernel)|(apply J.regQ;exact Tryd.mixed;decide +kernel)|(apply J.regL';exact Tryd.mixed;decide +kernel))<;>(refine goR ?_;and_intros<;>(try exact trivial)<;>repeat (first|refine fun (Bk:Nat)=>?_|intro h)))
  refine ret1 Tryd.func74 Tryd.results74 ?_
  exact fun w' hw'=>⟨S1,true,⟨w1,fun _=>d2⟩,rfl,hw'⟩
 have hle:=fun w'=>lessI_holds (S1.getD (i+1) 0) (S1.getD i 0) w'
 have q1:=gI (S:=S1) (j:=i+1) (by omega)
 have q2:=gI (S:=S1) (j:=i) (by omega)
 by_cases e2:S1.getD (i+1) 0 < S1.getD i 0
 case neg =>
  have ih:=ih (i+1) ⟨by omega,d2.inc (by omega) (by omega)⟩ (by omega)
  rw [decide_eq_false e2] at hle
  clear ihm
  generalize S1.getD (i+1) 0=y at hle q1
  generalize S1.getD i 0=z at hle q2
  all_goals (refine goR ?_;and_intros<;>(try exact trivial)<;>repeat (first|refine fun (Bk:Nat)=>?_|intro h))
  repeat' ((first|(apply G.ld;rfl;(apply LdV.one;exact CellV.blk (by exact mm) q1);rfl)|(apply G.ld;rfl;(apply LdV.one;exact CellV.blk (by exact mm) q2);rfl)|(apply G.cV (g:=75);rfl;rfl;exact fun w' _=>hle w')|(apply J.regA (.q 0 <| .q 1 <| .q 2 <| .q 3 <| .q 4 <| .q 5 <| .q 6 <| .q 7 <| .q 8 <| .q 9 <| .q 10 <| .q 11 <| .q 12 <| .q 13 <| .q 14 <| .q 15 <| .nil);exact Tryd.mixed;decide +kernel)|(apply J.regA (.q 0 <| .q 1 <| .q 2 <| .q 3 <| .q 4 <| .q 5 <| .q 6 <| .q 7 <| .q 8 <| .q 9 <| .q 10 <| .nil);exact Tryd.mixed;decide +kernel)|(apply G.ix (i:=i);rfl;rfl;omega;omega;rfl)|(apply J.regQ;exact Tryd.mixed;decide +kernel)|(apply J.regL';exact Tryd.mixed;decide +kernel))<;>(refine goR ?_;and_intros<;>(try exact trivial)<;>repeat (first|refine fun (Bk:Nat)=>?_|intro h)))
  rw [show ((i+1:Nat):Int)+1=((i+1+1:Nat):Int) by omega]
  exact J.fin ih
 clear ih
 rw [decide_eq_true e2] at hle
 by_cases h50:b-a < 50
 case pos =>
  clear ihm
  generalize S1.getD (i+1) 0=y at hle q1
  generalize S1.getD i 0=z at hle q2
  all_goals (refine goR ?_;and_intros<;>(try exact trivial)<;>repeat (first|refine fun (Bk:Nat)=>?_|intro h))
  repeat' ((first|(apply G.ld;rfl;(apply LdV.one;exact CellV.blk (by exact mm) q1);rfl)|(apply G.ld;rfl;(apply LdV.one;exact CellV.blk (by exact mm) q2);rfl)|(apply G.cV (g:=75);rfl;rfl;exact fun w' _=>hle w')|(apply J.regA (.q 0 <| .q 1 <| .q 2 <| .q 3 <| .q 4 <| .q 5 <| .q 6 <| .q 7 <| .q 8 <| .q 9 <| .q 10 <| .q 11 <| .q 12 <| .q 13 <| .q 14 <| .q 15 <| .nil);exact Tryd.mixed;decide +kernel)|(apply J.regA (.q 0 <| .q 1 <| .q 2 <| .q 3 <| .q 4 <| .q 5 <| .q 6 <| .q 7 <| .q 8 <| .q 9 <| .q 10 <| .nil);exact Tryd.mixed;decide +kernel)|(apply G.ix (i:=i);rfl;rfl;omega;omega;rfl)|(apply J.regQ;exact Tryd.mixed;decide +kernel)|(apply J.regL';exact Tryd.mixed;decide +kernel))<;>(refine goR ?_;and_intros<;>(try exact trivial)<;>repeat (first|refine fun (Bk:Nat)=>?_|intro h)))
  refine ret1 Tryd.func74 Tryd.results74 ?_
  exact fun w' hw'=>⟨S1,false,⟨w1,fun h=>by cases h⟩,rfl,hw'⟩
 have w2:=w1.trans (WP.swp (S:=S1) (a:=a) (b:=b) (x:=i+1) (y:=i) ⟨by omega,by omega⟩ ⟨by omega,by omega⟩ (by omega))
 have hI:InsW (swp S1 (i+1) i) a i i:=InsW.start (d2.less.pre fun z hz=>swp_oth (by omega) (by omega) (by omega) (by omega))
 generalize hy1:S1.getD (i+1) 0=y at hle q1
 generalize hz1:S1.getD i 0=z at hle q2
 all_goals (refine goR ?_;and_intros<;>(try exact trivial)<;>repeat (first|refine fun (Bk:Nat)=>?_|intro h))
 repeat' ((first|(apply G.ld;rfl;(apply LdV.one;exact CellV.blk (by exact mm) q1);rfl)|(apply G.ld;rfl;(apply LdV.one;exact CellV.blk (by exact mm) q2);rfl)|(apply G.cV (g:=75);rfl;rfl;exact fun w' _=>hle w')|(apply J.regA (.q 0 <| .q 1 <| .q 2 <| .q 3 <| .q 4 <| .q 5 <| .q 6 <| .q 7 <| .q 8 <| .q 9 <| .q 10 <| .q 11 <| .q 12 <| .q 13 <| .q 14 <| .q 15 <| .nil);exact Tryd.mixed;decide +kernel)|(apply J.regA (.q 0 <| .q 1 <| .q 2 <| .q 3 <| .q 4 <| .q 5 <| .q 6 <| .q 7 <| .q 8 <| .q 9 <| .q 10 <| .nil);exact Tryd.mixed;decide +kernel)|(apply G.ix (i:=i);rfl;rfl;omega;omega;rfl)|(apply J.regQ;exact Tryd.mixed;decide +kernel)|(apply J.regL';exact Tryd.mixed;decide +kernel))<;>(refine goR ?_;and_intros<;>(try exact trivial)<;>repeat (first|refine fun (Bk:Nat)=>?_|intro h)))
 clear q1 q2
 have q1:=gI (S:=S1) (j:=(i+1)) (by omega)
 have q2:=gI (S:=S1) (j:=i) (by omega)
 have r1:=sI (S:=S1) (j:=(i+1)) (v:=(S1).getD i 0) (by omega)
 have r2:=sI (S:=(S1).set (i+1) ((S1).getD i 0)) (j:=i) (v:=(S1).getD (i+1) 0) (by rw [List.length_set];omega)
 have l1:0+(i+1)*1 < (flat isV (S1)).length:=by rw [isLen];omega
 have l2:0+i*1 < (flat isV ((S1).set (i+1) ((S1).getD i 0))).length:=by rw [isLen,List.length_set];omega
 dsimp only [swp] at w2 hI
 simp only [hy1,hz1] at w2 hI r1 r2 l1 l2 q1 q2
 clear hy1 hz1 w1 d2 hle
 generalize S1.set (i+1) z=S3 at *
 generalize S3.set i y=S4 at *
 have hl4:=w2.len
 by_cases hr:i+2 < b
 case neg =>
  have hk:=fun (x:{ T:List Int // WP S a b T∧Srt T a (i+1) })=>ihm (c+1,i,x.1) ⟨by dsimp only;omega,⟨d1.1,by dsimp only;omega⟩,x.2.1,x.2.2⟩ (by dsimp only;omega)
  clear ihm
  dsimp only at hk
  all_goals (refine goR ?_;and_intros<;>(try exact trivial)<;>repeat (first|refine fun (Bk:Nat)=>?_|intro h))
  repeat' ((first|(apply G.ld;rfl;(apply LdV.one;exact CellV.blk (by exact mm) q1);rfl)|(apply G.ld;rfl;(apply LdV.one;exact CellV.blk (by exact mm) q2);rfl)|(apply J.regX 0 [2,3,4] (.q 0 <| .q 1 <| .q 2 <| .q 3 <| .q 4 <| .q 5 <| .q 6 <| .q 7 <| .q 8 <| .q 9 <| .q 10 <| .q 11 <| .q 12 <| .q 13 <| .q 14 <| .e 15 <| .q 16 <| .e 17 <| .nil);exact Tryd.mixed;decide +kernel)|(apply G.s1n (n:=0);rfl;rfl;rfl;exact rfl;exact ⟨rfl,rfl⟩;exact l1;exact r1)|(apply G.s1n (n:=0);rfl;rfl;rfl;exact rfl;exact ⟨rfl,rfl⟩;exact l2;exact r2)|(apply G.ix (i:=i);rfl;rfl;omega;omega;rfl)|(apply J.regQ;exact Tryd.mixed;decide +kernel)|(apply J.regL';exact Tryd.mixed;decide +kernel))<;>(refine goR ?_;and_intros<;>(try exact trivial)<;>repeat (first|refine fun (Bk:Nat)=>?_|intro h)))
  clear q1 q2 r1 r2 l1 l2
  dsimp only [List.set]
  rw [show ((i+1:Nat):Int)-1=(i:Int) by omega]
  refine J.loop (c:=_) ((i,S4):Nat×List Int) (fun s=>s.1) (fun s=>[(0,.slice (some ⟨g,0,none⟩) n cp),(1,.int .i64 a),(2,.int .i64 b),(7,.int .i64 ((i+1:Nat):Int)),(8,.int .i64 (c:Nat)),(9,.int .i64 (s.1:Nat))]) (fun s=>.blk g 3 (flat isV s.2) tot::M) (fun s=>(a≤s.1∧s.1≤i)∧WP S a b s.2∧InsW s.2 a i s.1) ?_ sbT sbL ?_
  ·exact ⟨⟨by dsimp only;omega,Nat.le_refl _⟩,w2,hI⟩
  intro ⟨j,T⟩ ⟨j1,v1,v2⟩ ih
  dsimp only at j1 v1 v2 ⊢
  have hlt:=v1.len
  by_cases hja:a < j
  ·obtain ⟨j,rfl⟩:∃ k,j=k+1:=⟨j-1,by omega⟩
   have hle:=fun w'=>lessI_holds (T.getD (j+1) 0) (T.getD j 0) w'
   by_cases hc:T.getD (j+1) 0 < T.getD j 0
   ·rw [decide_eq_true hc] at hle
    have ih:=ih (j,swp T (j+1) j) ⟨by dsimp only;omega,v1.trans (WP.swp ⟨by omega,by omega⟩ ⟨by omega,by omega⟩ (by omega)),v2.step (by omega) (by omega) (by omega) hc⟩ (by dsimp only;omega)
    have q1:=gI (S:=T) (j:=(j+1)) (by omega)
    have q2:=gI (S:=T) (j:=j) (by omega)
    have r1:=sI (S:=T) (j:=(j+1)) (v:=(T).getD j 0) (by omega)
    have r2:=sI (S:=(T).set (j+1) ((T).getD j 0)) (j:=j) (v:=(T).getD (j+1) 0) (by rw [List.length_set];omega)
    have l1:0+(j+1)*1 < (flat isV (T)).length:=by rw [isLen];omega
    have l2:0+j*1 < (flat isV ((T).set (j+1) ((T).getD j 0))).length:=by rw [isLen,List.length_set];omega
    dsimp only [swp] at ih
    clear hk v1 v2
    generalize T.getD (j+1) 0=x at *
    generalize T.getD j 0=y at *
    generalize T.set (j+1) y=S5 at *
    generalize S5.set j x=S6 at *
    all_goals (refine goR ?_;and_intros<;>(try exact trivial)<;>repeat (first|refine fun (Bk:Nat)=>?_|intro h))
    repeat' ((first|(apply G.ld;rfl;(apply LdV.one;exact CellV.blk (by exact mm) q1);rfl)|(apply G.ld;rfl;(apply LdV.one;exact CellV.blk (by exact mm) q2);rfl)|(apply J.regX 0 [2,3,4] (.q 0 <| .q 1 <| .q 2 <| .q 3 <| .q 4 <| .q 5 <| .q 6 <| .q 7 <| .q 8 <| .q 9 <| .q 10 <| .q 11 <| .q 12 <| .q 13 <| .q 14 <| .e 15 <| .q 16 <| .e 17 <| .nil);exact Tryd.mixed;decide +kernel)|(apply G.s1n (n:=0);rfl;rfl;rfl;exact rfl;exact ⟨rfl,rfl⟩;exact l1;exact r1)|(apply G.s1n (n:=0);rfl;rfl;rfl;exact rfl;exact ⟨rfl,rfl⟩;exact l2;exact r2)|(apply G.cV (g:=75);rfl;rfl;exact fun w' _=>hle w')|(apply J.regA (.q 0 <| .q 1 <| .q 2 <| .q 3 <| .q 4 <| .q 5 <| .q 6 <| .q 7 <| .q 8 <| .q 9 <| .q 10 <| .q 11 <| .q 12 <| .q 13 <| .q 14 <| .q 15 <| .nil);exact Tryd.mixed;decide +kernel)|(apply J.regA (.q 0 <| .q 1 <| .q 2 <| .q 3 <| .q 4 <| .q 5 <| .q 6 <| .q 7 <| .q 8 <| .q 9 <| .q 10 <| .nil);exact Tryd.mixed;decide +kernel)|(apply G.ix (i:=j);rfl;rfl;omega;omega;rfl)|(apply J.regQ;exact Tryd.mixed;decide +kernel)|(apply J.regL';exact Tryd.mixed;decide +kernel))<;>(refine goR ?_;and_intros<;>(try exact trivial)<;>repeat (first|refine fun (Bk:Nat)=>?_|intro h)))
    rw [show ((j+1:Nat):Int)-1=(j:Int) by omega]
    exact J.fin ih
   ·have hk2:=hk ⟨T,v1,v2.end_ (.inr ⟨by omega,hc⟩)⟩
    dsimp only at hk2
    rw [decide_eq_false hc] at hle
    have q1:=gI (S:=T) (j:=j+1) (by omega)
    have q2:=gI (S:=T) (j:=j) (by omega)
    clear hk ih v1 v2
    generalize T.getD (j+1) 0=x at *
    generalize T.getD j 0=y at *
    all_goals (refine goR ?_;and_intros<;>(try exact trivial)<;>repeat (first|refine fun (Bk:Nat)=>?_|intro h))
    repeat' ((first|(apply G.ld;rfl;(apply LdV.one;exact CellV.blk (by exact mm) q1);rfl)|(apply G.ld;rfl;(apply LdV.one;exact CellV.blk (by exact mm) q2);rfl)|(apply G.cV (g:=75);rfl;rfl;exact fun w' _=>hle w')|(apply J.regA (.q 0 <| .q 1 <| .q 2 <| .q 3 <| .q 4 <| .q 5 <| .q 6 <| .q 7 <| .q 8 <| .q 9 <| .q 10 <| .q 11 <| .q 12 <| .q 13 <| .q 14 <| .q 15 <| .nil);exact Tryd.mixed;decide +kernel)|(apply J.regA (.q 0 <| .q 1 <| .q 2 <| .q 3 <| .q 4 <| .q 5 <| .q 6 <| .q 7 <| .q 8 <| .q 9 <| .q 10 <| .nil);exact Tryd.mixed;decide +kernel)|(apply G.ix (i:=j);rfl;rfl;omega;omega;rfl)|(apply J.regQ;exact Tryd.mixed;decide +kernel)|(apply J.regL';exact Tryd.mixed;decide +kernel))<;>(refine goR ?_;and_intros<;>(try exact trivial)<;>repeat (first|refine fun (Bk:Nat)=>?_|intro h)))
    exact J.fin hk2
  ·obtain rfl:j=a:=by omega
   have hk2:=hk ⟨T,v1,v2.end_ (.inl rfl)⟩
   dsimp only at hk2
   by_cases h0:j=0
   ·clear hk ih v1 v2
    all_goals (refine goR ?_;and_intros<;>(try exact trivial)<;>repeat (first|refine fun (Bk:Nat)=>?_|intro h))
    repeat' ((first|(apply G.cV (g:=75);rfl;rfl;exact fun w' _=>hle w')|(apply J.regA (.q 0 <| .q 1 <| .q 2 <| .q 3 <| .q 4 <| .q 5 <| .q 6 <| .q 7 <| .q 8 <| .q 9 <| .q 10 <| .q 11 <| .q 12 <| .q 13 <| .q 14 <| .q 15 <| .nil);exact Tryd.mixed;decide +kernel)|(apply J.regA (.q 0 <| .q 1 <| .q 2 <| .q 3 <| .q 4 <| .q 5 <| .q 6 <| .q 7 <| .q 8 <| .q 9 <| .q 10 <| .nil);exact Tryd.mixed;decide +kernel)|(apply J.regQ;exact Tryd.mixed;decide +kernel)|(apply J.regL';exact Tryd.mixed;decide +kernel))<;>(refine goR ?_;and_intros<;>(try exact trivial)<;>repeat (first|refine fun (Bk:Nat)=>?_|intro h)))
    exact J.fin hk2
   ·obtain ⟨j,rfl⟩:∃ k,j=k+1:=⟨j-1,by omega⟩
    have hpr:=v1.all (by omega) (P:=fun x=>S.getD j 0≤x) (hpre (by omega)) (j+1) (by omega) (by omega)
    have hle:=fun w'=>lessI_holds (T.getD (j+1) 0) (T.getD j 0) w'
    rw [decide_eq_false (by rw [v1.out j (.inl (by omega))];exact Int.not_lt.2 hpr)] at hle
    have q1:=gI (S:=T) (j:=j+1) (by omega)
    have q2:=gI (S:=T) (j:=j) (by omega)
    clear hk ih v1 v2 hpr
    generalize T.getD (j+1) 0=x at *
    generalize T.getD j 0=y at *
    all_goals (refine goR ?_;and_intros<;>(try exact trivial)<;>repeat (first|refine fun (Bk:Nat)=>?_|intro h))
    repeat' ((first|(apply G.ld;rfl;(apply LdV.one;exact CellV.blk (by exact mm) q1);rfl)|(apply G.ld;rfl;(apply LdV.one;exact CellV.blk (by exact mm) q2);rfl)|(apply G.cV (g:=75);rfl;rfl;exact fun w' _=>hle w')|(apply J.regA (.q 0 <| .q 1 <| .q 2 <| .q 3 <| .q 4 <| .q 5 <| .q 6 <| .q 7 <| .q 8 <| .q 9 <| .q 10 <| .q 11 <| .q 12 <| .q 13 <| .q 14 <| .q 15 <| .nil);exact Tryd.mixed;decide +kernel)|(apply J.regA (.q 0 <| .q 1 <| .q 2 <| .q 3 <| .q 4 <| .q 5 <| .q 6 <| .q 7 <| .q 8 <| .q 9 <| .q 10 <| .nil);exact Tryd.mixed;decide +kernel)|(apply G.ix (i:=j);rfl;rfl;omega;omega;rfl)|(apply J.regQ;exact Tryd.mixed;decide +kernel)|(apply J.regL';exact Tryd.mixed;decide +kernel))<;>(refine goR ?_;and_intros<;>(try exact trivial)<;>repeat (first|refine fun (Bk:Nat)=>?_|intro h)))
    exact J.fin hk2
 by_cases hia:a < i
 ·skip
  all_goals (refine goR ?_;and_intros<;>(try exact trivial)<;>repeat (first|refine fun (Bk:Nat)=>?_|intro h))
  repeat' ((first|(apply G.ld;rfl;(apply LdV.one;exact CellV.blk (by exact mm) q1);rfl)|(apply G.ld;rfl;(apply LdV.one;exact CellV.blk (by exact mm) q2);rfl)|(apply J.regX 0 [2,3,4] (.q 0 <| .q 1 <| .q 2 <| .q 3 <| .q 4 <| .q 5 <| .q 6 <| .q 7 <| .q 8 <| .q 9 <| .q 10 <| .q 11 <| .q 12 <| .q 13 <| .q 14 <| .e 15 <| .q 16 <| .e 17 <| .nil);exact Tryd.mixed;decide +kernel)|(apply G.s1n (n:=0);rfl;rfl;rfl;exact rfl;exact ⟨rfl,rfl⟩;exact l1;exact r1)|(apply G.s1n (n:=0);rfl;rfl;rfl;exact rfl;exact ⟨rfl,rfl⟩;exact l2;exact r2)|(apply G.ix (i:=i);rfl;rfl;omega;omega;rfl)|(apply J.regQ;exact Tryd.mixed;decide +kernel)|(apply J.regL';exact Tryd.mixed;decide +kernel))<;>(refine goR ?_;and_intros<;>(try exact trivial)<;>repeat (first|refine fun (Bk:Nat)=>?_|intro h)))
  clear q1 q2 r1 r2 l1 l2
  dsimp only [List.set]
  apply cutK (X:={ T:List Int // WP S a b T∧Srt T a (i+1) }) (fun _=>[(0,.slice (some ⟨g,0,none⟩) n cp),(1,.int .i64 a),(2,.int .i64 b),(7,.int .i64 ((i+1:Nat):Int)),(8,.int .i64 (c:Nat)),(10,.int .i64 ((i+2:Nat):Int))]) (fun x=>.blk g 3 (flat isV x.1) tot::M)
  ·intro hk
   rw [show ((i+1:Nat):Int)-1=(i:Int) by omega]
   refine J.loop (c:=_) ((i,S4):Nat×List Int) (fun s=>s.1) (fun s=>[(0,.slice (some ⟨g,0,none⟩) n cp),(1,.int .i64 a),(2,.int .i64 b),(7,.int .i64 ((i+1:Nat):Int)),(8,.int .i64 (c:Nat)),(9,.int .i64 (s.1:Nat))]) (fun s=>.blk g 3 (flat isV s.2) tot::M) (fun s=>(a≤s.1∧s.1≤i)∧WP S a b s.2∧InsW s.2 a i s.1) ?_ sbT sbL ?_
   ·exact ⟨⟨by dsimp only;omega,Nat.le_refl _⟩,w2,hI⟩
   intro ⟨j,T⟩ ⟨j1,v1,v2⟩ ih
   dsimp only at j1 v1 v2 ⊢
   have hlt:=v1.len
   by_cases hja:a < j
   ·obtain ⟨j,rfl⟩:∃ k,j=k+1:=⟨j-1,by omega⟩
    have hle:=fun w'=>lessI_holds (T.getD (j+1) 0) (T.getD j 0) w'
    by_cases hc:T.getD (j+1) 0 < T.getD j 0
    ·rw [decide_eq_true hc] at hle
     have ih:=ih (j,swp T (j+1) j) ⟨by dsimp only;omega,v1.trans (WP.swp ⟨by omega,by omega⟩ ⟨by omega,by omega⟩ (by omega)),v2.step (by omega) (by omega) (by omega) hc⟩ (by dsimp only;omega)
     have q1:=gI (S:=T) (j:=(j+1)) (by omega)
     have q2:=gI (S:=T) (j:=j) (by omega)
     have r1:=sI (S:=T) (j:=(j+1)) (v:=(T).getD j 0) (by omega)
     have r2:=sI (S:=(T).set (j+1) ((T).getD j 0)) (j:=j) (v:=(T).getD (j+1) 0) (by rw [List.length_set];omega)
     have l1:0+(j+1)*1 < (flat isV (T)).length:=by rw [isLen];omega
     have l2:0+j*1 < (flat isV ((T).set (j+1) ((T).getD j 0))).length:=by rw [isLen,List.length_set];omega
     dsimp only [swp] at ih
     clear hk v1 v2
     generalize T.getD (j+1) 0=x at *
     generalize T.getD j 0=y at *
     generalize T.set (j+1) y=S5 at *
     generalize S5.set j x=S6 at *
     all_goals (refine goR ?_;and_intros<;>(try exact trivial)<;>repeat (first|refine fun (Bk:Nat)=>?_|intro h))
     repeat' ((first|(apply G.ld;rfl;(apply LdV.one;exact CellV.blk (by exact mm) q1);rfl)|(apply G.ld;rfl;(apply LdV.one;exact CellV.blk (by exact mm) q2);rfl)|(apply J.regX 0 [2,3,4] (.q 0 <| .q 1 <| .q 2 <| .q 3 <| .q 4 <| .q 5 <| .q 6 <| .q 7 <| .q 8 <| .q 9 <| .q 10 <| .q 11 <| .q 12 <| .q 13 <| .q 14 <| .e 15 <| .q 16 <| .e 17 <| .nil);exact Tryd.mixed;decide +kernel)|(apply G.s1n (n:=0);rfl;rfl;rfl;exact rfl;exact ⟨rfl,rfl⟩;exact l1;exact r1)|(apply G.s1n (n:=0);rfl;rfl;rfl;exact rfl;exact ⟨rfl,rfl⟩;exact l2;exact r2)|(apply G.cV (g:=75);rfl;rfl;exact fun w' _=>hle w')|(apply J.regA (.q 0 <| .q 1 <| .q 2 <| .q 3 <| .q 4 <| .q 5 <| .q 6 <| .q 7 <| .q 8 <| .q 9 <| .q 10 <| .q 11 <| .q 12 <| .q 13 <| .q 14 <| .q 15 <| .nil);exact Tryd.mixed;decide +kernel)|(apply J.regA (.q 0 <| .q 1 <| .q 2 <| .q 3 <| .q 4 <| .q 5 <| .q 6 <| .q 7 <| .q 8 <| .q 9 <| .q 10 <| .nil);exact Tryd.mixed;decide +kernel)|(apply G.ix (i:=j);rfl;rfl;omega;omega;rfl)|(apply J.regQ;exact Tryd.mixed;decide +kernel)|(apply J.regL';exact Tryd.mixed;decide +kernel))<;>(refine goR ?_;and_intros<;>(try exact trivial)<;>repeat (first|refine fun (Bk:Nat)=>?_|intro h)))
     rw [show ((j+1:Nat):Int)-1=(j:Int) by omega]
     exact J.fin ih
    ·have hk2:=hk ⟨T,v1,v2.end_ (.inr ⟨by omega,hc⟩)⟩
     dsimp only at hk2
     rw [decide_eq_false hc] at hle
     have q1:=gI (S:=T) (j:=j+1) (by omega)
     have q2:=gI (S:=T) (j:=j) (by omega)
     clear hk ih v1 v2
     generalize T.getD (j+1) 0=x at *
     generalize T.getD j 0=y at *
     all_goals (refine goR ?_;and_intros<;>(try exact trivial)<;>repeat (first|refine fun (Bk:Nat)=>?_|intro h))
     repeat' ((first|(apply G.ld;rfl;(apply LdV.one;exact CellV.blk (by exact mm) q1);rfl)|(apply G.ld;rfl;(apply LdV.one;exact CellV.blk (by exact mm) q2);rfl)|(apply G.cV (g:=75);rfl;rfl;exact fun w' _=>hle w')|(apply J.regA (.q 0 <| .q 1 <| .q 2 <| .q 3 <| .q 4 <| .q 5 <| .q 6 <| .q 7 <| .q 8 <| .q 9 <| .q 10 <| .q 11 <| .q 12 <| .q 13 <| .q 14 <| .q 15 <| .nil);exact Tryd.mixed;decide +kernel)|(apply J.regA (.q 0 <| .q 1 <| .q 2 <| .q 3 <| .q 4 <| .q 5 <| .q 6 <| .q 7 <| .q 8 <| .q 9 <| .q 10 <| .nil);exact Tryd.mixed;decide +kernel)|(apply G.ix (i:=j);rfl;rfl;omega;omega;rfl)|(apply J.regQ;exact Tryd.mixed;decide +kernel)|(apply J.regL';exact Tryd.mixed;decide +kernel))<;>(refine goR ?_;and_intros<;>(try exact trivial)<;>repeat (first|refine fun (Bk:Nat)=>?_|intro h)))
     exact J.fin hk2
   ·obtain rfl:j=a:=by omega
    have hk2:=hk ⟨T,v1,v2.end_ (.inl rfl)⟩
    dsimp only at hk2
    by_cases h0:j=0
    ·clear hk ih v1 v2
     all_goals (refine goR ?_;and_intros<;>(try exact trivial)<;>repeat (first|refine fun (Bk:Nat)=>?_|intro h))
     repeat' ((first|(apply G.cV (g:=75);rfl;rfl;exact fun w' _=>hle w')|(apply J.regA (.q 0 <| .q 1 <| .q 2 <| .q 3 <| .q 4 <| .q 5 <| .q 6 <| .q 7 <| .q 8 <| .q 9 <| .q 10 <| .q 11 <| .q 12 <| .q 13 <| .q 14 <| .q 15 <| .nil);exact Tryd.mixed;decide +kernel)|(apply J.regA (.q 0 <| .q 1 <| .q 2 <| .q 3 <| .q 4 <| .q 5 <| .q 6 <| .q 7 <| .q 8 <| .q 9 <| .q 10 <| .nil);exact Tryd.mixed;decide +kernel)|(apply J.regQ;exact Tryd.mixed;decide +kernel)|(apply J.regL';exact Tryd.mixed;decide +kernel))<;>(refine goR ?_;and_intros<;>(try exact trivial)<;>repeat (first|refine fun (Bk:Nat)=>?_|intro h)))
     exact J.fin hk2
    ·obtain ⟨j,rfl⟩:∃ k,j=k+1:=⟨j-1,by omega⟩
     have hpr:=v1.all (by omega) (P:=fun x=>S.getD j 0≤x) (hpre (by omega)) (j+1) (by omega) (by omega)
     have hle:=fun w'=>lessI_holds (T.getD (j+1) 0) (T.getD j 0) w'
     rw [decide_eq_false (by rw [v1.out j (.inl (by omega))];exact Int.not_lt.2 hpr)] at hle
     have q1:=gI (S:=T) (j:=j+1) (by omega)
     have q2:=gI (S:=T) (j:=j) (by omega)
     clear hk ih v1 v2 hpr
     generalize T.getD (j+1) 0=x at *
     generalize T.getD j 0=y at *
     all_goals (refine goR ?_;and_intros<;>(try exact trivial)<;>repeat (first|refine fun (Bk:Nat)=>?_|intro h))
     repeat' ((first|(apply G.ld;rfl;(apply LdV.one;exact CellV.blk (by exact mm) q1);rfl)|(apply G.ld;rfl;(apply LdV.one;exact CellV.blk (by exact mm) q2);rfl)|(apply G.cV (g:=75);rfl;rfl;exact fun w' _=>hle w')|(apply J.regA (.q 0 <| .q 1 <| .q 2 <| .q 3 <| .q 4 <| .q 5 <| .q 6 <| .q 7 <| .q 8 <| .q 9 <| .q 10 <| .q 11 <| .q 12 <| .q 13 <| .q 14 <| .q 15 <| .nil);exact Tryd.mixed;decide +kernel)|(apply J.regA (.q 0 <| .q 1 <| .q 2 <| .q 3 <| .q 4 <| .q 5 <| .q 6 <| .q 7 <| .q 8 <| .q 9 <| .q 10 <| .nil);exact Tryd.mixed;decide +kernel)|(apply G.ix (i:=j);rfl;rfl;omega;omega;rfl)|(apply J.regQ;exact Tryd.mixed;decide +kernel)|(apply J.regL';exact Tryd.mixed;decide +kernel))<;>(refine goR ?_;and_intros<;>(try exact trivial)<;>repeat (first|refine fun (Bk:Nat)=>?_|intro h)))
     exact J.fin hk2
  clear w2 hI hl4
  rintro ⟨S4,w2,hI⟩
  dsimp only at w2 hI ⊢
  have hl4:=w2.len
  refine J.loop (c:=_) ((i+2,S4):Nat×List Int) (fun s=>b-s.1) (fun s=>[(0,.slice (some ⟨g,0,none⟩) n cp),(1,.int .i64 a),(2,.int .i64 b),(7,.int .i64 ((i+1:Nat):Int)),(8,.int .i64 (c:Nat)),(10,.int .i64 (s.1:Nat))]) (fun s=>.blk g 3 (flat isV s.2) tot::M) (fun s=>(i+2≤s.1∧s.1≤b)∧WP S a b s.2∧Srt s.2 a (i+1)) ?_ sbT sbL ?_
  ·exact ⟨⟨Nat.le_refl _,by dsimp only;omega⟩,w2,hI⟩
  clear w2 hI hl4
  intro ⟨j,T⟩ ⟨j1,v1,v2⟩ ih
  dsimp only at j1 v1 v2 ⊢
  have hlt:=v1.len
  have hk2:=ihm (c+1,i,T) ⟨by dsimp only;omega,⟨by dsimp only;omega,by dsimp only;omega⟩,v1,v2⟩ (by dsimp only;omega)
  dsimp only at hk2
  clear ihm
  by_cases hjb:j < b
  ·obtain ⟨j,rfl⟩:∃ k,j=k+1:=⟨j-1,by omega⟩
   have hle:=fun w'=>lessI_holds (T.getD (j+1) 0) (T.getD j 0) w'
   by_cases hc:T.getD (j+1) 0 < T.getD j 0
   ·rw [decide_eq_true hc] at hle
    have ih:=ih (j+2,swp T (j+1) j) ⟨by dsimp only;omega,v1.trans (WP.swp ⟨by omega,by omega⟩ ⟨by omega,by omega⟩ (by omega)),v2.pre fun z hz=>swp_oth (by omega) (by omega) (by omega) (by omega)⟩ (by dsimp only;omega)
    have q1:=gI (S:=T) (j:=(j+1)) (by omega)
    have q2:=gI (S:=T) (j:=j) (by omega)
    have r1:=sI (S:=T) (j:=(j+1)) (v:=(T).getD j 0) (by omega)
    have r2:=sI (S:=(T).set (j+1) ((T).getD j 0)) (j:=j) (v:=(T).getD (j+1) 0) (by rw [List.length_set];omega)
    have l1:0+(j+1)*1 < (flat isV (T)).length:=by rw [isLen];omega
    have l2:0+j*1 < (flat isV ((T).set (j+1) ((T).getD j 0))).length:=by rw [isLen,List.length_set];omega
    dsimp only [swp] at ih
    clear hk2 v1 v2
    generalize T.getD (j+1) 0=x at *
    generalize T.getD j 0=y at *
    generalize T.set (j+1) y=S5 at *
    generalize S5.set j x=S6 at *
    all_goals (refine goR ?_;and_intros<;>(try exact trivial)<;>repeat (first|refine fun (Bk:Nat)=>?_|intro h))
    repeat' ((first|(apply G.ld;rfl;(apply LdV.one;exact CellV.blk (by exact mm) q1);rfl)|(apply G.ld;rfl;(apply LdV.one;exact CellV.blk (by exact mm) q2);rfl)|(apply J.regX 0 [2,3,4] (.q 0 <| .q 1 <| .q 2 <| .q 3 <| .q 4 <| .q 5 <| .q 6 <| .q 7 <| .q 8 <| .q 9 <| .q 10 <| .q 11 <| .q 12 <| .q 13 <| .q 14 <| .e 15 <| .q 16 <| .e 17 <| .nil);exact Tryd.mixed;decide +kernel)|(apply G.s1n (n:=0);rfl;rfl;rfl;exact rfl;exact ⟨rfl,rfl⟩;exact l1;exact r1)|(apply G.s1n (n:=0);rfl;rfl;rfl;exact rfl;exact ⟨rfl,rfl⟩;exact l2;exact r2)|(apply G.cV (g:=75);rfl;rfl;exact fun w' _=>hle w')|(apply J.regA (.q 0 <| .q 1 <| .q 2 <| .q 3 <| .q 4 <| .q 5 <| .q 6 <| .q 7 <| .q 8 <| .q 9 <| .q 10 <| .q 11 <| .q 12 <| .q 13 <| .q 14 <| .q 15 <| .nil);exact Tryd.mixed;decide +kernel)|(apply J.regA (.q 0 <| .q 1 <| .q 2 <| .q 3 <| .q 4 <| .q 5 <| .q 6 <| .q 7 <| .q 8 <| .q 9 <| .q 10 <| .nil);exact Tryd.mixed;decide +kernel)|(apply G.ix (i:=j);rfl;rfl;omega;omega;rfl)|(apply J.regQ;exact Tryd.mixed;decide +kernel)|(apply J.regL';exact Tryd.mixed;decide +kernel))<;>(refine goR ?_;and_intros<;>(try exact trivial)<;>repeat (first|refine fun (Bk:Nat)=>?_|intro h)))
    rw [show ((j+1:Nat):Int)+1=((j+2:Nat):Int) by omega]
    exact J.fin ih
   ·rw [decide_eq_false hc] at hle
    have q1:=gI (S:=T) (j:=j+1) (by omega)
    have q2:=gI (S:=T) (j:=j) (by omega)
    clear ih v1 v2
    generalize T.getD (j+1) 0=x at *
    generalize T.getD j 0=y at *
    all_goals (refine goR ?_;and_intros<;>(try exact trivial)<;>repeat (first|refine fun (Bk:Nat)=>?_|intro h))
    repeat' ((first|(apply G.ld;rfl;(apply LdV.one;exact CellV.blk (by exact mm) q1);rfl)|(apply G.ld;rfl;(apply LdV.one;exact CellV.blk (by exact mm) q2);rfl)|(apply G.cV (g:=75);rfl;rfl;exact fun w' _=>hle w')|(apply J.regA (.q 0 <| .q 1 <| .q 2 <| .q 3 <| .q 4 <| .q 5 <| .q 6 <| .q 7 <| .q 8 <| .q 9 <| .q 10 <| .q 11 <| .q 12 <| .q 13 <| .q 14 <| .q 15 <| .nil);exact Tryd.mixed;decide +kernel)|(apply J.regA (.q 0 <| .q 1 <| .q 2 <| .q 3 <| .q 4 <| .q 5 <| .q 6 <| .q 7 <| .q 8 <| .q 9 <| .q 10 <| .nil);exact Tryd.mixed;decide +kernel)|(apply G.ix (i:=j);rfl;rfl;omega;omega;rfl)|(apply J.regQ;exact Tryd.mixed;decide +kernel)|(apply J.regL';exact Tryd.mixed;decide +kernel))<;>(refine goR ?_;and_intros<;>(try exact trivial)<;>repeat (first|refine fun (Bk:Nat)=>?_|intro h)))
    exact J.fin hk2
  ·obtain rfl:j=b:=by omega
   clear ih v1 v2
   all_goals (refine goR ?_;and_intros<;>(try exact trivial)<;>repeat (first|refine fun (Bk:Nat)=>?_|intro h))
   repeat' ((first|(apply G.cV (g:=75);rfl;rfl;exact fun w' _=>hle w')|(apply J.regA (.q 0 <| .q 1 <| .q 2 <| .q 3 <| .q 4 <| .q 5 <| .q 6 <| .q 7 <| .q 8 <| .q 9 <| .q 10 <| .q 11 <| .q 12 <| .q 13 <| .q 14 <| .q 15 <| .nil);exact Tryd.mixed;decide +kernel)|(apply J.regA (.q 0 <| .q 1 <| .q 2 <| .q 3 <| .q 4 <| .q 5 <| .q 6 <| .q 7 <| .q 8 <| .q 9 <| .q 10 <| .nil);exact Tryd.mixed;decide +kernel)|(apply J.regQ;exact Tryd.mixed;decide +kernel)|(apply J.regL';exact Tryd.mixed;decide +kernel))<;>(refine goR ?_;and_intros<;>(try exact trivial)<;>repeat (first|refine fun (Bk:Nat)=>?_|intro h)))
   exact J.fin hk2
 ·have hia2:i=a:=by omega
  have hI:=hI.end_ (.inl hia2)
  all_goals (refine goR ?_;and_intros<;>(try exact trivial)<;>repeat (first|refine fun (Bk:Nat)=>?_|intro h))
  repeat' ((first|(apply G.ld;rfl;(apply LdV.one;exact CellV.blk (by exact mm) q1);rfl)|(apply G.ld;rfl;(apply LdV.one;exact CellV.blk (by exact mm) q2);rfl)|(apply J.regX 0 [2,3,4] (.q 0 <| .q 1 <| .q 2 <| .q 3 <| .q 4 <| .q 5 <| .q 6 <| .q 7 <| .q 8 <| .q 9 <| .q 10 <| .q 11 <| .q 12 <| .q 13 <| .q 14 <| .e 15 <| .q 16 <| .e 17 <| .nil);exact Tryd.mixed;decide +kernel)|(apply G.s1n (n:=0);rfl;rfl;rfl;exact rfl;exact ⟨rfl,rfl⟩;exact l1;exact r1)|(apply G.s1n (n:=0);rfl;rfl;rfl;exact rfl;exact ⟨rfl,rfl⟩;exact l2;exact r2)|(apply G.ix (i:=i);rfl;rfl;omega;omega;rfl)|(apply J.regQ;exact Tryd.mixed;decide +kernel)|(apply J.regL';exact Tryd.mixed;decide +kernel))<;>(refine goR ?_;and_intros<;>(try exact trivial)<;>repeat (first|refine fun (Bk:Nat)=>?_|intro h)))
  clear q1 q2 r1 r2 l1 l2
  dsimp only [List.set]
  rw [show ((i+1:Nat):Int)+1=((i+2:Nat):Int) by omega]
  refine J.loop (c:=_) ((i+2,S4):Nat×List Int) (fun s=>b-s.1) (fun s=>[(0,.slice (some ⟨g,0,none⟩) n cp),(1,.int .i64 a),(2,.int .i64 b),(7,.int .i64 ((i+1:Nat):Int)),(8,.int .i64 (c:Nat)),(10,.int .i64 (s.1:Nat))]) (fun s=>.blk g 3 (flat isV s.2) tot::M) (fun s=>(i+2≤s.1∧s.1≤b)∧WP S a b s.2∧Srt s.2 a (i+1)) ?_ sbT sbL ?_
  ·exact ⟨⟨Nat.le_refl _,by dsimp only;omega⟩,w2,hI⟩
  clear w2 hI hl4
  intro ⟨j,T⟩ ⟨j1,v1,v2⟩ ih
  dsimp only at j1 v1 v2 ⊢
  have hlt:=v1.len
  have hk2:=ihm (c+1,i,T) ⟨by dsimp only;omega,⟨by dsimp only;omega,by dsimp only;omega⟩,v1,v2⟩ (by dsimp only;omega)
  dsimp only at hk2
  clear ihm
  by_cases hjb:j < b
  ·obtain ⟨j,rfl⟩:∃ k,j=k+1:=⟨j-1,by omega⟩
   have hle:=fun w'=>lessI_holds (T.getD (j+1) 0) (T.getD j 0) w'
   by_cases hc:T.getD (j+1) 0 < T.getD j 0
   ·rw [decide_eq_true hc] at hle
    have ih:=ih (j+2,swp T (j+1) j) ⟨by dsimp only;omega,v1.trans (WP.swp ⟨by omega,by omega⟩ ⟨by omega,by omega⟩ (by omega)),v2.pre fun z hz=>swp_oth (by omega) (by omega) (by omega) (by omega)⟩ (by dsimp only;omega)
    have q1:=gI (S:=T) (j:=(j+1)) (by omega)
    have q2:=gI (S:=T) (j:=j) (by omega)
    have r1:=sI (S:=T) (j:=(j+1)) (v:=(T).getD j 0) (by omega)
    have r2:=sI (S:=(T).set (j+1) ((T).getD j 0)) (j:=j) (v:=(T).getD (j+1) 0) (by rw [List.length_set];omega)
    have l1:0+(j+1)*1 < (flat isV (T)).length:=by rw [isLen];omega
    have l2:0+j*1 < (flat isV ((T).set (j+1) ((T).getD j 0))).length:=by rw [isLen,List.length_set];omega
    dsimp only [swp] at ih
    clear hk2 v1 v2
    generalize T.getD (j+1) 0=x at *
    generalize T.getD j 0=y at *
    generalize T.set (j+1) y=S5 at *
    generalize S5.set j x=S6 at *
    all_goals (refine goR ?_;and_intros<;>(try exact trivial)<;>repeat (first|refine fun (Bk:Nat)=>?_|intro h))
    repeat' ((first|(apply G.ld;rfl;(apply LdV.one;exact CellV.blk (by exact mm) q1);rfl)|(apply G.ld;rfl;(apply LdV.one;exact CellV.blk (by exact mm) q2);rfl)|(apply J.regX 0 [2,3,4] (.q 0 <| .q 1 <| .q 2 <| .q 3 <| .q 4 <| .q 5 <| .q 6 <| .q 7 <| .q 8 <| .q 9 <| .q 10 <| .q 11 <| .q 12 <| .q 13 <| .q 14 <| .e 15 <| .q 16 <| .e 17 <| .nil);exact Tryd.mixed;decide +kernel)|(apply G.s1n (n:=0);rfl;rfl;rfl;exact rfl;exact ⟨rfl,rfl⟩;exact l1;exact r1)|(apply G.s1n (n:=0);rfl;rfl;rfl;exact rfl;exact ⟨rfl,rfl⟩;exact l2;exact r2)|(apply G.cV (g:=75);rfl;rfl;exact fun w' _=>hle w')|(apply J.regA (.q 0 <| .q 1 <| .q 2 <| .q 3 <| .q 4 <| .q 5 <| .q 6 <| .q 7 <| .q 8 <| .q 9 <| .q 10 <| .q 11 <| .q 12 <| .q 13 <| .q 14 <| .q 15 <| .nil);exact Tryd.mixed;decide +kernel)|(apply J.regA (.q 0 <| .q 1 <| .q 2 <| .q 3 <| .q 4 <| .q 5 <| .q 6 <| .q 7 <| .q 8 <| .q 9 <| .q 10 <| .nil);exact Tryd.mixed;decide +kernel)|(apply G.ix (i:=j);rfl;rfl;omega;omega;rfl)|(apply J.regQ;exact Tryd.mixed;decide +kernel)|(apply J.regL';exact Tryd.mixed;decide +kernel))<;>(refine goR ?_;and_intros<;>(try exact trivial)<;>repeat (first|refine fun (Bk:Nat)=>?_|intro h)))
    rw [show ((j+1:Nat):Int)+1=((j+2:Nat):Int) by omega]
    exact J.fin ih
   ·rw [decide_eq_false hc] at hle
    have q1:=gI (S:=T) (j:=j+1) (by omega)
    have q2:=gI (S:=T) (j:=j) (by omega)
    clear ih v1 v2
    generalize T.getD (j+1) 0=x at *
    generalize T.getD j 0=y at *
    all_goals (refine goR ?_;and_intros<;>(try exact trivial)<;>repeat (first|refine fun (Bk:Nat)=>?_|intro h))
    repeat' ((first|(apply G.ld;rfl;(apply LdV.one;exact CellV.blk (by exact mm) q1);rfl)|(apply G.ld;rfl;(apply LdV.one;exact CellV.blk (by exact mm) q2);rfl)|(apply G.cV (g:=75);rfl;rfl;exact fun w' _=>hle w')|(apply J.regA (.q 0 <| .q 1 <| .q 2 <| .q 3 <| .q 4 <| .q 5 <| .q 6 <| .q 7 <| .q 8 <| .q 9 <| .q 10 <| .q 11 <| .q 12 <| .q 13 <| .q 14 <| .q 15 <| .nil);exact Tryd.mixed;decide +kernel)|(apply J.regA (.q 0 <| .q 1 <| .q 2 <| .q 3 <| .q 4 <| .q 5 <| .q 6 <| .q 7 <| .q 8 <| .q 9 <| .q 10 <| .nil);exact Tryd.mixed;decide +kernel)|(apply G.ix (i:=j);rfl;rfl;omega;omega;rfl)|(apply J.regQ;exact Tryd.mixed;decide +kernel)|(apply J.regL';exact Tryd.mixed;decide +kernel))<;>(refine goR ?_;and_intros<;>(try exact trivial)<;>repeat (first|refine fun (Bk:Nat)=>?_|intro h)))
    exact J.fin hk2
  ·obtain rfl:j=b:=by omega
   clear ih v1 v2
   all_goals (refine goR ?_;and_intros<;>(try exact trivial)<;>repeat (first|refine fun (Bk:Nat)=>?_|intro h))
   repeat' ((first|(apply G.cV (g:=75);rfl;rfl;exact fun w' _=>hle w')|(apply J.regA (.q 0 <| .q 1 <| .q 2 <| .q 3 <| .q 4 <| .q 5 <| .q 6 <| .q 7 <| .q 8 <| .q 9 <| .q 10 <| .q 11 <| .q 12 <| .q 13 <| .q 14 <| .q 15 <| .nil);exact Tryd.mixed;decide +kernel)|(apply J.regA (.q 0 <| .q 1 <| .q 2 <| .q 3 <| .q 4 <| .q 5 <| .q 6 <| .q 7 <| .q 8 <| .q 9 <| .q 10 <| .nil);exact Tryd.mixed;decide +kernel)|(apply J.regQ;exact Tryd.mixed;decide +kernel)|(apply J.regL';exact Tryd.mixed;decide +kernel))<;>(refine goR ?_;and_intros<;>(try exact trivial)<;>repeat (first|refine fun (Bk:Nat)=>?_|intro h)))
   exact J.fin hk2
end Go.Proofs.YtcdgibkbbcekhaaDoor
/-
 Plain laws of heaps.
-/
namespace Go.Proofs.YtcdgibkbbcekhaaDoor
open Go.RowKit Go.Sl Go.Num
def Chd (r c:Nat):Prop:=c=2*r+1∨c=2*r+2
def Hp (S:List Int) (f lo hi:Nat):Prop:=∀ r c,lo≤r→Chd r c→c < hi→S.getD (f+c) 0≤S.getD (f+r) 0
def HpX (S:List Int) (f lo hi root:Nat):Prop:=(∀ r c,lo≤r→r≠root→Chd r c→c < hi→S.getD (f+c) 0≤S.getD (f+r) 0)∧∀ p c,lo≤p→Chd p root→Chd root c→c < hi→S.getD (f+c) 0≤S.getD (f+p) 0
theorem HpX.start {S:List Int}{f lo hi:Nat} (h:Hp S f (lo+1) hi):HpX S f lo hi lo :=
 ⟨fun r c h1 h2 h3 h4=>h r c (by omega) h3 h4,fun p c h1 h2 h3 h4=>by unfold Chd at h2;omega⟩
theorem HpX.done {S:List Int}{f lo hi root:Nat} (h:HpX S f lo hi root) (hc:∀ c,Chd root c→c < hi→S.getD (f+c) 0≤S.getD (f+root) 0):Hp S f lo hi:=fun r c h1 h2 h3=>by
 by_cases hr:r=root
 ·subst hr;exact hc c h2 h3
 ·exact h.1 r c h1 hr h2 h3
theorem HpX.step {S:List Int}{f lo hi root ch:Nat} (h:HpX S f lo hi root) (hl:lo≤root) (hc:Chd root ch) (hh:ch < hi) (hb:f+hi≤S.length) (hlt:S.getD (f+root) 0 < S.getD (f+ch) 0) (hs:∀ c,Chd root c→c < hi→S.getD (f+c) 0≤S.getD (f+ch) 0):HpX (swp S (f+root) (f+ch)) f lo hi ch:=by
 have hrc:root < ch:=by unfold Chd at hc;omega
 have e1:(swp S (f+root) (f+ch)).getD (f+root) 0=S.getD (f+ch) 0:=by rw [swp_at (by omega) (by omega),if_pos rfl]
 have e2:(swp S (f+root) (f+ch)).getD (f+ch) 0=S.getD (f+root) 0:=by rw [swp_at (by omega) (by omega),if_neg (by omega),if_pos rfl]
 have e3:∀ z,z≠root→z≠ch→(swp S (f+root) (f+ch)).getD (f+z) 0=S.getD (f+z) 0:=fun z h1 h2=>by rw [swp_at (by omega) (by omega),if_neg (by omega),if_neg (by omega)]
 refine ⟨fun r c h1 h2 h3 h4=>?_,fun p c h1 h2 h3 h4=>?_⟩
 ·by_cases hr:r=root
  ·subst hr
   rw [e1]
   by_cases hcc:c=ch
   ·subst hcc;rw [e2];omega
   ·rw [e3 c (by unfold Chd at h3;omega) hcc];exact hs c h3 h4
  ·rw [e3 r hr h2]
   by_cases hcr:c=root
   ·subst hcr;rw [e1];exact h.2 r ch h1 h3 hc hh
   ·have hcc:c≠ch:=fun e=>by subst e;unfold Chd at h3 hc;omega
    rw [e3 c hcr hcc];exact h.1 r c h1 hr h3 h4
 ·have hp:p=root:=by unfold Chd at h2 hc;omega
  subst hp
  rw [e1,e3 c (by unfold Chd at h3;omega) (by unfold Chd at h3;omega)]
  exact h.1 ch c (by omega) (by omega) h3 h4
theorem Hp.top {S:List Int}{f hi:Nat} (h:Hp S f 0 hi):∀ (n c:Nat),c≤n→c < hi→S.getD (f+c) 0≤S.getD f 0
 | 0,c,h1,_=>by rw [show c=0 by omega];exact Int.le_refl _
 | n+1,c,h1,h2=>by
  by_cases h0:c=0
  ·subst h0;exact Int.le_refl _
  ·have hc:Chd ((c-1) / 2) c:=by unfold Chd;omega
   exact Int.le_trans (h _ c (Nat.zero_le _) hc h2) (h.top n _ (by omega) (by omega))
end Go.Proofs.YtcdgibkbbcekhaaDoor
/-
 Contracts: the heap of the library's sort.
-/
namespace Go.Proofs.YtcdgibkbbcekhaaDoor
open Go.RowKit Go.Sl Go.Num
set_option maxHeartbeats 4000000 in
theorem siftDown_holds (w0:World) (M:List Row) (w:World) (g tot n cp:Nat) (S:List Int) (f lo hi:Nat) (hw:Sat w0 (.blk g 3 (flat isV S) tot::M) w) (hb:f+hi≤n) (hn:n=S.length) (hl:n≤1000000000) (hlo:lo≤n) (hH:Hp S f (lo+1) hi) :
  Calls Tryd.prog 86 #[.slice (some ⟨g,0,none⟩) n cp,.int .i64 lo,.int .i64 hi,.int .i64 f] w fun e w'=>∃ S',e=.returned (.tuple #[])∧(WP S f (f+hi) S'∧Hp S' f lo hi)∧Sat w0 (.blk g 3 (flat isV S') tot::M) w':=by
 refine enterR [(0,.slice (some ⟨g,0,none⟩) n cp),(1,.int .i64 lo),(2,.int .i64 hi),(3,.int .i64 f)] hw Tryd.func86 Tryd.ntmps86 ?_
 all_goals (refine go ?_;and_intros<;>(try exact trivial)<;>repeat (first|refine fun (Bk:Nat)=>?_|intro h))
 refine J.loop (c:=_) ((lo,S):Nat×List Int) (fun s=>n-s.1) (fun s=>[(0,.slice (some ⟨g,0,none⟩) n cp),(2,.int .i64 hi),(3,.int .i64 f),(8,.int .i64 (s.1:Nat))]) (fun s=>.blk g 3 (flat isV s.2) tot::M) (fun s=>(lo≤s.1∧s.1≤n)∧WP S f (f+hi) s.2∧HpX s.2 f lo hi s.1) ?_ sbT sbL ?_
 ·exact ⟨⟨Nat.le_refl _,hlo⟩,WP.refl _ _ _,HpX.start hH⟩
 clear hH
 intro ⟨r,T⟩ ⟨h1,v1,v2⟩ ih
 dsimp only at h1 v1 v2 ⊢
 have hlt:=v1.len
 by_cases hA:2*r+1 < hi
 case neg =>
  clear ih
  have hd:=v2.done fun c h2 h3=>by unfold Chd at h2;omega
  all_goals (refine go ?_;and_intros<;>(try exact trivial)<;>repeat (first|refine fun (Bk:Nat)=>?_|intro h))
  first
   | (refine end0 Tryd.func86 Tryd.results86 ?_;exact fun w' hw'=>⟨T,rfl,⟨v1,hd⟩,hw'⟩)
   | (refine ret0 Tryd.func86 Tryd.results86 ?_;exact fun w' hw'=>⟨T,rfl,⟨v1,hd⟩,hw'⟩)
 have q1:=gI (S:=T) (j:=f+r) (by omega)
 have q2:=gI (S:=T) (j:=f+(2*r+1)) (by omega)
 by_cases hB:2*r+2 < hi∧T.getD (f+(2*r+1)) 0 < T.getD (f+(2*r+2)) 0
 ·have q3:=gI (S:=T) (j:=f+(2*r+2)) (by omega)
  have hle:=fun w'=>lessI_holds (T.getD (f+(2*r+1)) 0) (T.getD (f+(2*r+2)) 0) w'
  have hle2:=fun w'=>lessI_holds (T.getD (f+r) 0) (T.getD (f+(2*r+2)) 0) w'
  rw [decide_eq_true hB.2] at hle
  have hs:∀ c,Chd r c→c < hi→T.getD (f+c) 0≤T.getD (f+(2*r+2)) 0:=fun c h2 h3=>by
   rcases h2 with rfl|rfl
   ·omega
   ·exact Int.le_refl _
  by_cases hC:T.getD (f+r) 0 < T.getD (f+(2*r+2)) 0
  ·have v3:=v2.step h1.1 (.inr rfl) hB.1 (by omega) hC hs
   have w3:=v1.trans (WP.swp (S:=T) (a:=f) (b:=f+hi) (x:=f+r) (y:=f+(2*r+2)) ⟨by omega,by omega⟩ ⟨by omega,by omega⟩ (by omega))
   have ih:=ih (2*r+2,_) ⟨⟨by dsimp only;omega,by dsimp only;omega⟩,w3,v3⟩ (by dsimp only;omega)
   have r1:=sI (S:=T) (j:=f+r) (v:=T.getD (f+(2*r+2)) 0) (by omega)
   have r2:=sI (S:=T.set (f+r) (T.getD (f+(2*r+2)) 0)) (j:=f+(2*r+2)) (v:=T.getD (f+r) 0) (by rw [List.length_set];omega)
   have l1:0+(f+r)*1 < (flat isV T).length:=by rw [isLen];omega
   have l2:0+(f+(2*r+2))*1 < (flat isV (T.set (f+r) (T.getD (f+(2*r+2)) 0))).length:=by rw [isLen,List.length_set];omega
   rw [decide_eq_true hC] at hle2
   dsimp only [swp] at ih
   clear v1 v2 v3 w3 hs
   have hB1:=hB.1
   clear hB
   generalize T.getD (f+r) 0=x at *
   generalize T.getD (f+(2*r+1)) 0=y at *
   generalize T.getD (f+(2*r+2)) 0=z at *
   generalize T.set (f+r) z=S3 at *
   generalize S3.set (f+(2*r+2)) x=S4 at *
   all_goals (refine goR ?_;and_intros<;>(try exact trivial)<;>repeat (first|refine fun (Bk:Nat)=>?_|intro h))
   repeat' ((first|(apply G.ld;rfl;(apply LdV.one;exact CellV.blk (by exact mm) q1);rfl)|(apply G.ld;rfl;(apply LdV.one;exact CellV.blk (by exact mm) q2);rfl)|(apply G.ld;rfl;(apply LdV.one;exact CellV.blk (by exact mm) q3);rfl)|(apply J.regA (.q 0 <| .q 1 <| .q 2 <| .q 3 <| .q 4 <| .q 5 <| .q 6 <| .q 7 <| .q 8 <| .q 9 <| .q 10 <| .q 11 <| .q 12 <| .q 13 <| .q 14 <| .q 15 <| .q 16 <| .q 17 <| .q 18 <| .q 19 <| .nil);exact Tryd.mixed;decide +kernel)|(apply J.regA (.q 0 <| .q 1 <| .q 2 <| .q 3 <| .q 4 <| .q 5 <| .q 6 <| .q 7 <| .q 8 <| .q 9 <| .q 10 <| .q 11 <| .q 12 <| .q 13 <| .nil);exact Tryd.mixed;decide +kernel)|(apply G.ix (i:=f+r);rfl;rfl;omega;omega;rfl)|(apply G.ix (i:=f+(2*r+1));rfl;rfl;omega;omega;rfl)|(apply G.ix (i:=f+(2*r+2));rfl;rfl;omega;omega;rfl)|(apply J.regX 0 [4,5,6,7] (.q 0 <| .q 1 <| .q 2 <| .q 3 <| .q 4 <| .q 5 <| .q 6 <| .q 7 <| .q 8 <| .q 9 <| .q 10 <| .q 11 <| .q 12 <| .q 13 <| .q 14 <| .q 15 <| .q 16 <| .q 17 <| .q 18 <| .q 19 <| .q 20 <| .e 21 <| .q 22 <| .e 23 <| .nil);exact Tryd.mixed;decide +kernel)|(apply G.s1n (n:=0);rfl;rfl;rfl;exact rfl;exact ⟨rfl,rfl⟩;exact l1;exact r1)|(apply G.s1n (n:=0);rfl;rfl;rfl;exact rfl;exact ⟨rfl,rfl⟩;exact l2;exact r2)|(apply G.cV (d:=35) (g:=75);rfl;rfl;exact fun w' _=>hle w')|(apply G.cV (d:=51) (g:=75);rfl;rfl;exact fun w' _=>hle2 w')|(apply J.regQ;exact Tryd.mixed;decide +kernel)|(apply J.regL';exact Tryd.mixed;decide +kernel))<;>(refine goR ?_;and_intros<;>(try exact trivial)<;>repeat (first|refine fun (Bk:Nat)=>?_|intro h)))
   rw [show (2*(r:Int)+1+1)=((2*r+2:Nat):Int) by omega]
   exact J.fin ih
  ·have hd:=v2.done fun c h2 h3=>Int.le_trans (hs c h2 h3) (by omega)
   rw [decide_eq_false hC] at hle2
   clear ih v2 hs
   have hB1:=hB.1
   clear hB
   generalize T.getD (f+r) 0=x at hle2 q1
   generalize T.getD (f+(2*r+1)) 0=y at hle q2
   generalize T.getD (f+(2*r+2)) 0=z at hle hle2 q3
   all_goals (refine goR ?_;and_intros<;>(try exact trivial)<;>repeat (first|refine fun (Bk:Nat)=>?_|intro h))
   repeat' ((first|(apply G.ld;rfl;(apply LdV.one;exact CellV.blk (by exact mm) q1);rfl)|(apply G.ld;rfl;(apply LdV.one;exact CellV.blk (by exact mm) q2);rfl)|(apply G.ld;rfl;(apply LdV.one;exact CellV.blk (by exact mm) q3);rfl)|(apply J.regA (.q 0 <| .q 1 <| .q 2 <| .q 3 <| .q 4 <| .q 5 <| .q 6 <| .q 7 <| .q 8 <| .q 9 <| .q 10 <| .q 11 <| .q 12 <| .q 13 <| .q 14 <| .q 15 <| .q 16 <| .q 17 <| .q 18 <| .q 19 <| .nil);exact Tryd.mixed;decide +kernel)|(apply J.regA (.q 0 <| .q 1 <| .q 2 <| .q 3 <| .q 4 <| .q 5 <| .q 6 <| .q 7 <| .q 8 <| .q 9 <| .q 10 <| .q 11 <| .q 12 <| .q 13 <| .nil);exact Tryd.mixed;decide +kernel)|(apply G.ix (i:=f+r);rfl;rfl;omega;omega;rfl)|(apply G.ix (i:=f+(2*r+1));rfl;rfl;omega;omega;rfl)|(apply G.ix (i:=f+(2*r+2));rfl;rfl;omega;omega;rfl)|(apply G.cV (d:=35) (g:=75);rfl;rfl;exact fun w' _=>hle w')|(apply G.cV (d:=51) (g:=75);rfl;rfl;exact fun w' _=>hle2 w')|(apply J.regQ;exact Tryd.mixed;decide +kernel)|(apply J.regL';exact Tryd.mixed;decide +kernel))<;>(refine goR ?_;and_intros<;>(try exact trivial)<;>repeat (first|refine fun (Bk:Nat)=>?_|intro h)))
   refine ret0 Tryd.func86 Tryd.results86 ?_
   exact fun w' hw'=>⟨T,rfl,⟨v1,hd⟩,hw'⟩
 ·have hle2:=fun w'=>lessI_holds (T.getD (f+r) 0) (T.getD (f+(2*r+1)) 0) w'
  have hs:∀ c,Chd r c→c < hi→T.getD (f+c) 0≤T.getD (f+(2*r+1)) 0:=fun c h2 h3=>by
   rcases h2 with rfl|rfl
   ·exact Int.le_refl _
   ·exact Int.not_lt.1 fun h=>hB ⟨h3,h⟩
  have hq3:2*r+2 < hi→(flat isV T)[0+(f+(2*r+2))*1]?=some (.int .i64 (T.getD (f+(2*r+2)) 0)):=fun h=>gI (by omega)
  have hle:=fun (h:2*r+2 < hi) w'=>by
   have:=lessI_holds (T.getD (f+(2*r+1)) 0) (T.getD (f+(2*r+2)) 0) w'
   rw [decide_eq_false fun h2=>hB ⟨h,h2⟩] at this
   exact this
  by_cases hC:T.getD (f+r) 0 < T.getD (f+(2*r+1)) 0
  ·have v3:=v2.step h1.1 (.inl rfl) hA (by omega) hC hs
   have w3:=v1.trans (WP.swp (S:=T) (a:=f) (b:=f+hi) (x:=f+r) (y:=f+(2*r+1)) ⟨by omega,by omega⟩ ⟨by omega,by omega⟩ (by omega))
   have ih:=ih (2*r+1,_) ⟨⟨by dsimp only;omega,by dsimp only;omega⟩,w3,v3⟩ (by dsimp only;omega)
   have r1:=sI (S:=T) (j:=f+r) (v:=T.getD (f+(2*r+1)) 0) (by omega)
   have r2:=sI (S:=T.set (f+r) (T.getD (f+(2*r+1)) 0)) (j:=f+(2*r+1)) (v:=T.getD (f+r) 0) (by rw [List.length_set];omega)
   have l1:0+(f+r)*1 < (flat isV T).length:=by rw [isLen];omega
   have l2:0+(f+(2*r+1))*1 < (flat isV (T.set (f+r) (T.getD (f+(2*r+1)) 0))).length:=by rw [isLen,List.length_set];omega
   rw [decide_eq_true hC] at hle2
   dsimp only [swp] at ih
   clear v1 v2 v3 w3 hs hB hC
   generalize T.getD (f+r) 0=x at *
   generalize T.getD (f+(2*r+1)) 0=y at *
   generalize T.getD (f+(2*r+2)) 0=z at *
   generalize T.set (f+r) y=S3 at *
   generalize S3.set (f+(2*r+1)) x=S4 at *
   by_cases hD:2*r+2 < hi
   ·have q3:=hq3 hD
    have hle:=hle hD
    all_goals (refine goR ?_;and_intros<;>(try exact trivial)<;>repeat (first|refine fun (Bk:Nat)=>?_|intro h))
    repeat' ((first|(apply G.ld;rfl;(apply LdV.one;exact CellV.blk (by exact mm) q1);rfl)|(apply G.ld;rfl;(apply LdV.one;exact CellV.blk (by exact mm) q2);rfl)|(apply G.ld;rfl;(apply LdV.one;exact CellV.blk (by exact mm) q3);rfl)|(apply J.regA (.q 0 <| .q 1 <| .q 2 <| .q 3 <| .q 4 <| .q 5 <| .q 6 <| .q 7 <| .q 8 <| .q 9 <| .q 10 <| .q 11 <| .q 12 <| .q 13 <| .q 14 <| .q 15 <| .q 16 <| .q 17 <| .q 18 <| .q 19 <| .nil);exact Tryd.mixed;decide +kernel)|(apply J.regA (.q 0 <| .q 1 <| .q 2 <| .q 3 <| .q 4 <| .q 5 <| .q 6 <| .q 7 <| .q 8 <| .q 9 <| .q 10 <| .q 11 <| .q 12 <| .q 13 <| .nil);exact Tryd.mixed;decide +kernel)|(apply G.ix (i:=f+r);rfl;rfl;omega;omega;rfl)|(apply G.ix (i:=f+(2*r+1));rfl;rfl;omega;omega;rfl)|(apply G.ix (i:=f+(2*r+2));rfl;rfl;omega;omega;rfl)|(apply J.regX 0 [4,5,6,7] (.q 0 <| .q 1 <| .q 2 <| .q 3 <| .q 4 <| .q 5 <| .q 6 <| .q 7 <| .q 8 <| .q 9 <| .q 10 <| .q 11 <| .q 12 <| .q 13 <| .q 14 <| .q 15 <| .q 16 <| .q 17 <| .q 18 <| .q 19 <| .q 20 <| .e 21 <| .q 22 <| .e 23 <| .nil);exact Tryd.mixed;decide +kernel)|(apply G.s1n (n:=0);rfl;rfl;rfl;exact rfl;exact ⟨rfl,rfl⟩;exact l1;exact r1)|(apply G.s1n (n:=0);rfl;rfl;rfl;exact rfl;exact ⟨rfl,rfl⟩;exact l2;exact r2)|(apply G.cV (d:=35) (g:=75);rfl;rfl;exact fun w' _=>hle w')|(apply G.cV (d:=51) (g:=75);rfl;rfl;exact fun w' _=>hle2 w')|(apply J.regQ;exact Tryd.mixed;decide +kernel)|(apply J.regL';exact Tryd.mixed;decide +kernel))<;>(refine goR ?_;and_intros<;>(try exact trivial)<;>repeat (first|refine fun (Bk:Nat)=>?_|intro h)))
    rw [show (2*(r:Int)+1)=((2*r+1:Nat):Int) by omega]
    exact J.fin ih
   ·skip
    all_goals (refine goR ?_;and_intros<;>(try exact trivial)<;>repeat (first|refine fun (Bk:Nat)=>?_|intro h))
    repeat' ((first|(apply G.ld;rfl;(apply LdV.one;exact CellV.blk (by exact mm) q1);rfl)|(apply G.ld;rfl;(apply LdV.one;exact CellV.blk (by exact mm) q2);rfl)|(apply J.regA (.q 0 <| .q 1 <| .q 2 <| .q 3 <| .q 4 <| .q 5 <| .q 6 <| .q 7 <| .q 8 <| .q 9 <| .q 10 <| .q 11 <| .q 12 <| .q 13 <| .q 14 <| .q 15 <| .q 16 <| .q 17 <| .q 18 <| .q 19 <| .nil);exact Tryd.mixed;decide +kernel)|(apply J.regA (.q 0 <| .q 1 <| .q 2 <| .q 3 <| .q 4 <| .q 5 <| .q 6 <| .q 7 <| .q 8 <| .q 9 <| .q 10 <| .q 11 <| .q 12 <| .q 13 <| .nil);exact Tryd.mixed;decide +kernel)|(apply G.ix (i:=f+r);rfl;rfl;omega;omega;rfl)|(apply G.ix (i:=f+(2*r+1));rfl;rfl;omega;omega;rfl)|(apply G.ix (i:=f+(2*r+2));rfl;rfl;omega;omega;rfl)|(apply J.regX 0 [4,5,6,7] (.q 0 <| .q 1 <| .q 2 <| .q 3 <| .q 4 <| .q 5 <| .q 6 <| .q 7 <| .q 8 <| .q 9 <| .q 10 <| .q 11 <| .q 12 <| .q 13 <| .q 14 <| .q 15 <| .q 16 <| .q 17 <| .q 18 <| .q 19 <| .q 20 <| .e 21 <| .q 22 <| .e 23 <| .nil);exact Tryd.mixed;decide +kernel)|(apply G.s1n (n:=0);rfl;rfl;rfl;exact rfl;exact ⟨rfl,rfl⟩;exact l1;exact r1)|(apply G.s1n (n:=0);rfl;rfl;rfl;exact rfl;exact ⟨rfl,rfl⟩;exact l2;exact r2)|(apply G.cV (d:=51) (g:=75);rfl;rfl;exact fun w' _=>hle2 w')|(apply J.regQ;exact Tryd.mixed;decide +kernel)|(apply J.regL';exact Tryd.mixed;decide +kernel))<;>(refine goR ?_;and_intros<;>(try exact trivial)<;>repeat (first|refine fun (Bk:Nat)=>?_|intro h)))
    rw [show (2*(r:Int)+1)=((2*r+1:Nat):Int) by omega]
    exact J.fin ih
  ·have hd:=v2.done fun c h2 h3=>Int.le_trans (hs c h2 h3) (by omega)
   rw [decide_eq_false hC] at hle2
   clear ih v2 hs hB hC
   generalize T.getD (f+r) 0=x at hle2 q1
   generalize T.getD (f+(2*r+1)) 0=y at hle hle2 q2
   generalize T.getD (f+(2*r+2)) 0=z at hle hq3
   by_cases hD:2*r+2 < hi
   ·have q3:=hq3 hD
    have hle:=hle hD
    all_goals (refine goR ?_;and_intros<;>(try exact trivial)<;>repeat (first|refine fun (Bk:Nat)=>?_|intro h))
    repeat' ((first|(apply G.ld;rfl;(apply LdV.one;exact CellV.blk (by exact mm) q1);rfl)|(apply G.ld;rfl;(apply LdV.one;exact CellV.blk (by exact mm) q2);rfl)|(apply G.ld;rfl;(apply LdV.one;exact CellV.blk (by exact mm) q3);rfl)|(apply J.regA (.q 0 <| .q 1 <| .q 2 <| .q 3 <| .q 4 <| .q 5 <| .q 6 <| .q 7 <| .q 8 <| .q 9 <| .q 10 <| .q 11 <| .q 12 <| .q 13 <| .q 14 <| .q 15 <| .q 16 <| .q 17 <| .q 18 <| .q 19 <| .nil);exact Tryd.mixed;decide +kernel)|(apply J.regA (.q 0 <| .q 1 <| .q 2 <| .q 3 <| .q 4 <| .q 5 <| .q 6 <| .q 7 <| .q 8 <| .q 9 <| .q 10 <| .q 11 <| .q 12 <| .q 13 <| .nil);exact Tryd.mixed;decide +kernel)|(apply G.ix (i:=f+r);rfl;rfl;omega;omega;rfl)|(apply G.ix (i:=f+(2*r+1));rfl;rfl;omega;omega;rfl)|(apply G.ix (i:=f+(2*r+2));rfl;rfl;omega;omega;rfl)|(apply G.cV (d:=35) (g:=75);rfl;rfl;exact fun w' _=>hle w')|(apply G.cV (d:=51) (g:=75);rfl;rfl;exact fun w' _=>hle2 w')|(apply J.regQ;exact Tryd.mixed;decide +kernel)|(apply J.regL';exact Tryd.mixed;decide +kernel))<;>(refine goR ?_;and_intros<;>(try exact trivial)<;>repeat (first|refine fun (Bk:Nat)=>?_|intro h)))
    refine ret0 Tryd.func86 Tryd.results86 ?_
    exact fun w' hw'=>⟨T,rfl,⟨v1,hd⟩,hw'⟩
   ·skip
    all_goals (refine goR ?_;and_intros<;>(try exact trivial)<;>repeat (first|refine fun (Bk:Nat)=>?_|intro h))
    repeat' ((first|(apply G.ld;rfl;(apply LdV.one;exact CellV.blk (by exact mm) q1);rfl)|(apply G.ld;rfl;(apply LdV.one;exact CellV.blk (by exact mm) q2);rfl)|(apply J.regA (.q 0 <| .q 1 <| .q 2 <| .q 3 <| .q 4 <| .q 5 <| .q 6 <| .q 7 <| .q 8 <| .q 9 <| .q 10 <| .q 11 <| .q 12 <| .q 13 <| .q 14 <| .q 15 <| .q 16 <| .q 17 <| .q 18 <| .q 19 <| .nil);exact Tryd.mixed;decide +kernel)|(apply J.regA (.q 0 <| .q 1 <| .q 2 <| .q 3 <| .q 4 <| .q 5 <| .q 6 <| .q 7 <| .q 8 <| .q 9 <| .q 10 <| .q 11 <| .q 12 <| .q 13 <| .nil);exact Tryd.mixed;decide +kernel)|(apply G.ix (i:=f+r);rfl;rfl;omega;omega;rfl)|(apply G.ix (i:=f+(2*r+1));rfl;rfl;omega;omega;rfl)|(apply G.ix (i:=f+(2*r+2));rfl;rfl;omega;omega;rfl)|(apply G.cV (d:=51) (g:=75);rfl;rfl;exact fun w' _=>hle2 w')|(apply J.regQ;exact Tryd.mixed;decide +kernel)|(apply J.regL';exact Tryd.mixed;decide +kernel))<;>(refine goR ?_;and_intros<;>(try exact trivial)<;>repeat (first|refine fun (Bk:Nat)=>?_|intro h)))
    refine ret0 Tryd.func86 Tryd.results86 ?_
    exact fun w' hw'=>⟨T,rfl,⟨v1,hd⟩,hw'⟩
end Go.Proofs.YtcdgibkbbcekhaaDoor
/-
 Contracts: the heap sort of the library.
-/
namespace Go.Proofs.YtcdgibkbbcekhaaDoor
open Go.RowKit Go.Sl Go.Num
structure HeapI (T:List Int) (a k hi:Nat):Prop where
 hp:Hp T a 0 k
 so:Srt T (a+k) (a+hi)
 se:∀ x y,x < k→k≤y→y < hi→T.getD (a+x) 0≤T.getD (a+y) 0
theorem HeapI.swap {T:List Int}{a j hi:Nat} (h:HeapI T a (j+1) hi) (hj:j < hi) (hb:a+hi≤T.length):Hp (swp T a (a+j)) a 1 j:=fun r c h1 h2 h3=>by
 have hrc:r < c:=by unfold Chd at h2;omega
 rw [swp_at (by omega) (by omega),swp_at (by omega) (by omega),if_neg (by omega),if_neg (by omega),if_neg (by omega),if_neg (by omega)]
 exact h.hp r c (Nat.zero_le _) h2 (by omega)
theorem HeapI.step {T U:List Int}{a j hi:Nat} (h:HeapI T a (j+1) hi) (hj:j < hi) (hb:a+hi≤T.length) (hw:WP (swp T a (a+j)) a (a+j) U) (hU:Hp U a 0 j):HeapI U a j hi:=by
 have e:∀ z,j < z→U.getD (a+z) 0=T.getD (a+z) 0:=fun z hz=>by
  rw [hw.out _ (.inr (by omega))]
  by_cases hz2:a+z < T.length
  ·rw [swp_at (by omega) (by omega),if_neg (by omega),if_neg (by omega)]
  ·rw [List.getD_eq_getElem?_getD,List.getD_eq_getElem?_getD,List.getElem?_eq_none (by rw [swp_len];omega),List.getElem?_eq_none (by omega)]
 have ej:U.getD (a+j) 0=T.getD a 0:=by
  rw [hw.out _ (.inr (by omega)),swp_at (by omega) (by omega)]
  split
  ·rename_i h0;rw [show a+j=a by omega]
  ·rw [if_pos rfl]
 have top:=fun c (hc:c < j+1)=>h.hp.top (j+1) c (by omega) hc
 have hx:∀ z,a≤z→z < a+j→U.getD z 0≤T.getD a 0:=hw.all (by rw [swp_len];omega) (P:=fun x=>x≤T.getD a 0) fun z h1 h2=>by
  obtain ⟨c,rfl⟩:∃ c,z=a+c:=⟨z-a,by omega⟩
  show (swp T a (a+j)).getD (a+c) 0≤T.getD a 0
  rw [swp_at (by omega) (by omega)]
  split
  ·exact top j (by omega)
  ·split
   ·exact Int.le_refl _
   ·exact top c (by omega)
 have hxs:∀ z,a≤z→z < a+j→∀ y,j < y→y < hi→U.getD z 0≤T.getD (a+y) 0:=fun z h1 h2 y h3 h4=>by
  have:=h.se 0 y (by omega) (by omega) h4
  exact Int.le_trans (hx z h1 h2) this
 refine ⟨hU,fun x y h1 h2 h3=>?_,fun x y h1 h2 h3=>?_⟩
 ·obtain ⟨y,rfl⟩:∃ c,y=a+c:=⟨y-a,by omega⟩
  obtain ⟨x,rfl⟩:∃ c,x=a+c:=⟨x-a,by omega⟩
  rw [e y (by omega)]
  by_cases hxj:x=j
  ·subst hxj;rw [ej];exact h.se 0 y (by omega) (by omega) (by omega)
  ·rw [e x (by omega)];exact h.so (a+x) (a+y) (by omega) h2 h3
 ·by_cases hyj:y=j
  ·subst hyj;rw [ej];exact hx _ (by omega) (by omega)
  ·rw [e y (by omega)];exact hxs _ (by omega) (by omega) y (by omega) h3
set_option maxHeartbeats 4000000 in
theorem heapSort_holds (w0:World) (M:List Row) (w:World) (g tot n cp:Nat) (S:List Int) (a hi:Nat) (hw:Sat w0 (.blk g 3 (flat isV S) tot::M) w) (hb:a+hi≤n) (hn:n=S.length) (hl:n≤1000000000) (h0:0 < hi) :
  Calls Tryd.prog 70 #[.slice (some ⟨g,0,none⟩) n cp,.int .i64 a,.int .i64 ((a+hi:Nat):Int)] w fun e w'=>∃ S',e=.returned (.tuple #[])∧(WP S a (a+hi) S'∧Srt S' a (a+hi))∧Sat w0 (.blk g 3 (flat isV S') tot::M) w':=by
 refine enterR [(0,.slice (some ⟨g,0,none⟩) n cp),(1,.int .i64 a),(2,.int .i64 ((a+hi:Nat):Int))] hw Tryd.func70 Tryd.ntmps70 ?_
 all_goals (refine go ?_;and_intros<;>(try exact trivial)<;>repeat (first|refine fun (Bk:Nat)=>?_|intro h))
 rw [show (((a+hi:Nat):Int)-a)=((hi:Nat):Int) by omega,show ((hi:Int)-1) / 2=(((hi-1) / 2+1:Nat):Int)-1 by omega]
 refine J.loop (c:=_) (((hi-1) / 2+1,S):Nat×List Int) (fun s=>s.1) (fun s=>[(0,.slice (some ⟨g,0,none⟩) n cp),(6,.int .i64 a),(7,.int .i64 0),(8,.int .i64 hi),(9,.int .i64 ((s.1:Int)-1))]) (fun s=>.blk g 3 (flat isV s.2) tot::M) (fun s=>s.1≤(hi-1) / 2+1∧WP S a (a+hi) s.2∧Hp s.2 a s.1 hi) ?_ sbT sbL ?_
 ·exact ⟨Nat.le_refl _,WP.refl _ _ _,fun r c h1 h2 h3=>by unfold Chd at h2;dsimp only at h1;omega⟩
 intro ⟨k,T⟩ ⟨k1,v1,v2⟩ ih
 dsimp only at k1 v1 v2 ⊢
 have hlt:=v1.len
 by_cases hk:0 < k
 ·obtain ⟨j,rfl⟩:∃ j,k=j+1:=⟨k-1,by omega⟩
  rw [show ((j+1:Nat):Int)-1=(j:Int) by omega]
  all_goals (refine go ?_;and_intros<;>(try exact trivial)<;>repeat (first|refine fun (Bk:Nat)=>?_|intro h))
  repeat' ((first|(refine G.cP (g:=86) (X:={ S' // WP T a (a+hi) S'∧Hp S' a j hi }) (fun _=>.tuple #[]) [.blk g 3 (flat isV T) tot] (fun x=>[.blk g 3 (flat isV x.1) tot]) rfl rfl (by (repeat (first|exact List.Perm.refl _|(refine pickT (by (repeat (first|exact Pick.head|apply Pick.tail))) ?_)))) ?_ ?_;exact fun w' hw'=>(siftDown_holds _ _ w' g tot n cp T a j hi hw' hb (by omega) hl (by omega) v2).mono fun e w2 ⟨S',h1,h2,h3⟩=>⟨⟨S',h2⟩,h1,h3⟩;rintro ⟨U,u1,u2⟩;dsimp only))<;>(refine go ?_;and_intros<;>(try exact trivial)<;>repeat (first|refine fun (Bk:Nat)=>?_|intro h)))
  exact J.fin (ih (j,U) ⟨by dsimp only;omega,v1.trans u1,u2⟩ (by dsimp only;omega))
 obtain rfl:k=0:=by omega
 clear ih
 all_goals (refine go ?_;and_intros<;>(try exact trivial)<;>repeat (first|refine fun (Bk:Nat)=>?_|intro h))
 have hI:HeapI T a hi hi:=⟨v2,fun x y h1 h2 h3=>by omega,fun x y h1 h2 h3=>by omega⟩
 refine J.loop (c:=_) ((hi,T):Nat×List Int) (fun s=>s.1) (fun s=>[(0,.slice (some ⟨g,0,none⟩) n cp),(6,.int .i64 a),(7,.int .i64 0),(10,.int .i64 ((s.1:Int)-1))]) (fun s=>.blk g 3 (flat isV s.2) tot::M) (fun s=>s.1≤hi∧WP S a (a+hi) s.2∧HeapI s.2 a s.1 hi) ?_ sbT sbL ?_
 ·exact ⟨Nat.le_refl _,v1,hI⟩
 clear v1 v2 hI hlt hk k1
 intro ⟨k,T⟩ ⟨k1,v1,v2⟩ ih
 dsimp only at k1 v1 v2 ⊢
 have hlt:=v1.len
 by_cases hk:0 < k
 ·obtain ⟨j,rfl⟩:∃ j,k=j+1:=⟨k-1,by omega⟩
  rw [show ((j+1:Nat):Int)-1=(j:Int) by omega]
  have hsw:=v2.swap (by omega) (by omega)
  have hst:=fun U (h1:WP (swp T a (a+j)) a (a+j) U) (h2:Hp U a 0 j)=>v2.step (by omega) (by omega) h1 h2
  have w2:=WP.swp (S:=T) (a:=a) (b:=a+hi) (x:=a) (y:=a+j) ⟨by omega,by omega⟩ ⟨by omega,by omega⟩ (by omega)
  have ih:=fun U h1 h2=>ih (j,U) ⟨by dsimp only;omega,v1.trans (w2.trans (h1.mono (Nat.le_refl _) (by omega))),hst U h1 h2⟩ (by dsimp only;omega)
  have hsl:(swp T a (a+j)).length=T.length:=swp_len _ _ _
  have q1:=gI (S:=T) (j:=a) (by omega)
  have q2:=gI (S:=T) (j:=a+j) (by omega)
  have r1:=sI (S:=T) (j:=a) (v:=T.getD (a+j) 0) (by omega)
  have r2:=sI (S:=T.set a (T.getD (a+j) 0)) (j:=a+j) (v:=T.getD a 0) (by rw [List.length_set];omega)
  have l1:0+a*1 < (flat isV T).length:=by rw [isLen];omega
  have l2:0+(a+j)*1 < (flat isV (T.set a (T.getD (a+j) 0))).length:=by rw [isLen,List.length_set];omega
  clear v1 v2 w2 hst
  dsimp only [swp] at ih hsw hsl
  generalize T.getD a 0=x at *
  generalize T.getD (a+j) 0=y at *
  generalize T.set a y=S3 at *
  generalize S3.set (a+j) x=S4 at *
  all_goals (refine goR ?_;and_intros<;>(try exact trivial)<;>repeat (first|refine fun (Bk:Nat)=>?_|intro h))
  repeat' ((first|(apply G.ld;rfl;(apply LdV.one;exact CellV.blk (by exact mm) q1);rfl)|(apply G.ld;rfl;(apply LdV.one;exact CellV.blk (by exact mm) q2);rfl)|(apply J.regX 0 [2,3,4,5] (.q 0 <| .q 1 <| .q 2 <| .q 3 <| .q 4 <| .q 5 <| .q 6 <| .q 7 <| .q 8 <| .q 9 <| .q 10 <| .q 11 <| .q 12 <| .q 13 <| .q 14 <| .q 15 <| .q 16 <| .e 17 <| .q 18 <| .e 19 <| .nil);exact Tryd.mixed;decide +kernel)|(apply G.s1n (n:=0);rfl;rfl;rfl;exact rfl;exact ⟨rfl,rfl⟩;exact l1;exact r1)|(apply G.s1n (n:=0);rfl;rfl;rfl;exact rfl;exact ⟨rfl,rfl⟩;exact l2;exact r2)|(apply G.ix (i:=a+j);rfl;rfl;omega;omega;rfl)|(apply J.regQ;exact Tryd.mixed;decide +kernel)|(apply J.regL';exact Tryd.mixed;decide +kernel))<;>(refine goR ?_;and_intros<;>(try exact trivial)<;>repeat (first|refine fun (Bk:Nat)=>?_|intro h)))
  dsimp only [List.set]
  all_goals (refine go ?_;and_intros<;>(try exact trivial)<;>repeat (first|refine fun (Bk:Nat)=>?_|intro h))
  repeat' ((first|(refine G.cP (g:=86) (X:={ S' // WP S4 a (a+j) S'∧Hp S' a 0 j }) (fun _=>.tuple #[]) [.blk g 3 (flat isV S4) tot] (fun x=>[.blk g 3 (flat isV x.1) tot]) rfl rfl (by (repeat (first|exact List.Perm.refl _|(refine pickT (by (repeat (first|exact Pick.head|apply Pick.tail))) ?_)))) ?_ ?_;exact fun w' hw'=>(siftDown_holds _ _ w' g tot n cp S4 a 0 j hw' (by omega) (by omega) hl (by omega) hsw).mono fun e w2 ⟨S',h1,h2,h3⟩=>⟨⟨S',h2⟩,h1,h3⟩;rintro ⟨U,u1,u2⟩;dsimp only))<;>(refine go ?_;and_intros<;>(try exact trivial)<;>repeat (first|refine fun (Bk:Nat)=>?_|intro h)))
  exact J.fin (ih U u1 u2)
 obtain rfl:k=0:=by omega
 clear ih
 have hso:=v2.so
 all_goals (refine go ?_;and_intros<;>(try exact trivial)<;>repeat (first|refine fun (Bk:Nat)=>?_|intro h))
 first
  | (refine end0 Tryd.func70 Tryd.results70 ?_;exact fun w' hw'=>⟨T,rfl,⟨v1,hso⟩,hw'⟩)
  | (refine ret0 Tryd.func70 Tryd.results70 ?_;exact fun w' hw'=>⟨T,rfl,⟨v1,hso⟩,hw'⟩)
end Go.Proofs.YtcdgibkbbcekhaaDoor
/-
 Unsigned words,whatever they are;the random numbers of the library's sort.
-/
namespace Go.Sl
open Go.RowKit
variable {C:Ctx}{st:List (Nat×Value)}{M:List Row}{k:List Item}{q q':Md}{all rest:List Oper}{d:Nat}{ty:TypeId}{pos:String}{after:Array Edge}{gd:Option (Nat×Bool)}
theorem wrapU (z:Int):∃ m:Nat,m < 18446744073709551616∧IntKind.u64.wrap z=(m:Int):=by
 refine ⟨(z % 18446744073709551616).toNat,by omega,?_⟩
 simp [IntKind.wrap,IntKind.bits,IntKind.signed];omega
theorem G.xorU {t:TypeId}{x y:Operand}{yt:TypeId}{a b:Int} (hx:evS st x=some (.int .u64 a)) (hy:evS st y=some (.int .u64 b)) (hs:sideB all st gd d C.N q.calm=some q') (h:∀ m:Nat,m < 18446744073709551616→G q' C all ((d,.int .u64 m)::st) M rest k) :
  G q C all st M ({ dst:=some d,op:=.binOp .xor t x y yt,type:=ty,pos,after,guard:=gd }::rest) k:=by
 obtain ⟨g1,g2,g3⟩:=sideB_ok hs
 obtain ⟨m,h1,h2⟩:=wrapU ((BitVec.ofInt IntKind.u64.bits a ^^^ BitVec.ofInt IntKind.u64.bits b).toNat:Int)
 refine G.op (OpV.bin hx hy fun w=>?_) g1 rfl g2 g3 (h m h1)
 rw [← h2];rfl
theorem G.shlU {t:TypeId}{x y:Operand}{yt:TypeId}{k2:IntKind}{a b:Int}{n:Nat} (hx:evS st x=some (.int .u64 a)) (hy:evS st y=some (.int k2 b)) (hn:b=(n:Int)) (hs:sideB all st gd d C.N q.calm=some q') (h:∀ m:Nat,m < 18446744073709551616→G q' C all ((d,.int .u64 m)::st) M rest k) :
  G q C all st M ({ dst:=some d,op:=.binOp .shl t x y yt,type:=ty,pos,after,guard:=gd }::rest) k:=by
 obtain ⟨g1,g2,g3⟩:=sideB_ok hs
 obtain ⟨m,h1,h2⟩:=wrapU (a*2 ^ (min n IntKind.u64.bits))
 exact G.shlK hx hy hn h2 g1 g2 g3 (h m h1)
theorem G.shrU {t:TypeId}{x y:Operand}{yt:TypeId}{k2:IntKind}{a:Nat}{b:Int}{n:Nat} (hx:evS st x=some (.int .u64 (a:Int))) (hy:evS st y=some (.int k2 b)) (hn:b=(n:Int)) (ha:a < 18446744073709551616) (hs:sideB all st gd d C.N q.calm=some q') (h:∀ m:Nat,m < 18446744073709551616→G q' C all ((d,.int .u64 m)::st) M rest k) :
  G q C all st M ({ dst:=some d,op:=.binOp .shr t x y yt,type:=ty,pos,after,guard:=gd }::rest) k:=by
 obtain ⟨g1,g2,g3⟩:=sideB_ok hs
 refine G.shrK hx hy hn (m:=((a / 2 ^ (min n IntKind.u64.bits):Nat):Int)) ?_ g1 g2 g3 (h _ (Nat.lt_of_le_of_lt (Nat.div_le_self _ _) ha))
 rw [Int.fdiv_eq_ediv_of_nonneg _ (Int.le_of_lt (Int.pow_pos (by decide)))];rfl
end Go.Sl
namespace Go.Proofs.YtcdgibkbbcekhaaDoor
open Go.RowKit Go.Sl Go.Num
theorem next_holds (w0:World) (M:List Row) (w:World) (br v:Nat) (hw:Sat w0 (.blk br 132 [.int .u64 (v:Nat)] 1::M) w) (hv:v < 18446744073709551616) :
  Calls Tryd.prog 88 #[.pointer (some ⟨br,0,none⟩)] w fun e w'=>∃ u z:Nat,(u < 18446744073709551616∧z < 18446744073709551616)∧e=.returned (.int .u64 z)∧Sat w0 (.blk br 132 [.int .u64 (u:Nat)] 1::M) w':=by
 refine enterR [(0,.pointer (some ⟨br,0,none⟩))] hw Tryd.func88 Tryd.ntmps88 ?_
 all_goals (refine goR ?_;and_intros<;>(try exact trivial)<;>repeat (first|refine fun (Bk:Nat)=>?_|intro h))
 repeat' ((first|(apply G.xorU;rfl;rfl;rfl;intro mx hmx)|(apply G.shlU (n:=13);rfl;rfl;rfl;rfl;intro my hmy)|(apply G.shlU (n:=17);rfl;rfl;rfl;rfl;intro mz hmz)|(apply G.shrU (n:=7);rfl;rfl;rfl;omega;rfl;intro mw hmw)|(apply J.regA (.q 0 <| .q 1 <| .q 2 <| .q 3 <| .q 4 <| .q 5 <| .q 6 <| .q 7 <| .q 8 <| .r 9 <| .nil);exact Tryd.mixed;decide +kernel)|(apply J.regQ;exact Tryd.mixed;decide +kernel)|(apply J.regL';exact Tryd.mixed;decide +kernel))<;>(refine goR ?_;and_intros<;>(try exact trivial)<;>repeat (first|refine fun (Bk:Nat)=>?_|intro h)))
 refine ret1 Tryd.func88 Tryd.results88 ?_
 intro w' hw'
 exact ⟨_,_,⟨hmx,hmx⟩,rfl,hw'⟩
end Go.Proofs.YtcdgibkbbcekhaaDoor
/-
 Contracts: a power of two that is at most twice a number;patterns are broken.
-/
namespace Go.Sl
open Go.RowKit
variable {C:Ctx}{st:List (Nat×Value)}{M:List Row}{k:List Item}{q q':Md}{all rest:List Oper}{d:Nat}{ty:TypeId}{pos:String}{after:Array Edge}{gd:Option (Nat×Bool)}
theorem G.sxp {T:TypeId}{x y:Operand}{l:List UInt8}{ki:IntKind}{e:Int}{i:Nat} (P:Nat→Nat→Bool) (hx:evS st x=some (.string (bs l))) (hy:evS st y=some (.int ki e)) (he:e=(i:Int)) (hi:i < l.length) (hP:(List.range l.length).all (fun i=>P i ((l.getD i 0).toNat))=true) [hT:TString C.P T] (hs:sideB all st gd d C.N q.calm=some q') (h:∀ t:Nat,t < 256→P i t=true→G q' C all ((d,.int .u8 t)::st) M rest k) :
  G q C all st M ({ dst:=some d,op:=.index T x y,type:=ty,pos,after,guard:=gd }::rest) k:=by
 refine G.sx hx hy he (List.getElem?_eq_getElem hi) hs (h _ (UInt8.toNat_lt _) ?_)
 have:=List.all_eq_true.1 hP i (List.mem_range.2 hi)
 rw [List.getD_eq_getElem?_getD,List.getElem?_eq_getElem hi] at this
 exact this
end Go.Sl
namespace Go.Proofs.YtcdgibkbbcekhaaDoor
open Go.RowKit Go.Sl Go.Num
theorem len64p_holds (x:Nat) (w:World) (h0:0 < x) (hx:x < 4294967296):Calls Tryd.prog 79 #[.int .u64 x] w fun e w'=>∃ z:Nat,(z≤40∧2 ^ z≤2*x)∧e=.returned (.int .i64 z)∧Below w.heap.size w w':=by
 refine enterA [(0,.int .u64 x)] Tryd.func79 Tryd.ntmps79 ?_
 all_goals (refine go ?_;and_intros<;>(try exact trivial)<;>repeat (first|refine fun (Bk:Nat)=>?_|intro h))
 repeat' ((first|(apply G.shrK (n:=16) (k1:=.u64);rfl;rfl;rfl;exact shr_n (k:=65536) rfl rfl;rfl;rfl;rfl)|(apply G.shrK (n:=8) (k1:=.u64);rfl;rfl;rfl;exact shr_n (k:=256) rfl rfl;rfl;rfl;rfl)|(apply G.sxp (fun i t=>decide (t≤8) && (decide (i=0) || decide (2 ^ t≤2*i)));rfl;rfl;rfl;exact Nat.lt_of_lt_of_eq (m:=256) (by omega) (by decide +kernel);decide +kernel;rfl;intro tt ht hp))<;>(refine go ?_;and_intros<;>(try exact trivial)<;>repeat (first|refine fun (Bk:Nat)=>?_|intro h)))
 all_goals
  simp only [Bool.and_eq_true,Bool.or_eq_true,decide_eq_true_eq] at hp
  obtain ⟨hp1,hp2⟩:=hp
  have hp2:=hp2.resolve_left (by omega)
  refine ret1 Tryd.func79 Tryd.results79 ?_
  intro w' hw'
  have e8:2 ^ (8+tt)=256*2 ^ tt:=by rw [Nat.pow_add]
  have e16:2 ^ (16+tt)=65536*2 ^ tt:=by rw [Nat.pow_add]
  have e24:2 ^ (24+tt)=16777216*2 ^ tt:=by rw [Nat.pow_add]
  first
   | exact ⟨tt,⟨by omega,by omega⟩,congrArg Ending.returned (congrArg (Value.int .i64) (by omega)),hw'.below⟩
   | exact ⟨8+tt,⟨by omega,by omega⟩,congrArg Ending.returned (congrArg (Value.int .i64) (by omega)),hw'.below⟩
   | exact ⟨16+tt,⟨by omega,by omega⟩,congrArg Ending.returned (congrArg (Value.int .i64) (by omega)),hw'.below⟩
   | exact ⟨24+tt,⟨by omega,by omega⟩,congrArg Ending.returned (congrArg (Value.int .i64) (by omega)),hw'.below⟩
theorem lenp_holds (x:Nat) (w:World) (h0:0 < x) (hx:x < 4294967296):Calls Tryd.prog 63 #[.int .u64 x] w fun e w'=>∃ z:Nat,(z≤40∧2 ^ z≤2*x)∧e=.returned (.int .i64 z)∧Below w.heap.size w w':=by
 have hl:=fun w' (_:Below w.heap.size w w')=>len64p_holds x w' h0 hx
 refine enterA [(0,.int .u64 x)] Tryd.func63 Tryd.ntmps63 ?_
 all_goals (refine go ?_;and_intros<;>(try exact trivial)<;>repeat (first|refine fun (Bk:Nat)=>?_|intro h))
 repeat' ((first|(refine G.cX (X:={ z:Nat // z≤40∧2 ^ z≤2*x }) (v:=fun z=>.int .i64 z.1) (fun w' hb=>(hl w' hb).mono fun e w2 ⟨z,h1,h2,h3⟩=>⟨⟨z,h1⟩,h2,h3⟩) ?_;intro z))<;>(refine go ?_;and_intros<;>(try exact trivial)<;>repeat (first|refine fun (Bk:Nat)=>?_|intro h)))
 refine ret1 Tryd.func63 Tryd.results63 fun w' hw=>⟨_,z.2,rfl,hw.below⟩
theorem shl1 {z:Nat} (hz:z≤40):IntKind.u64.wrap (1*2 ^ (min z IntKind.u64.bits))=((2 ^ z:Nat):Int):=by
 have h1:min z IntKind.u64.bits=z:=Nat.min_eq_left (Nat.le_trans hz (by decide))
 have h2:2 ^ z≤2 ^ 40:=Nat.pow_le_pow_right (by decide) hz
 have h3:(2:Int) ^ z=((2 ^ z:Nat):Int):=by simp
 rw [h1,Int.one_mul,h3]
 generalize 2 ^ z=p at *
 simp [IntKind.wrap,IntKind.bits,IntKind.signed];omega
theorem pow2_holds (x:Nat) (w:World) (h0:0 < x) (hx:x < 4294967296):Calls Tryd.prog 87 #[.int .i64 x] w fun e w'=>∃ m:Nat,(0 < m∧m≤2*x)∧e=.returned (.int .u64 m)∧Below w.heap.size w w':=by
 have hl:=fun w' (_:Below w.heap.size w w')=>lenp_holds x w' h0 hx
 refine enterA [(0,.int .i64 x)] Tryd.func87 Tryd.ntmps87 ?_
 all_goals (refine go ?_;and_intros<;>(try exact trivial)<;>repeat (first|refine fun (Bk:Nat)=>?_|intro h))
 repeat' ((first|(refine G.cX (X:={ z:Nat // z≤40∧2 ^ z≤2*x }) (v:=fun z=>.int .i64 z.1) (fun w' hb=>(hl w' hb).mono fun e w2 ⟨z,h1,h2,h3⟩=>⟨⟨z,h1⟩,h2,h3⟩) ?_;rintro ⟨z,hz1,hz2⟩;dsimp only)|(apply G.shlK (n:=z);rfl;rfl;rfl;exact shl1 hz1;rfl;rfl;rfl))<;>(refine go ?_;and_intros<;>(try exact trivial)<;>repeat (first|refine fun (Bk:Nat)=>?_|intro h)))
 refine ret1 Tryd.func87 Tryd.results87 ?_
 intro w' hw'
 exact ⟨2 ^ z,⟨Nat.pos_of_ne_zero (by simp),hz2⟩,rfl,hw'.below⟩
end Go.Proofs.YtcdgibkbbcekhaaDoor
/-
 Contracts: patterns are broken.
-/
namespace Go.Sl
open Go.RowKit
variable {C:Ctx}{st:List (Nat×Value)}{M:List Row}{k:List Item}{q q':Md}{all rest:List Oper}{d:Nat}{ty:TypeId}{pos:String}{after:Array Edge}{gd:Option (Nat×Bool)}
theorem G.andU {t:TypeId}{x y:Operand}{yt:TypeId}{a:Int}{b:Nat} (hx:evS st x=some (.int .u64 a)) (hy:evS st y=some (.int .u64 (b:Int))) (hb:b < 18446744073709551616) (hs:sideB all st gd d C.N q.calm=some q') (h:∀ m:Nat,m≤b→G q' C all ((d,.int .u64 m)::st) M rest k) :
  G q C all st M ({ dst:=some d,op:=.binOp .and t x y yt,type:=ty,pos,after,guard:=gd }::rest) k:=by
 obtain ⟨g1,g2,g3⟩:=sideB_ok hs
 have e2:(BitVec.ofInt IntKind.u64.bits (b:Int)).toNat=b:=by
  show (BitVec.ofInt 64 (b:Int)).toNat=b
  rw [BitVec.ofInt_natCast,BitVec.toNat_ofNat];omega
 have hle:(BitVec.ofInt IntKind.u64.bits a &&& BitVec.ofInt IntKind.u64.bits (b:Int)).toNat≤b:=by
  rw [BitVec.toNat_and,e2];exact Nat.and_le_right
 refine G.andK hx hy (m:=(((BitVec.ofInt IntKind.u64.bits a &&& BitVec.ofInt IntKind.u64.bits (b:Int)).toNat:Nat):Int)) ?_ g1 g2 g3 (h _ hle)
 generalize (BitVec.ofInt IntKind.u64.bits a &&& BitVec.ofInt IntKind.u64.bits (b:Int)).toNat=p at *
 simp [IntKind.wrap,IntKind.bits,IntKind.signed];omega
end Go.Sl
namespace Go.Proofs.YtcdgibkbbcekhaaDoor
open Go.RowKit Go.Sl Go.Num
set_option maxHeartbeats 4000000 in
theorem break_holds (w0:World) (M:List Row) (w:World) (g tot n cp:Nat) (S:List Int) (a l:Nat) (hw:Sat w0 (.blk g 3 (flat isV S) tot::M) w) (hb:a+l≤n) (hn:n=S.length) (hl:n≤1000000000) (h8:8≤l) :
  Calls Tryd.prog 71 #[.slice (some ⟨g,0,none⟩) n cp,.int .i64 a,.int .i64 ((a+l:Nat):Int)] w fun e w'=>∃ S',e=.returned (.tuple #[])∧WP S a (a+l) S'∧Sat w0 (.blk g 3 (flat isV S') tot::M) w':=by
 have hp2:=fun w' (_:Below w0.heap.size w0 w')=>pow2_holds l w' (by omega) (by omega)
 refine enterR [(0,.slice (some ⟨g,0,none⟩) n cp),(1,.int .i64 a),(2,.int .i64 ((a+l:Nat):Int))] hw Tryd.func71 Tryd.ntmps71 ?_
 all_goals (refine go ?_;and_intros<;>(try exact trivial)<;>repeat (first|refine fun (Bk:Nat)=>?_|intro h))
 revert Bk;intro Bs
 rw [show (((a+l:Nat):Int)-a)=((l:Nat):Int) by omega]
 all_goals (refine go ?_;and_intros<;>(try exact trivial)<;>repeat (first|refine fun (Bk:Nat)=>?_|intro h))
 repeat' ((first|(refine G.cX (X:={ m:Nat // 0 < m∧m≤2*l }) (v:=fun m=>.int .u64 m.1) (fun w' hb=>(hp2 w' hb).mono fun e w2 ⟨z,h1,h2,h3⟩=>⟨⟨z,h1⟩,h2,h3⟩) ?_;rintro ⟨m,hm1,hm2⟩;dsimp only))<;>(refine go ?_;and_intros<;>(try exact trivial)<;>repeat (first|refine fun (Bk:Nat)=>?_|intro h)))
 obtain ⟨p0,hp0⟩:∃ p,l / 4*2=p+1:=⟨l / 4*2-1,by omega⟩
 rw [show ((a:Int)+(l:Int) / 4*2-1)=((a+(p0+0):Nat):Int) by omega]
 refine J.loop (c:=_) ((0,l,S):Nat×Nat×List Int) (fun s=>3-s.1) (fun s=>[(0,.slice (some ⟨g,0,none⟩) n cp),(1,.int .i64 a),(6,.int .i64 l),(7,.pointer (some ⟨Bs,0,none⟩)),(8,.int .u64 m),(9,.int .i64 ((a+(p0+s.1):Nat):Int))]) (fun s=>.blk Bs 132 [.int .u64 (s.2.1:Nat)] 1::.blk g 3 (flat isV s.2.2) tot::M) (fun s=>s.1≤3∧s.2.1 < 18446744073709551616∧WP S a (a+l) s.2.2) ?_ sbT sbL ?_
 ·exact ⟨Nat.zero_le _,by dsimp only;omega,WP.refl _ _ _⟩
 intro ⟨i,v,T⟩ ⟨i1,v1,v2⟩ ih
 dsimp only at i1 v1 v2 ⊢
 have hlt:=v2.len
 by_cases hi:i < 3
 case neg =>
  clear ih
  all_goals (refine go ?_;and_intros<;>(try exact trivial)<;>repeat (first|refine fun (Bk:Nat)=>?_|intro h))
  first
   | (refine end0 Tryd.func71 Tryd.results71 ?_;exact fun w' hw'=>⟨T,rfl,v2,hw'.forget (List.sublist_cons_self _ _)⟩)
   | (refine ret0 Tryd.func71 Tryd.results71 ?_;exact fun w' hw'=>⟨T,rfl,v2,hw'.forget (List.sublist_cons_self _ _)⟩)
 all_goals (refine go ?_;and_intros<;>(try exact trivial)<;>repeat (first|refine fun (Bk:Nat)=>?_|intro h))
 repeat' ((first|(refine G.cP (g:=88) (X:={ t:Nat×Nat // t.1 < 18446744073709551616∧t.2 < 18446744073709551616 }) (fun t=>.int .u64 t.1.2) [.blk Bs 132 [.int .u64 (v:Nat)] 1] (fun t=>[.blk Bs 132 [.int .u64 (t.1.1:Nat)] 1]) rfl rfl (by (repeat (first|exact List.Perm.refl _|(refine pickT (by (repeat (first|exact Pick.head|apply Pick.tail))) ?_)))) ?_ ?_;exact fun w' hw'=>(next_holds _ _ w' Bs v hw' v1).mono fun e w2 ⟨u,z,h1,h2,h3⟩=>⟨⟨(u,z),h1⟩,h2,h3⟩;rintro ⟨⟨u,z⟩,u1,u2⟩;dsimp only at u1 u2 ⊢))<;>(refine go ?_;and_intros<;>(try exact trivial)<;>repeat (first|refine fun (Bk:Nat)=>?_|intro h)))
 rw [show ((m:Int)-1)=((m-1:Nat):Int) by omega]
 dsimp only [List.cons_append,List.nil_append]
 all_goals (refine go ?_;and_intros<;>(try exact trivial)<;>repeat (first|refine fun (Bk:Nat)=>?_|intro h))
 repeat' ((first|(apply G.andU;rfl;rfl;omega;rfl;intro o ho))<;>(refine go ?_;and_intros<;>(try exact trivial)<;>repeat (first|refine fun (Bk:Nat)=>?_|intro h)))
 ·skip
  have hol:o-l < l:=by omega
  have w2:=v2.trans (WP.swp (S:=T) (a:=a) (b:=a+l) (x:=a+(p0+i)) (y:=a+(o-l)) ⟨by omega,by omega⟩ ⟨by omega,by omega⟩ (by omega))
  have ih:=ih (i+1,u,_) ⟨by dsimp only;omega,u1,w2⟩ (by dsimp only;omega)
  have q1:=gI (S:=T) (j:=a+(p0+i)) (by omega)
  have q2:=gI (S:=T) (j:=a+(o-l)) (by omega)
  have r1:=sI (S:=T) (j:=a+(p0+i)) (v:=T.getD (a+(o-l)) 0) (by omega)
  have r2:=sI (S:=T.set (a+(p0+i)) (T.getD (a+(o-l)) 0)) (j:=a+(o-l)) (v:=T.getD (a+(p0+i)) 0) (by rw [List.length_set];omega)
  have l1:0+(a+(p0+i))*1 < (flat isV T).length:=by rw [isLen];omega
  have l2:0+(a+(o-l))*1 < (flat isV (T.set (a+(p0+i)) (T.getD (a+(o-l)) 0))).length:=by rw [isLen,List.length_set];omega
  dsimp only [swp] at ih
  clear v2 w2
  generalize T.getD (a+(p0+i)) 0=x at *
  generalize T.getD (a+(o-l)) 0=y at *
  generalize T.set (a+(p0+i)) y=S3 at *
  generalize S3.set (a+(o-l)) x=S4 at *
  all_goals (refine goR ?_;and_intros<;>(try exact trivial)<;>repeat (first|refine fun (Bk:Nat)=>?_|intro h))
  repeat' ((first|(apply G.ld;rfl;(apply LdV.one;exact CellV.blk (by exact mm) q1);rfl)|(apply G.ld;rfl;(apply LdV.one;exact CellV.blk (by exact mm) q2);rfl)|(apply J.regX 1 [2,3,4,5] (.q 0 <| .q 1 <| .q 2 <| .q 3 <| .q 4 <| .q 5 <| .q 6 <| .q 7 <| .q 8 <| .q 9 <| .q 10 <| .q 11 <| .q 12 <| .q 13 <| .q 14 <| .q 15 <| .q 16 <| .e 17 <| .q 18 <| .e 19 <| .nil);exact Tryd.mixed;decide +kernel)|(apply G.s1n (n:=1);rfl;rfl;rfl;exact rfl;exact ⟨rfl,rfl⟩;exact l1;exact r1)|(apply G.s1n (n:=1);rfl;rfl;rfl;exact rfl;exact ⟨rfl,rfl⟩;exact l2;exact r2)|(apply G.ix (i:=a+(p0+i));rfl;rfl;omega;omega;rfl)|(apply G.ix (i:=a+(o-l));rfl;rfl;omega;omega;rfl)|(apply J.regQ;exact Tryd.mixed;decide +kernel)|(apply J.regL';exact Tryd.mixed;decide +kernel))<;>(refine goR ?_;and_intros<;>(try exact trivial)<;>repeat (first|refine fun (Bk:Nat)=>?_|intro h)))
  rw [show ((a+(p0+i):Nat):Int)+1=((a+(p0+(i+1)):Nat):Int) by omega]
  exact J.fin ih
 ·skip
  have hol:o < l:=by omega
  have w2:=v2.trans (WP.swp (S:=T) (a:=a) (b:=a+l) (x:=a+(p0+i)) (y:=a+(o)) ⟨by omega,by omega⟩ ⟨by omega,by omega⟩ (by omega))
  have ih:=ih (i+1,u,_) ⟨by dsimp only;omega,u1,w2⟩ (by dsimp only;omega)
  have q1:=gI (S:=T) (j:=a+(p0+i)) (by omega)
  have q2:=gI (S:=T) (j:=a+(o)) (by omega)
  have r1:=sI (S:=T) (j:=a+(p0+i)) (v:=T.getD (a+(o)) 0) (by omega)
  have r2:=sI (S:=T.set (a+(p0+i)) (T.getD (a+(o)) 0)) (j:=a+(o)) (v:=T.getD (a+(p0+i)) 0) (by rw [List.length_set];omega)
  have l1:0+(a+(p0+i))*1 < (flat isV T).length:=by rw [isLen];omega
  have l2:0+(a+(o))*1 < (flat isV (T.set (a+(p0+i)) (T.getD (a+(o)) 0))).length:=by rw [isLen,List.length_set];omega
  dsimp only [swp] at ih
  clear v2 w2
  generalize T.getD (a+(p0+i)) 0=x at *
  generalize T.getD (a+(o)) 0=y at *
  generalize T.set (a+(p0+i)) y=S3 at *
  generalize S3.set (a+(o)) x=S4 at *
  all_goals (refine goR ?_;and_intros<;>(try exact trivial)<;>repeat (first|refine fun (Bk:Nat)=>?_|intro h))
  repeat' ((first|(apply G.ld;rfl;(apply LdV.one;exact CellV.blk (by exact mm) q1);rfl)|(apply G.ld;rfl;(apply LdV.one;exact CellV.blk (by exact mm) q2);rfl)|(apply J.regX 1 [2,3,4,5] (.q 0 <| .q 1 <| .q 2 <| .q 3 <| .q 4 <| .q 5 <| .q 6 <| .q 7 <| .q 8 <| .q 9 <| .q 10 <| .q 11 <| .q 12 <| .q 13 <| .q 14 <| .q 15 <| .q 16 <| .e 17 <| .q 18 <| .e 19 <| .nil);exact Tryd.mixed;decide +kernel)|(apply G.s1n (n:=1);rfl;rfl;rfl;exact rfl;exact ⟨rfl,rfl⟩;exact l1;exact r1)|(apply G.s1n (n:=1);rfl;rfl;rfl;exact rfl;exact ⟨rfl,rfl⟩;exact l2;exact r2)|(apply G.ix (i:=a+(p0+i));rfl;rfl;omega;omega;rfl)|(apply G.ix (i:=a+(o));rfl;rfl;omega;omega;rfl)|(apply J.regQ;exact Tryd.mixed;decide +kernel)|(apply J.regL';exact Tryd.mixed;decide +kernel))<;>(refine goR ?_;and_intros<;>(try exact trivial)<;>repeat (first|refine fun (Bk:Nat)=>?_|intro h)))
  rw [show ((a+(p0+i):Nat):Int)+1=((a+(p0+(i+1)):Nat):Int) by omega]
  exact J.fin ih
end Go.Proofs.YtcdgibkbbcekhaaDoor
/-
 Plain laws of the library's quicksort: the window that is left to sort.
-/
namespace Go.Proofs.YtcdgibkbbcekhaaDoor
open Go.RowKit Go.Sl Go.Num
structure PQ (S:List Int) (a0 b0 a b:Nat):Prop where
 r:a0≤a∧a≤b∧b≤b0
 lo:Srt S a0 a
 hi:Srt S b b0
 l1:∀ x y,a0≤x→x < a→a≤y→y < b0→S.getD x 0≤S.getD y 0
 l2:∀ x y,a0≤x→x < b→b≤y→y < b0→S.getD x 0≤S.getD y 0
def Pre (S:List Int) (a b:Nat):Prop:=0 < a→∀ z,a≤z→z < b→S.getD (a-1) 0≤S.getD z 0
theorem PQ.start {S:List Int}{a b:Nat} (h:a≤b):PQ S a b a b:=⟨⟨Nat.le_refl _,h,Nat.le_refl _⟩,Srt.short (by omega),Srt.short (by omega),fun x y h1 h2=>by omega,fun x y h1 h2 h3 h4=>by omega⟩
theorem PQ.perm {S T:List Int}{a0 b0 a b:Nat} (h:PQ S a0 b0 a b) (hw:WP S a b T) (hb:b0≤S.length):PQ T a0 b0 a b:=by
 have hr:=h.r
 have eo:∀ z,z < a∨b≤z→T.getD z 0=S.getD z 0:=hw.out
 refine ⟨hr,fun x y h1 h2 h3=>?_,fun x y h1 h2 h3=>?_,fun x y h1 h2 h3 h4=>?_,fun x y h1 h2 h3 h4=>?_⟩
 ·rw [eo x (by omega),eo y (by omega)];exact h.lo x y h1 h2 h3
 ·rw [eo x (by omega),eo y (by omega)];exact h.hi x y h1 h2 h3
 ·rw [eo x (by omega)]
  by_cases hy:y < b
  ·exact hw.all (by omega) (P:=fun v=>S.getD x 0≤v) (fun z q1 q2=>h.l1 x z h1 h2 q1 (by omega)) y h3 hy
  ·rw [eo y (by omega)];exact h.l1 x y h1 h2 h3 h4
 ·rw [eo y (by omega)]
  by_cases hx:x < a
  ·rw [eo x (by omega)];exact h.l2 x y h1 (by omega) h3 h4
  ·exact hw.all (by omega) (P:=fun v=>v≤S.getD y 0) (fun z q1 q2=>h.l2 z y (by omega) q2 h3 h4) x (by omega) h2
theorem Pre.perm {S T:List Int}{a b:Nat} (h:Pre S a b) (hw:WP S a b T) (hb:b≤S.length):Pre T a b:=fun h0 z h1 h2=>by
 rw [hw.out (a-1) (by omega)]
 exact hw.all hb (P:=fun v=>S.getD (a-1) 0≤v) (h h0) z h1 h2
theorem PQ.fin {S:List Int}{a0 b0 a b:Nat} (h:PQ S a0 b0 a b) (hs:Srt S a b):Srt S a0 b0:=fun x y h1 h2 h3=>by
 have hr:=h.r
 by_cases hx:x < a
 ·by_cases hy:y < a
  ·exact h.lo x y h1 h2 hy
  ·exact h.l1 x y h1 hx (by omega) h3
 ·by_cases hy:y < b
  ·exact hs x y (by omega) h2 hy
  ·by_cases hx2:x < b
   ·exact h.l2 x y h1 hx2 (by omega) h3
   ·exact h.hi x y (by omega) h2 h3
theorem PQ.left {S T:List Int}{a0 b0 a m b:Nat} (h:PQ S a0 b0 a b) (hp:Par S a m b) (hw:WP S a m T) (hs:Srt T a m) (hb:b0≤S.length):PQ T a0 b0 (m+1) b∧Pre T (m+1) b:=by
 have hr:=h.r
 obtain ⟨p1,p2,p3⟩:=hp
 have hT:=h.perm (hw.mono (Nat.le_refl _) (by omega)) hb
 have em:∀ z,m≤z→T.getD z 0=S.getD z 0:=fun z hz=>hw.out z (.inr hz)
 have low:∀ x,a≤x→x < m→T.getD x 0≤S.getD m 0:=hw.all (by omega) (P:=fun v=>v≤S.getD m 0) p2
 have c1:∀ x,a≤x→x≤m→∀ y,m < y→y < b→T.getD x 0≤T.getD y 0:=fun x h1 h2 y h3 h4=>by
  rw [em y (by omega)]
  by_cases hx:x=m
  ·subst hx;rw [em x (by omega)];exact p3 y h3 h4
  ·exact Int.le_trans (low x h1 (by omega)) (p3 y h3 h4)
 refine ⟨⟨⟨by omega,by omega,hr.2.2⟩,fun x y h1 h2 h3=>?_,hT.hi,fun x y h1 h2 h3 h4=>?_,hT.l2⟩,fun _ z h1 h2=>?_⟩
 ·by_cases hx:x < a
  ·by_cases hy:y < a
   ·exact hT.lo x y h1 h2 hy
   ·exact hT.l1 x y h1 hx (by omega) (by omega)
  ·by_cases hy:y=m
   ·subst hy;rw [em y (Nat.le_refl _)];exact low x (by omega) h2
   ·exact hs x y (by omega) h2 (by omega)
 ·by_cases hx:x < a
  ·exact hT.l1 x y h1 hx (by omega) h4
  ·by_cases hy:y < b
   ·exact c1 x (by omega) (by omega) y (by omega) hy
   ·exact hT.l2 x y h1 (by omega) (by omega) h4
 ·rw [Nat.add_sub_cancel];exact c1 m p1.1 (Nat.le_refl _) z (by omega) h2
theorem PQ.right {S T:List Int}{a0 b0 a m b:Nat} (h:PQ S a0 b0 a b) (hq:Pre S a b) (hp:Par S a m b) (hw:WP S (m+1) b T) (hs:Srt T (m+1) b) (hb:b0≤S.length):PQ T a0 b0 a m∧Pre T a m:=by
 have hr:=h.r
 obtain ⟨p1,p2,p3⟩:=hp
 have hw2:=hw.mono (c:=a) (d:=b) (by omega) (Nat.le_refl _)
 have hT:=h.perm hw2 hb
 have hQ:=hq.perm hw2 (by omega)
 have em:∀ z,z≤m→T.getD z 0=S.getD z 0:=fun z hz=>hw.out z (.inl (by omega))
 have upp:∀ y,m+1≤y→y < b→S.getD m 0≤T.getD y 0:=hw.all (by omega) (P:=fun v=>S.getD m 0≤v) fun z h1 h2=>p3 z (by omega) h2
 have c1:∀ x,a≤x→x≤m→∀ y,m < y→y < b→T.getD x 0≤T.getD y 0:=fun x h1 h2 y h3 h4=>by
  rw [em x h2]
  by_cases hx:x=m
  ·subst hx;exact upp y (by omega) h4
  ·exact Int.le_trans (p2 x h1 (by omega)) (upp y (by omega) h4)
 refine ⟨⟨⟨hr.1,p1.1,by omega⟩,hT.lo,fun x y h1 h2 h3=>?_,hT.l1,fun x y h1 h2 h3 h4=>?_⟩,fun h0 z h1 h2=>hQ h0 z h1 (by omega)⟩
 ·by_cases hx:x < b
  ·by_cases hy:y < b
   ·by_cases hx2:x=m
    ·subst hx2;exact c1 x p1.1 (Nat.le_refl _) y (by omega) hy
    ·exact hs x y (by omega) h2 hy
   ·exact hT.l2 x y (by omega) hx (by omega) h3
  ·exact hT.hi x y (by omega) h2 h3
 ·by_cases hx:x < a
  ·exact hT.l1 x y h1 hx (by omega) h4
  ·by_cases hy:y < b
   ·by_cases hy2:y=m
    ·subst hy2;rw [em x (by omega),em y (Nat.le_refl _)];exact p2 x (by omega) h2
    ·exact c1 x (by omega) (by omega) y (by omega) hy
   ·exact hT.l2 x y h1 (by omega) (by omega) h4
theorem PQ.equal {S:List Int}{a0 b0 a m b:Nat} (h:PQ S a0 b0 a b) (he:EIn S a m m b) (hmin:∀ z,a≤z→z < b→S.getD a 0≤S.getD z 0):PQ S a0 b0 m b∧Pre S m b:=by
 have hr:=h.r
 have e1:=he.h1
 have e3:=he.h3
 have low:∀ x,a≤x→x < m→S.getD x 0≤S.getD a 0:=fun x h1 h2=>by
  by_cases hx:x=a
  ·subst hx;exact Int.le_refl _
  ·exact he.lo x (by omega) h2
 refine ⟨⟨⟨by omega,e3,hr.2.2⟩,fun x y h1 h2 h3=>?_,h.hi,fun x y h1 h2 h3 h4=>?_,h.l2⟩,fun h0 z h1 h2=>?_⟩
 ·by_cases hx:x < a
  ·by_cases hy:y < a
   ·exact h.lo x y h1 h2 hy
   ·exact h.l1 x y h1 hx (by omega) (by omega)
  ·exact Int.le_trans (low x (by omega) (by omega)) (hmin y (by omega) (by omega))
 ·by_cases hx:x < a
  ·exact h.l1 x y h1 hx (by omega) h4
  ·by_cases hy:y < b
   ·exact Int.le_trans (low x (by omega) h2) (Int.le_of_lt (he.hi y h3 hy))
   ·exact h.l2 x y h1 (by omega) (by omega) h4
 ·exact Int.le_trans (low (m-1) (by omega) (by omega)) (Int.le_of_lt (he.hi z h1 h2))
end Go.Proofs.YtcdgibkbbcekhaaDoor
/-
 Contracts: the quicksort of the library sorts.
-/
namespace Go.Proofs.YtcdgibkbbcekhaaDoor
open Go.RowKit Go.Sl Go.Num
set_option maxHeartbeats 8000000 in
theorem pdq_holds (g tot n cp:Nat) (hl:n≤1000000000):∀ (N:Nat) (w0:World) (M:List Row) (w:World) (S:List Int) (a b L:Nat) (_:Sat w0 (.blk g 3 (flat isV S) tot::M) w) (_:b≤n) (_:n=S.length) (_:a≤b) (_:b-a≤N) (_:Pre S a b) (_:L≤1000),
  Calls Tryd.prog 62 #[.slice (some ⟨g,0,none⟩) n cp,.int .i64 a,.int .i64 b,.int .i64 L] w fun e w'=>∃ S',e=.returned (.tuple #[])∧(WP S a b S'∧Srt S' a b)∧Sat w0 (.blk g 3 (flat isV S') tot::M) w':=by
 intro N
 induction N using Nat.strongRecOn with
 | _ N ihN =>
 intro w0 M w S a0 b0 L0 hw hb hn hab hN hpre hL0
 refine enterR [(0,.slice (some ⟨g,0,none⟩) n cp),(1,.int .i64 a0),(2,.int .i64 b0),(3,.int .i64 L0)] hw Tryd.func62 Tryd.ntmps62 ?_
 all_goals (refine go ?_;and_intros<;>(try exact trivial)<;>repeat (first|refine fun (Bk:Nat)=>?_|intro h))
 refine J.loop (c:=_) ((a0,b0,L0,true,true,S):Nat×Nat×Nat×Bool×Bool×List Int) (fun s=>s.2.1-s.1) (fun s=>[(0,.slice (some ⟨g,0,none⟩) n cp),(1,.int .i64 (s.1:Nat)),(2,.int .i64 (s.2.1:Nat)),(3,.int .i64 (s.2.2.1:Nat)),(8,.bool s.2.2.2.1),(9,.bool s.2.2.2.2.1)]) (fun s=>.blk g 3 (flat isV s.2.2.2.2.2) tot::M) (fun s=>s.2.2.1≤1000∧WP S a0 b0 s.2.2.2.2.2∧PQ s.2.2.2.2.2 a0 b0 s.1 s.2.1∧Pre s.2.2.2.2.2 s.1 s.2.1) ?_ sbT sbL ?_
 ·exact ⟨hL0,WP.refl _ _ _,PQ.start hab,hpre⟩
 intro ⟨a,b,L,wb,wp,T⟩ ⟨hL,v1,v2,v3⟩ ih
 dsimp only at hL v1 v2 v3 ⊢
 have hr:=v2.r
 have hlt:=v1.len
 by_cases h12:b≤a+12
 ·clear ih ihN
  all_goals (refine go ?_;and_intros<;>(try exact trivial)<;>repeat (first|refine fun (Bk:Nat)=>?_|intro h))
  repeat' ((first|(refine G.cP (g:=69) (X:={ S' // WP T a b S'∧Srt S' a b }) (fun _=>.tuple #[]) [.blk g 3 (flat isV T) tot] (fun x=>[.blk g 3 (flat isV x.1) tot]) rfl rfl (by (repeat (first|exact List.Perm.refl _|(refine pickT (by (repeat (first|exact Pick.head|apply Pick.tail))) ?_)))) ?_ ?_;exact fun w' hw'=>(insSort_holds _ _ w' g tot n cp T a b hw' (by omega) (by omega) hl (by omega)).mono fun e w2 ⟨S',h1,h2,h3⟩=>⟨⟨S',h2⟩,h1,h3⟩;rintro ⟨U,u1,u2⟩;dsimp only))<;>(refine go ?_;and_intros<;>(try exact trivial)<;>repeat (first|refine fun (Bk:Nat)=>?_|intro h)))
  refine ret0 Tryd.func62 Tryd.results62 ?_
  exact fun w' hw'=>⟨U,rfl,⟨v1.trans (u1.mono hr.1 hr.2.2),(v2.perm u1 (by omega)).fin u2⟩,hw'⟩
 by_cases hL2:L=0
 ·subst hL2
  clear ih ihN
  obtain ⟨k,rfl⟩:∃ k,b=a+k:=⟨b-a,by omega⟩
  all_goals (refine go ?_;and_intros<;>(try exact trivial)<;>repeat (first|refine fun (Bk:Nat)=>?_|intro h))
  repeat' ((first|(refine G.cP (g:=70) (X:={ S' // WP T a (a+k) S'∧Srt S' a (a+k) }) (fun _=>.tuple #[]) [.blk g 3 (flat isV T) tot] (fun x=>[.blk g 3 (flat isV x.1) tot]) rfl rfl (by (repeat (first|exact List.Perm.refl _|(refine pickT (by (repeat (first|exact Pick.head|apply Pick.tail))) ?_)))) ?_ ?_;exact fun w' hw'=>(heapSort_holds _ _ w' g tot n cp T a k hw' (by omega) (by omega) hl (by omega)).mono fun e w2 ⟨S',h1,h2,h3⟩=>⟨⟨S',h2⟩,h1,h3⟩;rintro ⟨U,u1,u2⟩;dsimp only))<;>(refine go ?_;and_intros<;>(try exact trivial)<;>repeat (first|refine fun (Bk:Nat)=>?_|intro h)))
  refine ret0 Tryd.func62 Tryd.results62 ?_
  exact fun w' hw'=>⟨U,rfl,⟨v1.trans (u1.mono hr.1 hr.2.2),(v2.perm u1 (by omega)).fin u2⟩,hw'⟩
 apply cutK (X:={ t:Nat×Nat×List Int // (a≤t.1∧t.1 < b)∧t.2.1≤1000∧WP T a b t.2.2 }) (fun t=>[(0,.slice (some ⟨g,0,none⟩) n cp),(1,.int .i64 (a:Nat)),(2,.int .i64 (b:Nat)),(3,.int .i64 (t.1.2.1:Nat)),(8,.bool wb),(9,.bool wp),(10,.int .i64 ((b:Int)-a)),(11,.int .i64 (t.1.1:Nat))]) (fun t=>.blk g 3 (flat isV t.1.2.2) tot::M)
 ·intro hk
  have hTT:=WP.refl T a b
  have rv:∀ p:Nat,a≤p→p < b→((b:Int)-1-((p:Int)-a))=((b-1-(p-a):Nat):Int):=fun p h1 h2=>by omega
  have hwb:wb=false∨wb=true:=by cases wb<;>simp
  have hwp:wp=false∨wp=true:=by cases wp<;>simp
  rcases hwb with hwb|hwb<;>rcases hwp with hwp|hwp<;>rw [hwb,hwp]
  ·obtain ⟨k,hkb⟩:∃ k,b=a+k:=⟨b-a,by omega⟩
   all_goals (refine goR ?_;and_intros<;>(try exact trivial)<;>repeat (first|refine fun (Bk:Nat)=>?_|intro h))
   repeat' ((first|(refine G.cP (g:=71) (X:={ S' // WP T a b S' }) (fun _=>.tuple #[]) [.blk g 3 (flat isV T) tot] (fun x=>[.blk g 3 (flat isV x.1) tot]) rfl rfl (by (repeat (first|exact List.Perm.refl _|(refine pickT (by (repeat (first|exact Pick.head|apply Pick.tail))) ?_)))) ?_ ?_;exact fun w' hw'=>hkb ▸ (break_holds _ _ w' g tot n cp T a k hw' (by omega) (by omega) hl (by omega)).mono fun e w2 ⟨S',h1,h2,h3⟩=>⟨⟨S',h2⟩,h1,h3⟩;rintro ⟨U,hU⟩;have hlu:=hU.len;dsimp only))<;>(refine goR ?_;and_intros<;>(try exact trivial)<;>repeat (first|refine fun (Bk:Nat)=>?_|intro h)))
   rw [show ((L:Int)-1)=((L-1:Nat):Int) by omega]
   all_goals (refine goR ?_;and_intros<;>(try exact trivial)<;>repeat (first|refine fun (Bk:Nat)=>?_|intro h))
   repeat' ((first|(refine G.cP (g:=72) (X:={ t:Nat×Int // (a≤t.1∧t.1 < b)∧0≤t.2∧t.2≤2 }) (fun t=>.tuple #[.int .i64 (t.1.1:Nat),.int .i64 t.1.2]) [.blk g 3 (flat isV U) tot] (fun _=>[.blk g 3 (flat isV U) tot]) rfl rfl (by (repeat (first|exact List.Perm.refl _|(refine pickT (by (repeat (first|exact Pick.head|apply Pick.tail))) ?_)))) ?_ ?_;exact fun w' hw'=>(pivot_holds _ _ w' g tot n cp U a b hw' (by omega) hl (by omega) (by omega)).mono fun e w2 ⟨x,h,h1,h2,h3⟩=>⟨⟨(x,h),h1⟩,h2,h3⟩;rintro ⟨⟨p,h⟩,hp,hh⟩;dsimp only at hp hh ⊢;obtain rfl|rfl|rfl:h=0∨h=1∨h=2:=by omega)|(refine G.cP (g:=73) (X:={ S' // WP U a b S' }) (fun _=>.tuple #[]) [.blk g 3 (flat isV U) tot] (fun x=>[.blk g 3 (flat isV x.1) tot]) rfl rfl (by (repeat (first|exact List.Perm.refl _|(refine pickT (by (repeat (first|exact Pick.head|apply Pick.tail))) ?_)))) ?_ ?_;exact fun w' hw'=>(reverse_holds _ _ w' g tot n cp U a b hw' (by omega) (by omega) hl (by omega)).mono fun e w2 ⟨S',h1,h2,h3⟩=>⟨⟨S',h2⟩,h1,h3⟩;rintro ⟨V,hv⟩;have hlv:=hv.len;dsimp only)|(refine G.cP (g:=74) (X:={ t:List Int×Bool // WP V a b t.1∧(t.2=true→Srt t.1 a b) }) (fun t=>.bool t.1.2) [.blk g 3 (flat isV V) tot] (fun x=>[.blk g 3 (flat isV x.1.1) tot]) rfl rfl (by (repeat (first|exact List.Perm.refl _|(refine pickT (by (repeat (first|exact Pick.head|apply Pick.tail))) ?_)))) ?_ ?_;exact fun w' hw'=>(partIns_holds _ _ w' g tot n cp V a b hw' (by omega) (by omega) hl (by omega) (v3.perm ((hU).trans hv) (by omega))).mono fun e w2 ⟨S',bo,h1,h2,h3⟩=>⟨⟨(S',bo),h1⟩,h2,h3⟩;rintro ⟨⟨V2,bo⟩,hv2,hso⟩;dsimp only at hv2 hso ⊢;cases bo)|(refine G.cP (g:=74) (X:={ t:List Int×Bool // WP U a b t.1∧(t.2=true→Srt t.1 a b) }) (fun t=>.bool t.1.2) [.blk g 3 (flat isV U) tot] (fun x=>[.blk g 3 (flat isV x.1.1) tot]) rfl rfl (by (repeat (first|exact List.Perm.refl _|(refine pickT (by (repeat (first|exact Pick.head|apply Pick.tail))) ?_)))) ?_ ?_;exact fun w' hw'=>(partIns_holds _ _ w' g tot n cp U a b hw' (by omega) (by omega) hl (by omega) (v3.perm hU (by omega))).mono fun e w2 ⟨S',bo,h1,h2,h3⟩=>⟨⟨(S',bo),h1⟩,h2,h3⟩;rintro ⟨⟨V2,bo⟩,hv2,hso⟩;dsimp only at hv2 hso ⊢;cases bo))<;>(refine goR ?_;and_intros<;>(try exact trivial)<;>repeat (first|refine fun (Bk:Nat)=>?_|intro h)))
   ·skip
    have hk2:=hk ⟨(p,(L-1),U),hp,by dsimp only;omega,hU⟩
    dsimp only at hk2
    rw [hwb,hwp] at hk2
    exact J.fin hk2
   ·skip
    have hk2:=hk ⟨(p,(L-1),U),hp,by dsimp only;omega,hU⟩
    dsimp only at hk2
    rw [hwb,hwp] at hk2
    exact J.fin hk2
   ·skip
    have hk2:=hk ⟨(b-1-(p-a),(L-1),V),by dsimp only;omega,by dsimp only;omega,(hU).trans hv⟩
    dsimp only at hk2
    rw [hwb,hwp] at hk2
    rw [rv p hp.1 hp.2]
    exact J.fin hk2
  ·obtain ⟨k,hkb⟩:∃ k,b=a+k:=⟨b-a,by omega⟩
   all_goals (refine goR ?_;and_intros<;>(try exact trivial)<;>repeat (first|refine fun (Bk:Nat)=>?_|intro h))
   repeat' ((first|(refine G.cP (g:=71) (X:={ S' // WP T a b S' }) (fun _=>.tuple #[]) [.blk g 3 (flat isV T) tot] (fun x=>[.blk g 3 (flat isV x.1) tot]) rfl rfl (by (repeat (first|exact List.Perm.refl _|(refine pickT (by (repeat (first|exact Pick.head|apply Pick.tail))) ?_)))) ?_ ?_;exact fun w' hw'=>hkb ▸ (break_holds _ _ w' g tot n cp T a k hw' (by omega) (by omega) hl (by omega)).mono fun e w2 ⟨S',h1,h2,h3⟩=>⟨⟨S',h2⟩,h1,h3⟩;rintro ⟨U,hU⟩;have hlu:=hU.len;dsimp only))<;>(refine goR ?_;and_intros<;>(try exact trivial)<;>repeat (first|refine fun (Bk:Nat)=>?_|intro h)))
   rw [show ((L:Int)-1)=((L-1:Nat):Int) by omega]
   all_goals (refine goR ?_;and_intros<;>(try exact trivial)<;>repeat (first|refine fun (Bk:Nat)=>?_|intro h))
   repeat' ((first|(refine G.cP (g:=72) (X:={ t:Nat×Int // (a≤t.1∧t.1 < b)∧0≤t.2∧t.2≤2 }) (fun t=>.tuple #[.int .i64 (t.1.1:Nat),.int .i64 t.1.2]) [.blk g 3 (flat isV U) tot] (fun _=>[.blk g 3 (flat isV U) tot]) rfl rfl (by (repeat (first|exact List.Perm.refl _|(refine pickT (by (repeat (first|exact Pick.head|apply Pick.tail))) ?_)))) ?_ ?_;exact fun w' hw'=>(pivot_holds _ _ w' g tot n cp U a b hw' (by omega) hl (by omega) (by omega)).mono fun e w2 ⟨x,h,h1,h2,h3⟩=>⟨⟨(x,h),h1⟩,h2,h3⟩;rintro ⟨⟨p,h⟩,hp,hh⟩;dsimp only at hp hh ⊢;obtain rfl|rfl|rfl:h=0∨h=1∨h=2:=by omega)|(refine G.cP (g:=73) (X:={ S' // WP U a b S' }) (fun _=>.tuple #[]) [.blk g 3 (flat isV U) tot] (fun x=>[.blk g 3 (flat isV x.1) tot]) rfl rfl (by (repeat (first|exact List.Perm.refl _|(refine pickT (by (repeat (first|exact Pick.head|apply Pick.tail))) ?_)))) ?_ ?_;exact fun w' hw'=>(reverse_holds _ _ w' g tot n cp U a b hw' (by omega) (by omega) hl (by omega)).mono fun e w2 ⟨S',h1,h2,h3⟩=>⟨⟨S',h2⟩,h1,h3⟩;rintro ⟨V,hv⟩;have hlv:=hv.len;dsimp only)|(refine G.cP (g:=74) (X:={ t:List Int×Bool // WP V a b t.1∧(t.2=true→Srt t.1 a b) }) (fun t=>.bool t.1.2) [.blk g 3 (flat isV V) tot] (fun x=>[.blk g 3 (flat isV x.1.1) tot]) rfl rfl (by (repeat (first|exact List.Perm.refl _|(refine pickT (by (repeat (first|exact Pick.head|apply Pick.tail))) ?_)))) ?_ ?_;exact fun w' hw'=>(partIns_holds _ _ w' g tot n cp V a b hw' (by omega) (by omega) hl (by omega) (v3.perm ((hU).trans hv) (by omega))).mono fun e w2 ⟨S',bo,h1,h2,h3⟩=>⟨⟨(S',bo),h1⟩,h2,h3⟩;rintro ⟨⟨V2,bo⟩,hv2,hso⟩;dsimp only at hv2 hso ⊢;cases bo)|(refine G.cP (g:=74) (X:={ t:List Int×Bool // WP U a b t.1∧(t.2=true→Srt t.1 a b) }) (fun t=>.bool t.1.2) [.blk g 3 (flat isV U) tot] (fun x=>[.blk g 3 (flat isV x.1.1) tot]) rfl rfl (by (repeat (first|exact List.Perm.refl _|(refine pickT (by (repeat (first|exact Pick.head|apply Pick.tail))) ?_)))) ?_ ?_;exact fun w' hw'=>(partIns_holds _ _ w' g tot n cp U a b hw' (by omega) (by omega) hl (by omega) (v3.perm hU (by omega))).mono fun e w2 ⟨S',bo,h1,h2,h3⟩=>⟨⟨(S',bo),h1⟩,h2,h3⟩;rintro ⟨⟨V2,bo⟩,hv2,hso⟩;dsimp only at hv2 hso ⊢;cases bo))<;>(refine goR ?_;and_intros<;>(try exact trivial)<;>repeat (first|refine fun (Bk:Nat)=>?_|intro h)))
   ·skip
    have hk2:=hk ⟨(p,(L-1),U),hp,by dsimp only;omega,hU⟩
    dsimp only at hk2
    rw [hwb,hwp] at hk2
    exact J.fin hk2
   ·skip
    have hk2:=hk ⟨(p,(L-1),U),hp,by dsimp only;omega,hU⟩
    dsimp only at hk2
    rw [hwb,hwp] at hk2
    exact J.fin hk2
   ·skip
    have hk2:=hk ⟨(b-1-(p-a),(L-1),V),by dsimp only;omega,by dsimp only;omega,(hU).trans hv⟩
    dsimp only at hk2
    rw [hwb,hwp] at hk2
    rw [rv p hp.1 hp.2]
    exact J.fin hk2
  ·skip
   all_goals (refine goR ?_;and_intros<;>(try exact trivial)<;>repeat (first|refine fun (Bk:Nat)=>?_|intro h))
   repeat' ((first|(refine G.cP (g:=72) (X:={ t:Nat×Int // (a≤t.1∧t.1 < b)∧0≤t.2∧t.2≤2 }) (fun t=>.tuple #[.int .i64 (t.1.1:Nat),.int .i64 t.1.2]) [.blk g 3 (flat isV T) tot] (fun _=>[.blk g 3 (flat isV T) tot]) rfl rfl (by (repeat (first|exact List.Perm.refl _|(refine pickT (by (repeat (first|exact Pick.head|apply Pick.tail))) ?_)))) ?_ ?_;exact fun w' hw'=>(pivot_holds _ _ w' g tot n cp T a b hw' (by omega) hl (by omega) (by omega)).mono fun e w2 ⟨x,h,h1,h2,h3⟩=>⟨⟨(x,h),h1⟩,h2,h3⟩;rintro ⟨⟨p,h⟩,hp,hh⟩;dsimp only at hp hh ⊢;obtain rfl|rfl|rfl:h=0∨h=1∨h=2:=by omega)|(refine G.cP (g:=73) (X:={ S' // WP T a b S' }) (fun _=>.tuple #[]) [.blk g 3 (flat isV T) tot] (fun x=>[.blk g 3 (flat isV x.1) tot]) rfl rfl (by (repeat (first|exact List.Perm.refl _|(refine pickT (by (repeat (first|exact Pick.head|apply Pick.tail))) ?_)))) ?_ ?_;exact fun w' hw'=>(reverse_holds _ _ w' g tot n cp T a b hw' (by omega) (by omega) hl (by omega)).mono fun e w2 ⟨S',h1,h2,h3⟩=>⟨⟨S',h2⟩,h1,h3⟩;rintro ⟨V,hv⟩;have hlv:=hv.len;dsimp only)|(refine G.cP (g:=74) (X:={ t:List Int×Bool // WP V a b t.1∧(t.2=true→Srt t.1 a b) }) (fun t=>.bool t.1.2) [.blk g 3 (flat isV V) tot] (fun x=>[.blk g 3 (flat isV x.1.1) tot]) rfl rfl (by (repeat (first|exact List.Perm.refl _|(refine pickT (by (repeat (first|exact Pick.head|apply Pick.tail))) ?_)))) ?_ ?_;exact fun w' hw'=>(partIns_holds _ _ w' g tot n cp V a b hw' (by omega) (by omega) hl (by omega) (v3.perm ((hTT).trans hv) (by omega))).mono fun e w2 ⟨S',bo,h1,h2,h3⟩=>⟨⟨(S',bo),h1⟩,h2,h3⟩;rintro ⟨⟨V2,bo⟩,hv2,hso⟩;dsimp only at hv2 hso ⊢;cases bo)|(refine G.cP (g:=74) (X:={ t:List Int×Bool // WP T a b t.1∧(t.2=true→Srt t.1 a b) }) (fun t=>.bool t.1.2) [.blk g 3 (flat isV T) tot] (fun x=>[.blk g 3 (flat isV x.1.1) tot]) rfl rfl (by (repeat (first|exact List.Perm.refl _|(refine pickT (by (repeat (first|exact Pick.head|apply Pick.tail))) ?_)))) ?_ ?_;exact fun w' hw'=>(partIns_holds _ _ w' g tot n cp T a b hw' (by omega) (by omega) hl (by omega) (v3.perm hTT (by omega))).mono fun e w2 ⟨S',bo,h1,h2,h3⟩=>⟨⟨(S',bo),h1⟩,h2,h3⟩;rintro ⟨⟨V2,bo⟩,hv2,hso⟩;dsimp only at hv2 hso ⊢;cases bo))<;>(refine goR ?_;and_intros<;>(try exact trivial)<;>repeat (first|refine fun (Bk:Nat)=>?_|intro h)))
   ·skip
    have hk2:=hk ⟨(p,L,T),hp,by dsimp only;omega,hTT⟩
    dsimp only at hk2
    rw [hwb,hwp] at hk2
    exact J.fin hk2
   ·skip
    have hk2:=hk ⟨(p,L,T),hp,by dsimp only;omega,hTT⟩
    dsimp only at hk2
    rw [hwb,hwp] at hk2
    exact J.fin hk2
   ·skip
    have hk2:=hk ⟨(b-1-(p-a),L,V),by dsimp only;omega,by dsimp only;omega,(hTT).trans hv⟩
    dsimp only at hk2
    rw [hwb,hwp] at hk2
    rw [rv p hp.1 hp.2]
    exact J.fin hk2
  ·skip
   all_goals (refine goR ?_;and_intros<;>(try exact trivial)<;>repeat (first|refine fun (Bk:Nat)=>?_|intro h))
   repeat' ((first|(refine G.cP (g:=72) (X:={ t:Nat×Int // (a≤t.1∧t.1 < b)∧0≤t.2∧t.2≤2 }) (fun t=>.tuple #[.int .i64 (t.1.1:Nat),.int .i64 t.1.2]) [.blk g 3 (flat isV T) tot] (fun _=>[.blk g 3 (flat isV T) tot]) rfl rfl (by (repeat (first|exact List.Perm.refl _|(refine pickT (by (repeat (first|exact Pick.head|apply Pick.tail))) ?_)))) ?_ ?_;exact fun w' hw'=>(pivot_holds _ _ w' g tot n cp T a b hw' (by omega) hl (by omega) (by omega)).mono fun e w2 ⟨x,h,h1,h2,h3⟩=>⟨⟨(x,h),h1⟩,h2,h3⟩;rintro ⟨⟨p,h⟩,hp,hh⟩;dsimp only at hp hh ⊢;obtain rfl|rfl|rfl:h=0∨h=1∨h=2:=by omega)|(refine G.cP (g:=73) (X:={ S' // WP T a b S' }) (fun _=>.tuple #[]) [.blk g 3 (flat isV T) tot] (fun x=>[.blk g 3 (flat isV x.1) tot]) rfl rfl (by (repeat (first|exact List.Perm.refl _|(refine pickT (by (repeat (first|exact Pick.head|apply Pick.tail))) ?_)))) ?_ ?_;exact fun w' hw'=>(reverse_holds _ _ w' g tot n cp T a b hw' (by omega) (by omega) hl (by omega)).mono fun e w2 ⟨S',h1,h2,h3⟩=>⟨⟨S',h2⟩,h1,h3⟩;rintro ⟨V,hv⟩;have hlv:=hv.len;dsimp only)|(refine G.cP (g:=74) (X:={ t:List Int×Bool // WP V a b t.1∧(t.2=true→Srt t.1 a b) }) (fun t=>.bool t.1.2) [.blk g 3 (flat isV V) tot] (fun x=>[.blk g 3 (flat isV x.1.1) tot]) rfl rfl (by (repeat (first|exact List.Perm.refl _|(refine pickT (by (repeat (first|exact Pick.head|apply Pick.tail))) ?_)))) ?_ ?_;exact fun w' hw'=>(partIns_holds _ _ w' g tot n cp V a b hw' (by omega) (by omega) hl (by omega) (v3.perm ((hTT).trans hv) (by omega))).mono fun e w2 ⟨S',bo,h1,h2,h3⟩=>⟨⟨(S',bo),h1⟩,h2,h3⟩;rintro ⟨⟨V2,bo⟩,hv2,hso⟩;dsimp only at hv2 hso ⊢;cases bo)|(refine G.cP (g:=74) (X:={ t:List Int×Bool // WP T a b t.1∧(t.2=true→Srt t.1 a b) }) (fun t=>.bool t.1.2) [.blk g 3 (flat isV T) tot] (fun x=>[.blk g 3 (flat isV x.1.1) tot]) rfl rfl (by (repeat (first|exact List.Perm.refl _|(refine pickT (by (repeat (first|exact Pick.head|apply Pick.tail))) ?_)))) ?_ ?_;exact fun w' hw'=>(partIns_holds _ _ w' g tot n cp T a b hw' (by omega) (by omega) hl (by omega) (v3.perm hTT (by omega))).mono fun e w2 ⟨S',bo,h1,h2,h3⟩=>⟨⟨(S',bo),h1⟩,h2,h3⟩;rintro ⟨⟨V2,bo⟩,hv2,hso⟩;dsimp only at hv2 hso ⊢;cases bo))<;>(refine goR ?_;and_intros<;>(try exact trivial)<;>repeat (first|refine fun (Bk:Nat)=>?_|intro h)))
   ·skip
    have hk2:=hk ⟨(p,L,T),hp,by dsimp only;omega,hTT⟩
    dsimp only at hk2
    rw [hwb,hwp] at hk2
    exact J.fin hk2
   ·skip
    have hk2:=hk ⟨(p,L,V2),hp,by dsimp only;omega,hv2⟩
    dsimp only at hk2
    rw [hwb,hwp] at hk2
    exact J.fin hk2
   ·refine ret0 Tryd.func62 Tryd.results62 ?_
    exact fun w' hw'=>⟨V2,rfl,⟨v1.trans (hv2.mono hr.1 hr.2.2),(v2.perm hv2 (by omega)).fin (hso rfl)⟩,hw'⟩
   ·skip
    have hk2:=hk ⟨(b-1-(p-a),L,V2),by dsimp only;omega,by dsimp only;omega,(hv.trans hv2)⟩
    dsimp only at hk2
    rw [hwb,hwp] at hk2
    rw [rv p hp.1 hp.2]
    exact J.fin hk2
   ·refine ret0 Tryd.func62 Tryd.results62 ?_
    exact fun w' hw'=>⟨V2,rfl,⟨v1.trans ((hv.trans hv2).mono hr.1 hr.2.2),(v2.perm (hv.trans hv2) (by omega)).fin (hso rfl)⟩,hw'⟩
 intro ⟨⟨p,L2,U⟩,hp,hL',hU⟩
 dsimp only at hp hL' hU ⊢
 have hlu:=hU.len
 have w1:=v1.trans (hU.mono hr.1 hr.2.2)
 have w2:=v2.perm hU (by omega)
 have w3:=v3.perm hU (by omega)
 have ih:=fun (a' b':Nat) wb' wp' U' h1 h2 h3 h4=>ih (a',b',L2,wb',wp',U') ⟨hL',h1,h2,h3⟩ h4
 dsimp only at ih
 clear v1 v2 v3 hU
 obtain ⟨pv,hpv⟩:∃ pv,U.getD p 0=pv:=⟨_,rfl⟩
 have q2:=gI (S:=U) (j:=p) (by omega)
 rw [hpv] at q2
 have hlN:∀ (S:List Int) (c d:Nat) (w':World),Sat w0 (.blk g 3 (flat isV S) tot::M) w'→d≤n→n=S.length→c≤d→d-c < N→Pre S c d→Calls Tryd.prog 62 #[.slice (some ⟨g,0,none⟩) n cp,.int .i64 c,.int .i64 d,.int .i64 L2] w' fun e w2=>∃ S',e=.returned (.tuple #[])∧(WP S c d S'∧Srt S' c d)∧Sat w0 (.blk g 3 (flat isV S') tot::M) w2 :=
  fun S c d w' h1 h2 h3 h4 h5 h6=>ihN (d-c) h5 w0 M w' S c d L2 h1 h2 h3 h4 (Nat.le_refl _) h6 hL'
 clear ihN
 have hle:=fun w'=>lessI_holds (U.getD (a-1) 0) pv w'
 by_cases ha:a=0∨U.getD (a-1) 0 < pv
 ·have w4:∀ V m,WP U a b V→Par V a m b→(PQ V a0 b0 a b∧Pre V a b)∧(∀ W,WP V a m W→Srt W a m→PQ W a0 b0 (m+1) b∧Pre W (m+1) b)∧(∀ W,WP V (m+1) b W→Srt W (m+1) b→PQ W a0 b0 a m∧Pre W a m):=fun V m hv hpar =>
   ⟨⟨w2.perm hv (by omega),w3.perm hv (by omega)⟩,fun W hW hs=>(w2.perm hv (by omega)).left hpar hW hs (by rw [hv.len];omega),fun W hW hs=>(w2.perm hv (by omega)).right (w3.perm hv (by omega)) hpar hW hs (by rw [hv.len];omega)⟩
  have q1:=gI (S:=U) (j:=a-1) (by omega)
  rcases ha with ha|ha
  ·skip
   all_goals (refine goR ?_;and_intros<;>(try exact trivial)<;>repeat (first|refine fun (Bk:Nat)=>?_|intro h))
   repeat' ((first|(apply J.regA (.q 0 <| .q 1 <| .q 2 <| .q 3 <| .q 4 <| .q 5 <| .q 6 <| .q 7 <| .q 8 <| .q 9 <| .q 10 <| .q 11 <| .q 12 <| .q 13 <| .q 14 <| .nil);exact Tryd.mixed;decide +kernel)|(refine G.cP (g:=77) (X:={ t:List Int×Nat×Bool // WP U a b t.1∧Par t.1 a t.2.1 b }) (fun t=>.tuple #[.int .i64 (t.1.2.1:Nat),.bool t.1.2.2]) [.blk g 3 (flat isV U) tot] (fun x=>[.blk g 3 (flat isV x.1.1) tot]) rfl rfl (by (repeat (first|exact List.Perm.refl _|(refine pickT (by (repeat (first|exact Pick.head|apply Pick.tail))) ?_)))) ?_ ?_;exact fun w' hw'=>(partition_holds _ _ w' g tot n cp U a b p hw' (by omega) (by omega) hl (by omega)).mono fun e w2 ⟨S',m,bo,h1,h2,h3⟩=>⟨⟨(S',m,bo),h1⟩,h2,h3⟩;rintro ⟨⟨V,m,bo⟩,hv,hpar⟩;have hlv:=hv.len;have hpr:=hpar.1;obtain ⟨⟨x1,x2⟩,x3,x4⟩:=w4 V m hv hpar;dsimp only at hv hpar hlv hpr x1 x2 x3 x4 ⊢;have hpl:Pre V a m:=fun h0 z h1 h2=>x2 h0 z h1 (by omega);have hprr:Pre V (m+1) b:=fun h0 z h1 h2=>by rw [Nat.add_sub_cancel];exact hpar.2.2 z (by omega) h2)|(refine G.cP (d:=121) (g:=62) (X:={ W // WP V a m W∧Srt W a m }) (fun _=>.tuple #[]) [.blk g 3 (flat isV V) tot] (fun x=>[.blk g 3 (flat isV x.1) tot]) rfl rfl (by (repeat (first|exact List.Perm.refl _|(refine pickT (by (repeat (first|exact Pick.head|apply Pick.tail))) ?_)))) ?_ ?_;exact fun w' hw'=>(hlN V a m w' hw' (by omega) (by omega) (by omega) (by omega) hpl).mono fun e w2 ⟨S',h1,h2,h3⟩=>⟨⟨S',h2⟩,h1,h3⟩;rintro ⟨W,hW1,hW2⟩;have hlW:=hW1.len;obtain ⟨y1,y2⟩:=x3 W hW1 hW2;dsimp only)|(refine G.cP (d:=132) (g:=62) (X:={ W // WP V (m+1) b W∧Srt W (m+1) b }) (fun _=>.tuple #[]) [.blk g 3 (flat isV V) tot] (fun x=>[.blk g 3 (flat isV x.1) tot]) rfl rfl (by (repeat (first|exact List.Perm.refl _|(refine pickT (by (repeat (first|exact Pick.head|apply Pick.tail))) ?_)))) ?_ ?_;exact fun w' hw'=>(hlN V (m+1) b w' hw' (by omega) (by omega) (by omega) (by omega) hprr).mono fun e w2 ⟨S',h1,h2,h3⟩=>⟨⟨S',h2⟩,h1,h3⟩;rintro ⟨W,hW1,hW2⟩;have hlW:=hW1.len;obtain ⟨y1,y2⟩:=x4 W hW1 hW2;dsimp only)|(exact absurd rfl ‹¬ _›)|(apply J.regQ;exact Tryd.mixed;decide +kernel)|(apply J.regL';exact Tryd.mixed;decide +kernel))<;>(refine goR ?_;and_intros<;>(try exact trivial)<;>repeat (first|refine fun (Bk:Nat)=>?_|intro h)))
   all_goals first
    | exact J.fin (ih (m+1) b _ _ W (w1.trans ((hv.mono hr.1 hr.2.2).trans (hW1.mono (by omega) (by omega)))) y1 y2 (by omega))
    | exact J.fin (ih a m _ _ W (w1.trans ((hv.mono hr.1 hr.2.2).trans (hW1.mono (by omega) (by omega)))) y1 y2 (by omega))
  ·by_cases ha0:a=0
   ·skip
    all_goals (refine goR ?_;and_intros<;>(try exact trivial)<;>repeat (first|refine fun (Bk:Nat)=>?_|intro h))
    repeat' ((first|(apply J.regA (.q 0 <| .q 1 <| .q 2 <| .q 3 <| .q 4 <| .q 5 <| .q 6 <| .q 7 <| .q 8 <| .q 9 <| .q 10 <| .q 11 <| .q 12 <| .q 13 <| .q 14 <| .nil);exact Tryd.mixed;decide +kernel)|(refine G.cP (g:=77) (X:={ t:List Int×Nat×Bool // WP U a b t.1∧Par t.1 a t.2.1 b }) (fun t=>.tuple #[.int .i64 (t.1.2.1:Nat),.bool t.1.2.2]) [.blk g 3 (flat isV U) tot] (fun x=>[.blk g 3 (flat isV x.1.1) tot]) rfl rfl (by (repeat (first|exact List.Perm.refl _|(refine pickT (by (repeat (first|exact Pick.head|apply Pick.tail))) ?_)))) ?_ ?_;exact fun w' hw'=>(partition_holds _ _ w' g tot n cp U a b p hw' (by omega) (by omega) hl (by omega)).mono fun e w2 ⟨S',m,bo,h1,h2,h3⟩=>⟨⟨(S',m,bo),h1⟩,h2,h3⟩;rintro ⟨⟨V,m,bo⟩,hv,hpar⟩;have hlv:=hv.len;have hpr:=hpar.1;obtain ⟨⟨x1,x2⟩,x3,x4⟩:=w4 V m hv hpar;dsimp only at hv hpar hlv hpr x1 x2 x3 x4 ⊢;have hpl:Pre V a m:=fun h0 z h1 h2=>x2 h0 z h1 (by omega);have hprr:Pre V (m+1) b:=fun h0 z h1 h2=>by rw [Nat.add_sub_cancel];exact hpar.2.2 z (by omega) h2)|(refine G.cP (d:=121) (g:=62) (X:={ W // WP V a m W∧Srt W a m }) (fun _=>.tuple #[]) [.blk g 3 (flat isV V) tot] (fun x=>[.blk g 3 (flat isV x.1) tot]) rfl rfl (by (repeat (first|exact List.Perm.refl _|(refine pickT (by (repeat (first|exact Pick.head|apply Pick.tail))) ?_)))) ?_ ?_;exact fun w' hw'=>(hlN V a m w' hw' (by omega) (by omega) (by omega) (by omega) hpl).mono fun e w2 ⟨S',h1,h2,h3⟩=>⟨⟨S',h2⟩,h1,h3⟩;rintro ⟨W,hW1,hW2⟩;have hlW:=hW1.len;obtain ⟨y1,y2⟩:=x3 W hW1 hW2;dsimp only)|(refine G.cP (d:=132) (g:=62) (X:={ W // WP V (m+1) b W∧Srt W (m+1) b }) (fun _=>.tuple #[]) [.blk g 3 (flat isV V) tot] (fun x=>[.blk g 3 (flat isV x.1) tot]) rfl rfl (by (repeat (first|exact List.Perm.refl _|(refine pickT (by (repeat (first|exact Pick.head|apply Pick.tail))) ?_)))) ?_ ?_;exact fun w' hw'=>(hlN V (m+1) b w' hw' (by omega) (by omega) (by omega) (by omega) hprr).mono fun e w2 ⟨S',h1,h2,h3⟩=>⟨⟨S',h2⟩,h1,h3⟩;rintro ⟨W,hW1,hW2⟩;have hlW:=hW1.len;obtain ⟨y1,y2⟩:=x4 W hW1 hW2;dsimp only)|(exact absurd rfl ‹¬ _›)|(apply J.regQ;exact Tryd.mixed;decide +kernel)|(apply J.regL';exact Tryd.mixed;decide +kernel))<;>(refine goR ?_;and_intros<;>(try exact trivial)<;>repeat (first|refine fun (Bk:Nat)=>?_|intro h)))
    all_goals first
     | exact J.fin (ih (m+1) b _ _ W (w1.trans ((hv.mono hr.1 hr.2.2).trans (hW1.mono (by omega) (by omega)))) y1 y2 (by omega))
     | exact J.fin (ih a m _ _ W (w1.trans ((hv.mono hr.1 hr.2.2).trans (hW1.mono (by omega) (by omega)))) y1 y2 (by omega))
   ·rw [decide_eq_true ha] at hle
    all_goals (refine goR ?_;and_intros<;>(try exact trivial)<;>repeat (first|refine fun (Bk:Nat)=>?_|intro h))
    repeat' ((first|(apply J.regA (.q 0 <| .q 1 <| .q 2 <| .q 3 <| .q 4 <| .q 5 <| .q 6 <| .q 7 <| .q 8 <| .q 9 <| .q 10 <| .q 11 <| .q 12 <| .q 13 <| .q 14 <| .nil);exact Tryd.mixed;decide +kernel)|(refine G.cP (g:=77) (X:={ t:List Int×Nat×Bool // WP U a b t.1∧Par t.1 a t.2.1 b }) (fun t=>.tuple #[.int .i64 (t.1.2.1:Nat),.bool t.1.2.2]) [.blk g 3 (flat isV U) tot] (fun x=>[.blk g 3 (flat isV x.1.1) tot]) rfl rfl (by (repeat (first|exact List.Perm.refl _|(refine pickT (by (repeat (first|exact Pick.head|apply Pick.tail))) ?_)))) ?_ ?_;exact fun w' hw'=>(partition_holds _ _ w' g tot n cp U a b p hw' (by omega) (by omega) hl (by omega)).mono fun e w2 ⟨S',m,bo,h1,h2,h3⟩=>⟨⟨(S',m,bo),h1⟩,h2,h3⟩;rintro ⟨⟨V,m,bo⟩,hv,hpar⟩;have hlv:=hv.len;have hpr:=hpar.1;obtain ⟨⟨x1,x2⟩,x3,x4⟩:=w4 V m hv hpar;dsimp only at hv hpar hlv hpr x1 x2 x3 x4 ⊢;have hpl:Pre V a m:=fun h0 z h1 h2=>x2 h0 z h1 (by omega);have hprr:Pre V (m+1) b:=fun h0 z h1 h2=>by rw [Nat.add_sub_cancel];exact hpar.2.2 z (by omega) h2)|(refine G.cP (d:=121) (g:=62) (X:={ W // WP V a m W∧Srt W a m }) (fun _=>.tuple #[]) [.blk g 3 (flat isV V) tot] (fun x=>[.blk g 3 (flat isV x.1) tot]) rfl rfl (by (repeat (first|exact List.Perm.refl _|(refine pickT (by (repeat (first|exact Pick.head|apply Pick.tail))) ?_)))) ?_ ?_;exact fun w' hw'=>(hlN V a m w' hw' (by omega) (by omega) (by omega) (by omega) hpl).mono fun e w2 ⟨S',h1,h2,h3⟩=>⟨⟨S',h2⟩,h1,h3⟩;rintro ⟨W,hW1,hW2⟩;have hlW:=hW1.len;obtain ⟨y1,y2⟩:=x3 W hW1 hW2;dsimp only)|(refine G.cP (d:=132) (g:=62) (X:={ W // WP V (m+1) b W∧Srt W (m+1) b }) (fun _=>.tuple #[]) [.blk g 3 (flat isV V) tot] (fun x=>[.blk g 3 (flat isV x.1) tot]) rfl rfl (by (repeat (first|exact List.Perm.refl _|(refine pickT (by (repeat (first|exact Pick.head|apply Pick.tail))) ?_)))) ?_ ?_;exact fun w' hw'=>(hlN V (m+1) b w' hw' (by omega) (by omega) (by omega) (by omega) hprr).mono fun e w2 ⟨S',h1,h2,h3⟩=>⟨⟨S',h2⟩,h1,h3⟩;rintro ⟨W,hW1,hW2⟩;have hlW:=hW1.len;obtain ⟨y1,y2⟩:=x4 W hW1 hW2;dsimp only)|(apply G.ix (i:=a-1);rfl;rfl;omega;omega;rfl)|(apply G.ld;rfl;(apply LdV.one;exact CellV.blk (by exact mm) q1);rfl)|(apply G.ld;rfl;(apply LdV.one;exact CellV.blk (by exact mm) q2);rfl)|(apply G.cV (g:=75);rfl;rfl;exact fun w' _=>hle w')|(apply J.regQ;exact Tryd.mixed;decide +kernel)|(apply J.regL';exact Tryd.mixed;decide +kernel))<;>(refine goR ?_;and_intros<;>(try exact trivial)<;>repeat (first|refine fun (Bk:Nat)=>?_|intro h)))
    all_goals first
     | exact J.fin (ih (m+1) b _ _ W (w1.trans ((hv.mono hr.1 hr.2.2).trans (hW1.mono (by omega) (by omega)))) y1 y2 (by omega))
     | exact J.fin (ih a m _ _ W (w1.trans ((hv.mono hr.1 hr.2.2).trans (hW1.mono (by omega) (by omega)))) y1 y2 (by omega))
 ·have ha0:a≠0:=fun e=>ha (.inl e)
  have hlt:¬ U.getD (a-1) 0 < pv:=fun e=>ha (.inr e)
  have q1:=gI (S:=U) (j:=a-1) (by omega)
  rw [decide_eq_false hlt] at hle
  all_goals (refine goR ?_;and_intros<;>(try exact trivial)<;>repeat (first|refine fun (Bk:Nat)=>?_|intro h))
  repeat' ((first|(apply J.regA (.q 0 <| .q 1 <| .q 2 <| .q 3 <| .q 4 <| .q 5 <| .q 6 <| .q 7 <| .q 8 <| .q 9 <| .q 10 <| .q 11 <| .q 12 <| .q 13 <| .q 14 <| .nil);exact Tryd.mixed;decide +kernel)|(apply G.ix (i:=a-1);rfl;rfl;omega;omega;rfl)|(apply G.ld;rfl;(apply LdV.one;exact CellV.blk (by exact mm) q1);rfl)|(apply G.ld;rfl;(apply LdV.one;exact CellV.blk (by exact mm) q2);rfl)|(apply G.cV (g:=75);rfl;rfl;exact fun w' _=>hle w')|(refine G.cP (g:=76) (X:={ t:List Int×Nat // WP U a b t.1∧EIn t.1 a t.2 t.2 b∧t.1.getD a 0=U.getD p 0 }) (fun t=>.int .i64 (t.1.2:Nat)) [.blk g 3 (flat isV U) tot] (fun x=>[.blk g 3 (flat isV x.1.1) tot]) rfl rfl (by (repeat (first|exact List.Perm.refl _|(refine pickT (by (repeat (first|exact Pick.head|apply Pick.tail))) ?_)))) ?_ ?_;exact fun w' hw'=>(partEqual_holds _ _ w' g tot n cp U a b p hw' (by omega) (by omega) hl (by omega)).mono fun e w2 ⟨S',m,h1,h2,h3⟩=>⟨⟨(S',m),h1⟩,h2,h3⟩;rintro ⟨⟨V,m⟩,hv,hE,hV⟩;have hlv:=hv.len;have e1:=hE.h1;have e3:=hE.h3;dsimp only at hv hE hV hlv e1 e3 ⊢)|(apply J.regQ;exact Tryd.mixed;decide +kernel)|(apply J.regL';exact Tryd.mixed;decide +kernel))<;>(refine goR ?_;and_intros<;>(try exact trivial)<;>repeat (first|refine fun (Bk:Nat)=>?_|intro h)))
  have hq:=(w2.perm hv (by omega)).equal hE fun z h1 h2=>by
   have h3:=(w3.perm hv (by omega)) (by omega) z h1 h2
   rw [hv.out (a-1) (by omega)] at h3
   rw [hV,hpv];omega
  exact J.fin (ih m b _ _ V (w1.trans (hv.mono hr.1 hr.2.2)) hq.1 hq.2 (by omega))
end Go.Proofs.YtcdgibkbbcekhaaDoor
/-
 Contracts: slices.Sort of an own slice.
-/
namespace Go.Proofs.YtcdgibkbbcekhaaDoor
open Go.RowKit Go.Sl Go.Num
theorem sort_holds (w0:World) (M:List Row) (w:World) (au:Option Addr) (n cu:Nat) (S:List Int) (hw:Sat w0 (.own 0 (.slice au n cu) 3 1 n (flat isV S)::M) w) (hn:n=S.length) (hl:n≤1000000000) :
  Calls Tryd.prog 49 #[.slice au n cu] w fun e w'=>∃ S',e=.returned (.tuple #[])∧(S'.Perm S∧S'.Pairwise (·≤·))∧Sat w0 (.own 0 (.slice au n cu) 3 1 n (flat isV S')::M) w':=by
 rcases Nat.eq_zero_or_pos n with h0|h0
 ·exact sort12_holds w0 M w au n cu S hw hn (by omega)
 have hlen:∀ w',Below w0.heap.size w0 w'→Calls Tryd.prog 63 #[.int .u64 n] w' fun e w2=>∃ x:{ z:Nat // z≤1000 },e=.returned (.int .i64 (x.1:Nat))∧Below w'.heap.size w' w2:=fun w' _=>(len_holds n w' (by omega)).mono fun e w2 ⟨z,h1,h2,h3⟩=>⟨⟨z.toNat,by omega⟩,h2.trans (by dsimp only;rw [Int.toNat_of_nonneg h1.1]),h3⟩
 refine enterR [(0,.slice au n cu)] hw Tryd.func49 Tryd.ntmps49 ?_
 refine J.ownOpen RAt.head h0 fun g cap h1 h2 h3=>?_
 cases h3
 all_goals (refine go ?_;and_intros<;>(try exact trivial)<;>repeat (first|refine fun (Bk:Nat)=>?_|intro h))
 repeat' ((first|(refine G.cX (X:={ z:Nat // z≤1000 }) (v:=fun z=>.int .i64 (z.1:Nat)) (fun w' hb=>hlen w' hb) ?_;rintro ⟨z,hz⟩;dsimp only)|(refine G.cP (X:={ S' // WP S 0 n S'∧Srt S' 0 n }) (fun _=>.tuple #[]) [.blk g 3 (flat isV S) (cu*1)] (fun x=>[.blk g 3 (flat isV x.1) (cu*1)]) rfl rfl (List.Perm.refl _) (fun w' hw'=>(pdq_holds g (cu*1) n cu hl n w0 M w' S 0 n z hw' (Nat.le_refl _) hn (Nat.zero_le _) (by omega) (fun h=>absurd h (Nat.lt_irrefl _)) hz).mono fun e w2 ⟨S',h1,h2,h3⟩=>⟨⟨S',h2⟩,h1,h3⟩) ?_;rintro ⟨S',hS',hs⟩))<;>(refine go ?_;and_intros<;>(try exact trivial)<;>repeat (first|refine fun (Bk:Nat)=>?_|intro h)))
 have hl:=hS'.len
 dsimp only
 refine J.blkCut (g:=g) (l':=S') n isV_len RAt.head h1 h2 (by omega) (List.take_of_length_le (by omega)) ?_
 refine end0 Tryd.func49 Tryd.results49 ?_
 exact fun w' hw'=>⟨S',rfl,⟨hS'.per,srt_pair (by rw [show S'.length=n by omega];exact hs)⟩,hw'⟩
end Go.Proofs.YtcdgibkbbcekhaaDoor
/-
 Ranges over functions inside a round of another one.
-/
namespace Go.Sl
open Go.RowKit
variable {C:Ctx}{st:List (Nat×Value)}{M:List Row}{k:List Item}{q q':Md}{all rest:List Oper}{d:Nat}{ty:TypeId}{pos:String}{after:Array Edge}{gd:Option (Nat×Bool)}
theorem Splt.pre (T:List Row):∀ K:List Row,Splt T (K++T) K
 | []=>.nil
 | _::K=>.cons (Splt.pre T K)
theorem G.sA {T n:TypeId}{x y:Operand}{vs:List Value}{b j tot:Nat}{e:TypeId}{cs out:List Value}{F:Row→List Row} (hs:wqB all st gd q.res=some q')
  (hx:evS st x=some (.pointer (some ⟨b,j,none⟩))) (hy:evS st y=some (.agg vs.toArray)) (hm:RAt (.blk b e cs tot) M F) [hT:TSize C.P T n] (hn:vs.length=n) (h1:vs.all (·.oneCell')=true) (hj:j+vs.length≤cs.length) (ho:setL cs j vs=out)
  (h:G q' C all st (F (.blk b e out tot)) rest k) :
  G q C all st M ({ dst:=none,op:=.store T x y,type:=ty,pos,after,guard:=gd }::rest) k:=by
 obtain ⟨g1,g2⟩:=wqB_ok hs
 obtain ⟨i,h5,h6⟩:=hm.idx
 subst ho
 rw [← h6] at h
 exact G.storeI (vs:=vs) g1 g2 hx h5 hy rfl h1 hj hn h
end Go.Sl
/-
 Ranges over functions that hand out a list in whatever order.
-/
namespace Go.Sl
open Go.RowKit
variable {C:Ctx}{st:List (Nat×Value)}{M:List Row}{k:List Item}{q q':Md}{all rest:List Oper}{d:Nat}{ty:TypeId}{pos:String}{after:Array Edge}{gd:Option (Nat×Bool)}
def RoundP (w0:World) (L:Nat) (r:Loop) {X:Type} (Rs:X→List Row) (M':List Row) (Go:X→Prop) (v:Value) (w':World):Prop :=
 ∃ x',v=.bool true∧Go x'∧Sat w0 (.obj L (.loop r)::Rs x'++M') w'
theorem leaveP {P:Program}{l:Nat}{F:FuncId}{N:Nat}{w0:World}{r:Loop}{X:Type}{Rs:X→List Row}{M':List Row}{Gt:X→Prop} (h1:r.state=.ready) (h2:r.pending=none) (x:X) (hx:Gt x) (hM:M=.obj l (.loop (busy r))::Rs x++M'):J (rctx P l F N (RoundP w0 l r Rs M' Gt) w0) st M []:=by
 subst hM
 exact leaveR h1 h2 (i:=0) rfl fun w' hw'=>⟨x,rfl,hx,hw'⟩
end Go.Sl
/-
 Plain: runs that are joined,cut,summarized and compared.
-/
namespace Go.Proofs.YtcdgibkbbcekhaaDoor
open Go.RowKit Go.Sl Go.Num
instance:DecidableEq Rn:=fun x y=>decidable_of_iff (x.from_=y.from_∧x.to_=y.to_∧x.tab=y.tab∧x.adr=y.adr∧x.cap=y.cap∧x.lo=y.lo∧x.hi=y.hi) (by cases x;cases y;simp)
def mkR (f t s:Int):Rn:=⟨f,t,[(s,t-f)],none,0,0,0⟩
def jblB (a b:Rn):Bool:=if a.tab.length=1∧b.tab.length=1 then decide (stg a=stg b) else decide (a.tab.length=0∧b.tab.length=0∧a.lo=b.lo∧a.hi=b.hi)
def jnR (a b:Rn):Rn:=⟨a.from_,b.to_,if b.tab.length=0 then [] else [(stg b,b.to_-a.from_)],none,0,b.lo,b.hi⟩
def putL (l:List Rn) (x:Rn):List Rn:=match l.getLast? with
 | none=>[x]
 | some y=>if jblB y x=true then l.dropLast++[jnR y x] else l++[x]
def joinF (o l:List Rn):List Rn:=l.foldl putL o
def joinL (l:List Rn):List Rn:=joinF [] l
theorem putL_nil (x:Rn):putL [] x=[x]:=rfl
theorem putL_snoc (l:List Rn) (y x:Rn):putL (l++[y]) x=if jblB y x=true then l++[jnR y x] else l++[y]++[x]:=by
 rw [putL,List.getLast?_concat]
 dsimp only
 rw [List.dropLast_concat]
theorem joinF_nil (o:List Rn):joinF o []=o:=rfl
theorem joinF_cons (o:List Rn) (x:Rn) (l:List Rn):joinF o (x::l)=joinF (putL o x) l:=rfl
theorem joinF_app (o a b:List Rn):joinF o (a++b)=joinF (joinF o a) b:=List.foldl_append
theorem jblB_bare (a b:Rn):jblB (rbare a) (rbare b)=jblB a b:=rfl
theorem jnR_bare (a b:Rn):jnR (rbare a) (rbare b)=rbare (jnR a b):=rfl
theorem putL_bare (l:List Rn) (x:Rn):putL (l.map rbare) (rbare x)=(putL l x).map rbare:=by
 rcases nil_or_snoc l with rfl|⟨o,y,rfl⟩
 ·rfl
 ·rw [List.map_append,List.map_cons,List.map_nil,putL_snoc,putL_snoc,jblB_bare,jnR_bare]
  split<;>simp
theorem joinF_bare:∀ (l o:List Rn),joinF (o.map rbare) (l.map rbare)=(joinF o l).map rbare
 | [],_=>rfl
 | x::l,o=>by rw [List.map_cons,joinF_cons,joinF_cons,putL_bare,joinF_bare l]
theorem joinL_bare (l:List Rn):joinL (l.map rbare)=(joinL l).map rbare:=joinF_bare l []
theorem putL_len (l:List Rn) (x:Rn):(putL l x).length≤l.length+1:=by
 rcases nil_or_snoc l with rfl|⟨o,y,rfl⟩
 ·exact Nat.le_refl _
 ·rw [putL_snoc];split<;>simp
theorem joinF_len:∀ (l o:List Rn),(joinF o l).length≤o.length+l.length
 | [],_=>Nat.le_refl _
 | x::l,o=>by
  have:=joinF_len l (putL o x)
  have:=putL_len o x
  rw [joinF_cons,List.length_cons];omega
theorem joinL_len (l:List Rn):(joinL l).length≤l.length:=by have:=joinF_len l [];simpa [joinL] using this
def totC (l:List Rn) (s:Int):Int:=match l with
 | []=>0
 | r::t=>cnt s r.tab+totC t s
theorem totC_app (s:Int):∀ a b:List Rn,totC (a++b) s=totC a s+totC b s
 | [],b=>by rw [List.nil_append,totC,Int.zero_add]
 | r::a,b=>by rw [List.cons_append,totC,totC,totC_app s a b,Int.add_assoc]
def smTab (l:List Rn) (a b:Int):List (Int×Int):=tabD 0 ((List.range 1001).map fun s:Nat=>totC l s-(if (s:Int)=a then 1 else 0)-(if (s:Int)=b then 1 else 0))
def smS (f t a b:Int) (T:List (Int×Int)):List Rn:=[mkR f (f+1) a]++(if f+1 < t-1 then [⟨f+1,t-1,T,none,0,0,0⟩] else [])++(if f+1 < t then [mkR (t-1) t b] else [])
def lastD (l:List Rn):Rn:=(l.getLast?).getD (mkR 0 0 0)
def headD' (l:List Rn):Rn:=l.headD (mkR 0 0 0)
def rawB (r:Rn):Bool:=decide (r.tab.length=1)
def smOne (l:List Rn):Option (List Rn):=if rawB (headD' l) && rawB (lastD l) then some (smS (headD' l).from_ (lastD l).to_ (stg (headD' l)) (stg (lastD l)) (smTab l (stg (headD' l)) (stg (lastD l)))) else none
def nst:List Rn→Nat
 | []=>0
 | r::l=>if r.tab.length=0 then 1 else 1+(l.takeWhile fun x=>decide (x.tab.length≠0)).length
def smF:Nat→List Rn→List Rn→Option (List Rn)
 | 0,o,_=>some o
 | k+1,o,l=>if l.length=0 then some o else if (headD' l).tab.length=0 then smF k (o++[headD' l]) (l.drop 1) else match smOne (l.take (nst l)) with
  | none=>none
  | some x=>smF k (o++x) (l.drop (nst l))
def sumE (l:List Rn):List Rn×Int:=if runsErr l≠0 then ([],runsErr l) else match smF l.length [] l with
 | none=>([],29)
 | some o=>(joinL o,0)
def cutR (at_:Int) (x:Rn):Option (List Rn×List Rn):=if x.to_≤at_ then some ([x],[]) else if at_≤x.from_ then some ([],[x]) else if 1 < x.tab.length then none else
 if x.tab.length=1 then some ([mkR x.from_ at_ (stg x)],[mkR at_ x.to_ (stg x)]) else some ([{ x with to_:=at_ }],[{ x with from_:=at_ }])
def cutF (at_:Int):List Rn×List Rn→List Rn→Option (List Rn×List Rn)
 | o,[]=>some o
 | o,x::l=>match cutR at_ x with
  | none=>none
  | some y=>cutF at_ (o.1++y.1,o.2++y.2) l
def cutE' (l:List Rn) (at_:Int):(List Rn×List Rn)×Int:=if runsErr l≠0 then (([],[]),runsErr l) else if l.length=0∨at_ < (headD' l).from_∨(lastD l).to_ < at_ then (([],[]),1) else match cutF at_ ([],[]) l with
 | none=>(([],[]),29)
 | some o=>(o,0)
def joinE (a b:List Rn):List Rn×Int:=if runsErr a≠0 then ([],runsErr a) else if runsErr b≠0 then ([],runsErr b) else if a.length≠0∧b.length≠0∧(lastD a).to_≠(headD' b).from_ then ([],1) else
 if a.length≠0∧b.length≠0∧40000 < (lastD b).to_-(headD' a).from_ then ([],2) else if 2000 < (joinL (a++b)).length then ([],2) else (joinL (a++b),0)
def lstR (x:Rn):Int:=if x.tab.length=0 then x.lo else stg x
def mstR (x:Rn):Int:=if x.tab.length=0 then x.hi else (x.tab.getLastD (0,0)).1
def ovF (x y:Rn):Int:=max x.from_ y.from_
def ovT (x y:Rn):Int:=min x.to_ y.to_
def covOk (y x:Rn):Bool:=if ovT x y≤ovF x y then true else if y.tab.length=0 then decide (y.lo≤lstR x∧mstR x≤y.hi) else decide (lstR x=mstR x) || decide (x.tab.length≠0∧ovF x y=x.from_∧ovT x y=x.to_)
def covN (y:Rn) (s:Int):List Rn→Int
 | []=>0
 | x::a=>(if ovT x y≤ovF x y∨y.tab.length=0 then 0 else if lstR x=mstR x then (if lstR x=s then ovT x y-ovF x y else 0) else cnt s x.tab)+covN y s a
def covB (a:List Rn) (y:Rn):Bool:=a.all (covOk y) && (decide (y.tab.length=0) || (List.range 1001).all fun s:Nat=>decide (covN y s a=cnt s y.tab))
def finE (a b:List Rn):Bool×Int:=if runsErr a≠0 then (false,runsErr a) else if runsErr b≠0 then (false,runsErr b) else if a.length=0∨b.length=0 then (decide (a.length=b.length),0) else
 if (headD' a).from_≠(headD' b).from_∨(lastD a).to_≠(lastD b).to_ then (false,0) else (b.all (covB a),0)
def rowS (g:Nat→Nat):Nat→Nat
 | 0=>1
 | k+1=>g (k+1)+rowS g k
def chs:Nat→Nat→Nat
 | 0=>fun _=>1
 | n+1=>rowS (chs n)
theorem chs_zero (n:Nat):chs n 0=1:=by cases n<;>rfl
theorem chs_succ (n k:Nat):chs (n+1) (k+1)=chs n (k+1)+chs (n+1) k:=rfl
def mnl:Nat→List (Int×Int)→Nat
 | _,[]=>1
 | n,(_,c)::r=>chs n c.toNat*mnl (n+c.toNat) r
def cntR (r:Rn):Nat:=if r.tab.length=0 then (r.hi-r.lo+1).toNat ^ (r.to_-r.from_).toNat else mnl 0 r.tab
def cntL:List Rn→Nat
 | []=>1
 | r::t=>cntR r*cntL t
def fct:Nat→Nat
 | 0=>1
 | n+1=>(n+1)*fct n
theorem fct_pos:∀ n,0 < fct n
 | 0=>Nat.one_pos
 | n+1=>Nat.mul_pos (Nat.succ_pos n) (fct_pos n)
theorem chs_fct:∀ n k,chs n k*(fct n*fct k)=fct (n+k)
 | n,0=>by rw [chs_zero,fct,Nat.one_mul,Nat.mul_one,Nat.add_zero]
 | 0,k+1=>by rw [show chs 0 (k+1)=1 from rfl,show fct 0=1 from rfl,Nat.one_mul,Nat.one_mul,Nat.zero_add]
 | n+1,k+1=>by
  have h1:=chs_fct n (k+1)
  have h2:=chs_fct (n+1) k
  rw [chs_succ,Nat.add_mul]
  have e1:chs n (k+1)*(fct (n+1)*fct (k+1))=(n+1)*fct (n+(k+1)):=by
   rw [← h1,fct.eq_2 n]
   simp only [Nat.mul_comm,Nat.mul_left_comm,Nat.mul_assoc]
  have e2:chs (n+1) k*(fct (n+1)*fct (k+1))=(k+1)*fct (n+(k+1)):=by
   rw [show n+(k+1)=n+1+k by omega,← h2,fct.eq_2 k]
   simp only [Nat.mul_comm,Nat.mul_left_comm,Nat.mul_assoc]
  rw [e1,e2,← Nat.add_mul,show n+1+(k+1)=(n+(k+1))+1 by omega,fct,show n+(k+1)+1=n+1+(k+1) by omega]
theorem chs_step (n k:Nat):chs n k*(n+k+1)=chs n (k+1)*(k+1):=by
 have h1:=chs_fct n k
 have h2:=chs_fct n (k+1)
 have h3:0 < fct n*fct k:=Nat.mul_pos (fct_pos n) (fct_pos k)
 refine Nat.eq_of_mul_eq_mul_right h3 ?_
 have e1:chs n k*(n+k+1)*(fct n*fct k)=(n+k+1)*fct (n+k):=by rw [← h1];simp only [Nat.mul_comm,Nat.mul_left_comm,Nat.mul_assoc]
 have e2:chs n (k+1)*(k+1)*(fct n*fct k)=fct (n+(k+1)):=by rw [← h2,fct.eq_2 k];simp only [Nat.mul_comm,Nat.mul_left_comm,Nat.mul_assoc]
 rw [e1,e2,show n+(k+1)=(n+k)+1 by omega,fct]
end Go.Proofs.YtcdgibkbbcekhaaDoor
