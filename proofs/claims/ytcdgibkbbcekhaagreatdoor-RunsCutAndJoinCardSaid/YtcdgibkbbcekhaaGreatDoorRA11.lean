/-
  Contracts: the partition of elements that are equal to a pivot.
-/
import Derived.Test.YtcdgibkbbcekhaaGreatDoorRA10
set_option linter.unusedVariables false
set_option linter.unusedSimpArgs false
set_option linter.unusedSectionVars false
namespace Go.Proofs.YtcdgibkbbcekhaaGreatDoor
open Go.RowKit Go.Sl Go.Num
structure EIn (S:List Int) (a i k b:Nat):Prop where
 h1:a+1≤i
 h2:i≤k
 h3:k≤b
 lo:∀ x,a < x→x < i→S.getD x 0≤S.getD a 0
 hi:∀ y,k≤y→y < b→S.getD a 0 < S.getD y 0
theorem EIn.inc {S:List Int}{a i k b:Nat} (h:EIn S a i k b) (hk:i < k) (hs:S.getD i 0≤S.getD a 0):EIn S a (i+1) k b :=
 ⟨by have:=h.h1;omega,by omega,h.h3,fun x h1 h2=>by
  by_cases hx:x=i
  ·subst hx;exact hs
  ·exact h.lo x h1 (by omega),h.hi⟩
theorem EIn.dec {S:List Int}{a i k b:Nat} (h:EIn S a i (k+1) b) (hk:i < k+1) (hs:S.getD a 0 < S.getD k 0):EIn S a i k b :=
 ⟨h.h1,by omega,by have:=h.h3;omega,h.lo,fun y h1 h2=>by
  by_cases hy:y=k
  ·subst hy;exact hs
  ·exact h.hi y (by omega) h2⟩
theorem EIn.swap {S:List Int}{a i k b:Nat} (h:EIn S a i (k+1) b) (hb:b≤S.length) (hk:i < k) (h1:S.getD a 0 < S.getD i 0) (h2:S.getD k 0≤S.getD a 0):EIn (swp S i k) a (i+1) k b:=by
 have p1:=h.h1
 have p3:=h.h3
 have ha:(swp S i k).getD a 0=S.getD a 0:=by rw [swp_at (by omega) (by omega),if_neg (by omega),if_neg (by omega)]
 refine ⟨by omega,by omega,by omega,fun x q1 q2=>?_,fun y q1 q2=>?_⟩
 ·rw [ha,swp_at (by omega) (by omega)]
  split
  ·exact h2
  ·split
   ·omega
   ·exact h.lo x q1 (by omega)
 ·rw [ha,swp_at (by omega) (by omega)]
  split
  ·omega
  ·split
   ·exact h1
   ·exact h.hi y (by omega) q2
set_option maxHeartbeats 4000000 in
theorem partEqual_holds (w0:World) (M:List Row) (w:World) (g tot n cp:Nat) (S:List Int) (a b p:Nat) (hw:Sat w0 (.blk g 3 (flat isV S) tot::M) w) (hb:b≤n) (hn:n=S.length) (hl:n≤1000000000) (hp:a≤p∧p < b) :
  Calls Tryz.prog 186 #[.slice (some ⟨g,0,none⟩) n cp,.int .i64 a,.int .i64 b,.int .i64 p] w fun e w'=>∃ S' m,(WP S a b S'∧EIn S' a m m b∧S'.getD a 0=S.getD p 0)∧e=.returned (.int .i64 (m:Nat))∧Sat w0 (.blk g 3 (flat isV S') tot::M) w':=by
 refine enterR [(0,.slice (some ⟨g,0,none⟩) n cp),(1,.int .i64 a),(2,.int .i64 b),(3,.int .i64 p)] hw Tryz.func186 Tryz.ntmps186 ?_
 have w1:=WP.swp (S:=S) (a:=a) (b:=b) (x:=a) (y:=p) ⟨Nat.le_refl _,by omega⟩ hp (by omega)
 have hv:(swp S a p).getD a 0=S.getD p 0:=by rw [swp_at (by omega) (by omega),if_pos rfl]
 obtain ⟨P0,hP0⟩:∃ P0,S.getD p 0=P0:=⟨_,rfl⟩
 rw [hP0] at hv ⊢
 have q1:=gI (S:=S) (j:=a) (by omega)
 have q2:=gI (S:=S) (j:=p) (by omega)
 have r1:=sI (S:=S) (j:=a) (v:=(S).getD p 0) (by omega)
 have r2:=sI (S:=(S).set a ((S).getD p 0)) (j:=p) (v:=(S).getD a 0) (by rw [List.length_set];omega)
 have l1:0+a*1 < (flat isV (S)).length:=by rw [isLen];omega
 have l2:0+p*1 < (flat isV ((S).set a ((S).getD p 0))).length:=by rw [isLen,List.length_set];omega
 dsimp only [swp] at w1 hv
 clear hP0
 generalize S.getD a 0=y at *
 generalize S.getD p 0=z at *
 generalize S.set a z=S3 at *
 generalize S3.set p y=S4 at *
 all_goals (refine goR ?_;and_intros<;>(try exact trivial)<;>repeat (first|refine fun (Bk:Nat)=>?_|intro h))
 repeat' ((first|(apply G.ld;rfl;(apply LdV.one;exact CellV.blk (by exact mm) q1);rfl)|(apply G.ld;rfl;(apply LdV.one;exact CellV.blk (by exact mm) q2);rfl)|(apply J.regX 0 [2,3] (.q 0 <| .q 1 <| .q 2 <| .q 3 <| .q 4 <| .q 5 <| .q 6 <| .q 7 <| .q 8 <| .q 9 <| .q 10 <| .q 11 <| .q 12 <| .e 13 <| .q 14 <| .e 15 <| .nil);exact Tryz.mixed;decide +kernel)|(apply G.s1n (n:=0);rfl;rfl;rfl;exact rfl;exact ⟨rfl,rfl⟩;exact l1;exact r1)|(apply G.s1n (n:=0);rfl;rfl;rfl;exact rfl;exact ⟨rfl,rfl⟩;exact l2;exact r2)|(apply J.regQ;exact Tryz.mixed;decide +kernel)|(apply J.regL';exact Tryz.mixed;decide +kernel))<;>(refine goR ?_;and_intros<;>(try exact trivial)<;>repeat (first|refine fun (Bk:Nat)=>?_|intro h)))
 have hl4:=w1.len
 clear q1 q2 r1 r2 l1 l2
 rw [show (a:Int)+1=((a+1:Nat):Int) by omega]
 have hP:EIn S4 a (a+1) b b:=⟨Nat.le_refl _,by omega,Nat.le_refl _,fun x h1 h2=>by omega,fun y h1 h2=>by omega⟩
 dsimp only [List.set]
 refine J.loop (c:=_) ((a+1,b,S4):Nat×Nat×List Int) (fun s=>s.2.1) (fun s=>[(0,.slice (some ⟨g,0,none⟩) n cp),(1,.int .i64 a),(9,.int .i64 (s.1:Nat)),(10,.int .i64 ((s.2.1:Int)-1))]) (fun s=>.blk g 3 (flat isV s.2.2) tot::M) (fun s=>WP S a b s.2.2∧EIn s.2.2 a s.1 s.2.1 b∧s.2.2.getD a 0=P0) ?_ sbT sbL ?_
 ·exact ⟨w1,hP,hv⟩
 clear w1 hP hv hl4
 intro ⟨i,k,S4⟩ ⟨w1,hP,hv⟩ ihm
 dsimp only at w1 hP hv ⊢
 have hl4:=w1.len
 all_goals (refine go ?_;and_intros<;>(try exact trivial)<;>repeat (first|refine fun (Bk:Nat)=>?_|intro h))
 apply cutK (X:={ x:Nat // EIn S4 a x k b∧(x=k∨x < k∧(S4).getD a 0 < (S4).getD x 0) }) (fun x=>[(0,.slice (some ⟨g,0,none⟩) n cp),(1,.int .i64 a),(9,.int .i64 (x.1:Nat)),(10,.int .i64 ((k:Int)-1))]) (fun _=>.blk g 3 (flat isV S4) tot::M)
 ·intro hk
  refine J.loop (c:=_) (i:Nat) (fun s=>k-s) (fun s=>[(0,.slice (some ⟨g,0,none⟩) n cp),(1,.int .i64 a),(9,.int .i64 (s:Nat)),(10,.int .i64 ((k:Int)-1))]) (fun s=>.blk g 3 (flat isV S4) tot::M) (fun s=>EIn S4 a s k b) ?_ sbT sbL ?_
  ·exact hP
  intro i hQ ih
  have p1:=hQ.h1
  have p2:=hQ.h2
  have p3:=hQ.h3
  by_cases c1:i < k
  ·have hle:=fun w'=>lessI_holds ((S4).getD a 0) ((S4).getD i 0) w'
   have q1:=gI (S:=S4) (j:=i) (by omega)
   have q2:=gI (S:=S4) (j:=a) (by omega)
   by_cases c2:¬ (S4).getD a 0 < (S4).getD i 0
   ·have ih:=ih (i+1) (hQ.inc c1 (by omega)) (by omega)
    rw [decide_eq_false c2] at hle
    clear hQ hk
    generalize (S4).getD i 0=y at hle q1
    generalize (S4).getD a 0=z at hle q2
    all_goals (refine goR ?_;and_intros<;>(try exact trivial)<;>repeat (first|refine fun (Bk:Nat)=>?_|intro h))
    repeat' ((first|(apply G.ld;rfl;(apply LdV.one;exact CellV.blk (by exact mm) q1);rfl)|(apply G.ld;rfl;(apply LdV.one;exact CellV.blk (by exact mm) q2);rfl)|(apply G.cV (g:=185);rfl;rfl;exact fun w' _=>hle w')|(apply J.regA (.q 0 <| .q 1 <| .q 2 <| .q 3 <| .q 4 <| .q 5 <| .q 6 <| .q 7 <| .q 8 <| .q 9 <| .q 10 <| .q 11 <| .q 12 <| .q 13 <| .nil);exact Tryz.mixed;decide +kernel)|(apply J.regA (.q 0 <| .q 1 <| .q 2 <| .q 3 <| .q 4 <| .q 5 <| .q 6 <| .q 7 <| .q 8 <| .q 9 <| .q 10 <| .q 11 <| .q 12 <| .q 13 <| .q 14 <| .nil);exact Tryz.mixed;decide +kernel)|(apply J.regQ;exact Tryz.mixed;decide +kernel)|(apply J.regL';exact Tryz.mixed;decide +kernel))<;>(refine goR ?_;and_intros<;>(try exact trivial)<;>repeat (first|refine fun (Bk:Nat)=>?_|intro h)))
    exact J.fin ih
   ·have hk2:=hk ⟨i,hQ,.inr ⟨c1,by omega⟩⟩
    dsimp only at hk2
    have c2:=Decidable.not_not.1 c2
    rw [decide_eq_true c2] at hle
    clear hk hQ ih
    generalize (S4).getD i 0=y at hle q1
    generalize (S4).getD a 0=z at hle q2
    all_goals (refine goR ?_;and_intros<;>(try exact trivial)<;>repeat (first|refine fun (Bk:Nat)=>?_|intro h))
    repeat' ((first|(apply G.ld;rfl;(apply LdV.one;exact CellV.blk (by exact mm) q1);rfl)|(apply G.ld;rfl;(apply LdV.one;exact CellV.blk (by exact mm) q2);rfl)|(apply G.cV (g:=185);rfl;rfl;exact fun w' _=>hle w')|(apply J.regA (.q 0 <| .q 1 <| .q 2 <| .q 3 <| .q 4 <| .q 5 <| .q 6 <| .q 7 <| .q 8 <| .q 9 <| .q 10 <| .q 11 <| .q 12 <| .q 13 <| .nil);exact Tryz.mixed;decide +kernel)|(apply J.regA (.q 0 <| .q 1 <| .q 2 <| .q 3 <| .q 4 <| .q 5 <| .q 6 <| .q 7 <| .q 8 <| .q 9 <| .q 10 <| .q 11 <| .q 12 <| .q 13 <| .q 14 <| .nil);exact Tryz.mixed;decide +kernel)|(apply J.regQ;exact Tryz.mixed;decide +kernel)|(apply J.regL';exact Tryz.mixed;decide +kernel))<;>(refine goR ?_;and_intros<;>(try exact trivial)<;>repeat (first|refine fun (Bk:Nat)=>?_|intro h)))
    exact J.fin hk2
  ·have hk2:=hk ⟨i,hQ,.inl (by omega)⟩
   dsimp only at hk2
   clear hk hQ ih
   all_goals (refine goR ?_;and_intros<;>(try exact trivial)<;>repeat (first|refine fun (Bk:Nat)=>?_|intro h))
   repeat' ((first|(apply G.cV (g:=185);rfl;rfl;exact fun w' _=>hle w')|(apply J.regA (.q 0 <| .q 1 <| .q 2 <| .q 3 <| .q 4 <| .q 5 <| .q 6 <| .q 7 <| .q 8 <| .q 9 <| .q 10 <| .q 11 <| .q 12 <| .q 13 <| .nil);exact Tryz.mixed;decide +kernel)|(apply J.regA (.q 0 <| .q 1 <| .q 2 <| .q 3 <| .q 4 <| .q 5 <| .q 6 <| .q 7 <| .q 8 <| .q 9 <| .q 10 <| .q 11 <| .q 12 <| .q 13 <| .q 14 <| .nil);exact Tryz.mixed;decide +kernel)|(apply J.regQ;exact Tryz.mixed;decide +kernel)|(apply J.regL';exact Tryz.mixed;decide +kernel))<;>(refine goR ?_;and_intros<;>(try exact trivial)<;>repeat (first|refine fun (Bk:Nat)=>?_|intro h)))
   exact J.fin hk2
 clear hP
 rintro ⟨i,hP,hx⟩
 dsimp only at hP hx ⊢
 all_goals (refine go ?_;and_intros<;>(try exact trivial)<;>repeat (first|refine fun (Bk:Nat)=>?_|intro h))
 refine J.loop (c:=_) (k:Nat) (fun s=>s) (fun s=>[(0,.slice (some ⟨g,0,none⟩) n cp),(1,.int .i64 a),(9,.int .i64 (i:Nat)),(10,.int .i64 ((s:Int)-1))]) (fun s=>.blk g 3 (flat isV S4) tot::M) (fun s=>EIn S4 a i s b∧s≤k) ?_ sbT sbL ?_
 ·exact ⟨hP,Nat.le_refl _⟩
 clear hP
 intro k ⟨hP,hk3⟩ ih
 have p1:=hP.h1
 have p2:=hP.h2
 have p3:=hP.h3
 have q2:=gI (S:=S4) (j:=a) (by omega)
 by_cases hst:i < k∧(S4).getD a 0 < (S4).getD (k-1) 0
 ·obtain ⟨k,rfl⟩:∃ j,k=j+1:=⟨k-1,by omega⟩
  rw [Nat.add_sub_cancel] at hst
  obtain ⟨c1,c2⟩:=hst
  rw [show ((k+1:Nat):Int)-1=(k:Int) by omega]
  have hle:=fun w'=>lessI_holds ((S4).getD a 0) ((S4).getD k 0) w'
  have q1:=gI (S:=S4) (j:=k) (by omega)
  have ih:=ih k ⟨hP.dec c1 (by omega),by omega⟩ (by omega)
  rw [decide_eq_true c2] at hle
  clear hP
  generalize (S4).getD k 0=y at hle q1
  generalize (S4).getD a 0=z at hle q2
  all_goals (refine goR ?_;and_intros<;>(try exact trivial)<;>repeat (first|refine fun (Bk:Nat)=>?_|intro h))
  repeat' ((first|(apply G.ld;rfl;(apply LdV.one;exact CellV.blk (by exact mm) q1);rfl)|(apply G.ld;rfl;(apply LdV.one;exact CellV.blk (by exact mm) q2);rfl)|(apply G.cV (g:=185);rfl;rfl;exact fun w' _=>hle w')|(apply J.regA (.q 0 <| .q 1 <| .q 2 <| .q 3 <| .q 4 <| .q 5 <| .q 6 <| .q 7 <| .q 8 <| .q 9 <| .q 10 <| .q 11 <| .q 12 <| .q 13 <| .nil);exact Tryz.mixed;decide +kernel)|(apply J.regA (.q 0 <| .q 1 <| .q 2 <| .q 3 <| .q 4 <| .q 5 <| .q 6 <| .q 7 <| .q 8 <| .q 9 <| .q 10 <| .q 11 <| .q 12 <| .q 13 <| .q 14 <| .nil);exact Tryz.mixed;decide +kernel)|(apply J.regQ;exact Tryz.mixed;decide +kernel)|(apply J.regL';exact Tryz.mixed;decide +kernel))<;>(refine goR ?_;and_intros<;>(try exact trivial)<;>repeat (first|refine fun (Bk:Nat)=>?_|intro h)))
  exact J.fin ih
 clear ih
 by_cases c1:i < k
 ·have hx:S4.getD a 0 < S4.getD i 0:=by
   rcases hx with h|h
   ·exfalso;omega
   ·exact h.2
  obtain ⟨k,rfl⟩:∃ j,k=j+1:=⟨k-1,by omega⟩
  rw [Nat.add_sub_cancel] at hst
  have c2:¬ (S4).getD a 0 < (S4).getD k 0:=fun h=>hst ⟨c1,h⟩
  rw [show ((k+1:Nat):Int)-1=(k:Int) by omega]
  have hle:=fun w'=>lessI_holds ((S4).getD a 0) ((S4).getD k 0) w'
  have q1:=gI (S:=S4) (j:=k) (by omega)
  rw [decide_eq_false c2] at hle
  generalize (S4).getD k 0=y at hle q1
  generalize (S4).getD a 0=z at hle q2
  have hik:i≠k:=fun e=>by subst e;omega
  have hsw:=hP.swap (by omega) (by omega) hx (by omega)
  have hv2:(swp S4 i k).getD a 0=P0:=by rw [swp_at (by omega) (by omega),if_neg (by omega),if_neg (by omega)];exact hv
  have w2:=w1.trans (WP.swp (S:=S4) (a:=a) (b:=b) (x:=i) (y:=k) ⟨by omega,by omega⟩ ⟨by omega,by omega⟩ (by omega))
  all_goals (refine goR ?_;and_intros<;>(try exact trivial)<;>repeat (first|refine fun (Bk:Nat)=>?_|intro h))
  repeat' ((first|(apply G.ld;rfl;(apply LdV.one;exact CellV.blk (by exact mm) q1);rfl)|(apply G.ld;rfl;(apply LdV.one;exact CellV.blk (by exact mm) q2);rfl)|(apply G.cV (g:=185);rfl;rfl;exact fun w' _=>hle w')|(apply J.regA (.q 0 <| .q 1 <| .q 2 <| .q 3 <| .q 4 <| .q 5 <| .q 6 <| .q 7 <| .q 8 <| .q 9 <| .q 10 <| .q 11 <| .q 12 <| .q 13 <| .nil);exact Tryz.mixed;decide +kernel)|(apply J.regA (.q 0 <| .q 1 <| .q 2 <| .q 3 <| .q 4 <| .q 5 <| .q 6 <| .q 7 <| .q 8 <| .q 9 <| .q 10 <| .q 11 <| .q 12 <| .q 13 <| .q 14 <| .nil);exact Tryz.mixed;decide +kernel)|(apply J.regQ;exact Tryz.mixed;decide +kernel)|(apply J.regL';exact Tryz.mixed;decide +kernel))<;>(refine goR ?_;and_intros<;>(try exact trivial)<;>repeat (first|refine fun (Bk:Nat)=>?_|intro h)))
  have q1:=gI (S:=S4) (j:=i) (by omega)
  have q2:=gI (S:=S4) (j:=k) (by omega)
  have r1:=sI (S:=S4) (j:=i) (v:=(S4).getD k 0) (by omega)
  have r2:=sI (S:=(S4).set i ((S4).getD k 0)) (j:=k) (v:=(S4).getD i 0) (by rw [List.length_set];omega)
  have l1:0+i*1 < (flat isV (S4)).length:=by rw [isLen];omega
  have l2:0+k*1 < (flat isV ((S4).set i ((S4).getD k 0))).length:=by rw [isLen,List.length_set];omega
  have ihm:=ihm (i+1,k,swp S4 i k) ⟨w2,hsw,hv2⟩ (by dsimp only;omega)
  dsimp only [swp] at ihm
  clear hP hx w1 hst c2 w2 hsw hv hv2
  generalize S4.getD i 0=y at *
  generalize S4.getD k 0=z at *
  generalize S4.set i z=S5 at *
  generalize S5.set k y=S6 at *
  all_goals (refine goR ?_;and_intros<;>(try exact trivial)<;>repeat (first|refine fun (Bk:Nat)=>?_|intro h))
  repeat' ((first|(apply G.ld;rfl;(apply LdV.one;exact CellV.blk (by exact mm) q1);rfl)|(apply G.ld;rfl;(apply LdV.one;exact CellV.blk (by exact mm) q2);rfl)|(apply J.regX 0 [2,3] (.q 0 <| .q 1 <| .q 2 <| .q 3 <| .q 4 <| .q 5 <| .q 6 <| .q 7 <| .q 8 <| .q 9 <| .q 10 <| .q 11 <| .q 12 <| .e 13 <| .q 14 <| .e 15 <| .nil);exact Tryz.mixed;decide +kernel)|(apply G.s1n (n:=0);rfl;rfl;rfl;exact rfl;exact ⟨rfl,rfl⟩;exact l1;exact r1)|(apply G.s1n (n:=0);rfl;rfl;rfl;exact rfl;exact ⟨rfl,rfl⟩;exact l2;exact r2)|(apply J.regQ;exact Tryz.mixed;decide +kernel)|(apply J.regL';exact Tryz.mixed;decide +kernel))<;>(refine goR ?_;and_intros<;>(try exact trivial)<;>repeat (first|refine fun (Bk:Nat)=>?_|intro h)))
  rw [show (i:Int)+1=((i+1:Nat):Int) by omega]
  exact J.fin ihm
 ·obtain rfl:i=k:=by omega
  clear ihm
  all_goals (refine goR ?_;and_intros<;>(try exact trivial)<;>repeat (first|refine fun (Bk:Nat)=>?_|intro h))
  repeat' ((first|(apply G.cV (g:=185);rfl;rfl;exact fun w' _=>hle w')|(apply J.regA (.q 0 <| .q 1 <| .q 2 <| .q 3 <| .q 4 <| .q 5 <| .q 6 <| .q 7 <| .q 8 <| .q 9 <| .q 10 <| .q 11 <| .q 12 <| .q 13 <| .nil);exact Tryz.mixed;decide +kernel)|(apply J.regA (.q 0 <| .q 1 <| .q 2 <| .q 3 <| .q 4 <| .q 5 <| .q 6 <| .q 7 <| .q 8 <| .q 9 <| .q 10 <| .q 11 <| .q 12 <| .q 13 <| .q 14 <| .nil);exact Tryz.mixed;decide +kernel)|(apply J.regQ;exact Tryz.mixed;decide +kernel)|(apply J.regL';exact Tryz.mixed;decide +kernel))<;>(refine goR ?_;and_intros<;>(try exact trivial)<;>repeat (first|refine fun (Bk:Nat)=>?_|intro h)))
  refine ret1 Tryz.func186 Tryz.results186 ?_
  exact fun w' hw'=>⟨S4,i,⟨w1,hP,hv⟩,rfl,hw'⟩
end Go.Proofs.YtcdgibkbbcekhaaGreatDoor
/-
 Contracts: the partial insertion of the library's sort.
-/
namespace Go.Proofs.YtcdgibkbbcekhaaGreatDoor
open Go.RowKit Go.Sl Go.Num
theorem Srt.inc {S:List Int}{a i:Nat} (h:Srt S a (i+1)) (hs:S.getD i 0≤S.getD (i+1) 0) (ha:a≤i):Srt S a (i+2):=fun x y h1 h2 h3=>by
 by_cases hy:y=i+1
 ·subst hy
  by_cases hx:x=i
  ·subst hx;exact hs
  ·exact Int.le_trans (h x i h1 (by omega) (by omega)) hs
 ·exact h x y h1 h2 (by omega)
theorem Srt.less {S:List Int}{a i:Nat} (h:Srt S a (i+1)):Srt S a i:=fun x y h1 h2 h3=>h x y h1 h2 (by omega)
theorem Srt.pre {S T:List Int}{a i:Nat} (h:Srt S a i) (he:∀ z,z < i→T.getD z 0=S.getD z 0):Srt T a i:=fun x y h1 h2 h3=>by
 rw [he x (by omega),he y h3];exact h x y h1 h2 h3
set_option maxHeartbeats 4000000 in
theorem partIns_holds (w0:World) (M:List Row) (w:World) (g tot n cp:Nat) (S:List Int) (a b:Nat) (hw:Sat w0 (.blk g 3 (flat isV S) tot::M) w) (hb:b≤n) (hn:n=S.length) (hl:n≤1000000000) (hab:a < b) (hpre:0 < a→∀ z,a≤z→z < b→S.getD (a-1) 0≤S.getD z 0) :
  Calls Tryz.prog 184 #[.slice (some ⟨g,0,none⟩) n cp,.int .i64 a,.int .i64 b] w fun e w'=>∃ S' bo,(WP S a b S'∧(bo=true→Srt S' a b))∧e=.returned (.bool bo)∧Sat w0 (.blk g 3 (flat isV S') tot::M) w':=by
 refine enterR [(0,.slice (some ⟨g,0,none⟩) n cp),(1,.int .i64 a),(2,.int .i64 b)] hw Tryz.func184 Tryz.ntmps184 ?_
 all_goals (refine go ?_;and_intros<;>(try exact trivial)<;>repeat (first|refine fun (Bk:Nat)=>?_|intro h))
 rw [show (a:Int)+1=((a+1:Nat):Int) by omega]
 refine J.loop (c:=_) ((0,a,S):Nat×Nat×List Int) (fun s=>5-s.1) (fun s=>[(0,.slice (some ⟨g,0,none⟩) n cp),(1,.int .i64 a),(2,.int .i64 b),(7,.int .i64 ((s.2.1+1:Nat):Int)),(8,.int .i64 (s.1:Nat))]) (fun s=>.blk g 3 (flat isV s.2.2) tot::M) (fun s=>s.1≤5∧(a≤s.2.1∧s.2.1+1≤b)∧WP S a b s.2.2∧Srt s.2.2 a (s.2.1+1)) ?_ sbT sbL ?_
 ·exact ⟨Nat.zero_le _,⟨Nat.le_refl _,by dsimp only;omega⟩,WP.refl _ _ _,Srt.short (Nat.le_refl _)⟩
 intro ⟨c,i,S1⟩ ⟨c1,c2,w1,hS⟩ ihm
 dsimp only at c1 c2 w1 hS ⊢
 have hl1:=w1.len
 by_cases hc:c < 5
 case neg =>
  clear ihm
  all_goals (refine go ?_;and_intros<;>(try exact trivial)<;>repeat (first|refine fun (Bk:Nat)=>?_|intro h))
  refine ret1 Tryz.func184 Tryz.results184 ?_
  exact fun w' hw'=>⟨S1,false,⟨w1,fun h=>by cases h⟩,rfl,hw'⟩
 all_goals (refine go ?_;and_intros<;>(try exact trivial)<;>repeat (first|refine fun (Bk:Nat)=>?_|intro h))
 refine J.loop (c:=_) (i:Nat) (fun s=>b-s) (fun s=>[(0,.slice (some ⟨g,0,none⟩) n cp),(1,.int .i64 a),(2,.int .i64 b),(7,.int .i64 ((s+1:Nat):Int)),(8,.int .i64 (c:Nat))]) (fun s=>.blk g 3 (flat isV S1) tot::M) (fun s=>(a≤s∧s+1≤b)∧Srt S1 a (s+1)) ?_ sbT sbL ?_
 ·exact ⟨c2,hS⟩
 clear c2 hS
 intro i ⟨d1,d2⟩ ih
 by_cases e1:i+1 < b
 case neg =>
  obtain rfl:i+1=b:=by omega
  clear ihm ih
  all_goals (refine goR ?_;and_intros<;>(try exact trivial)<;>repeat (first|refine fun (Bk:Nat)=>?_|intro h))
  repeat' ((first|(apply G.cV (g:=185);rfl;rfl;exact fun w' _=>hle w')|(apply J.regA (.q 0 <| .q 1 <| .q 2 <| .q 3 <| .q 4 <| .q 5 <| .q 6 <| .q 7 <| .q 8 <| .q 9 <| .q 10 <| .q 11 <| .q 12 <| .q 13 <| .q 14 <| .q 15 <| .nil);exact Tryz.mixed;decide +kernel)|(apply J.regA (.q 0 <| .q 1 <| .q 2 <| .q 3 <| .q 4 <| .q 5 <| .q 6 <| .q 7 <| .q 8 <| .q 9 <| .q 10 <| .nil);exact Tryz.mixed;decide +kernel)|(apply J.regQ;exact Tryz.mixed;decide +kernel)|(apply J.regL';exact Tryz.mixed;decide +kernel))<;>(refine goR ?_;and_intros<;>(try exact trivial)<;>repeat (first|refine fun (Bk:Nat)=>?_|intro h)))
  refine ret1 Tryz.func184 Tryz.results184 ?_
  exact fun w' hw'=>⟨S1,true,⟨w1,fun _=>d2⟩,rfl,hw'⟩
 have hle:=fun w'=>lessI_holds (S1.getD (i+1) 0) (S1.getD i 0) w'
 have q1:=gI (S:=S1) (j:=i+1) (by omega)
 have q2:=gI (S:=S1) (j:=i) (by omega)
 by_cases e2:S1.getD (i+1) 0 < S1.getD i 0
 case neg =>
  have ih:=ih (i+1) ⟨by omega,d2.inc (by omega) (by omega)⟩ (by omega)
  rw [decide_eq_false e2] at hle
  clear ihm
  generalize S1.getD (i+1) 0=y at hle q1
  generalize S1.getD i 0=z at hle q2
  all_goals (refine goR ?_;and_intros<;>(try exact trivial)<;>repeat (first|refine fun (Bk:Nat)=>?_|intro h))
  repeat' ((first|(apply G.ld;rfl;(apply LdV.one;exact CellV.blk (by exact mm) q1);rfl)|(apply G.ld;rfl;(apply LdV.one;exact CellV.blk (by exact mm) q2);rfl)|(apply G.cV (g:=185);rfl;rfl;exact fun w' _=>hle w')|(apply J.regA (.q 0 <| .q 1 <| .q 2 <| .q 3 <| .q 4 <| .q 5 <| .q 6 <| .q 7 <| .q 8 <| .q 9 <| .q 10 <| .q 11 <| .q 12 <| .q 13 <| .q 14 <| .q 15 <| .nil);exact Tryz.mixed;decide +kernel)|(apply J.regA (.q 0 <| .q 1 <| .q 2 <| .q 3 <| .q 4 <| .q 5 <| .q 6 <| .q 7 <| .q 8 <| .q 9 <| .q 10 <| .nil);exact Tryz.mixed;decide +kernel)|(apply G.ix (i:=i);rfl;rfl;omega;omega;rfl)|(apply J.regQ;exact Tryz.mixed;decide +kernel)|(apply J.regL';exact Tryz.mixed;decide +kernel))<;>(refine goR ?_;and_intros<;>(try exact trivial)<;>repeat (first|refine fun (Bk:Nat)=>?_|intro h)))
  rw [show ((i+1:Nat):Int)+1=((i+1+1:Nat):Int) by omega]
  exact J.fin ih
 clear ih
 rw [decide_eq_true e2] at hle
 by_cases h50:b-a < 50
 case pos =>
  clear ihm
  generalize S1.getD (i+1) 0=y at hle q1
  generalize S1.getD i 0=z at hle q2
  all_goals (refine goR ?_;and_intros<;>(try exact trivial)<;>repeat (first|refine fun (Bk:Nat)=>?_|intro h))
  repeat' ((first|(apply G.ld;rfl;(apply LdV.one;exact CellV.blk (by exact mm) q1);rfl)|(apply G.ld;rfl;(apply LdV.one;exact CellV.blk (by exact mm) q2);rfl)|(apply G.cV (g:=185);rfl;rfl;exact fun w' _=>hle w')|(apply J.regA (.q 0 <| .q 1 <| .q 2 <| .q 3 <| .q 4 <| .q 5 <| .q 6 <| .q 7 <| .q 8 <| .q 9 <| .q 10 <| .q 11 <| .q 12 <| .q 13 <| .q 14 <| .q 15 <| .nil);exact Tryz.mixed;decide +kernel)|(apply J.regA (.q 0 <| .q 1 <| .q 2 <| .q 3 <| .q 4 <| .q 5 <| .q 6 <| .q 7 <| .q 8 <| .q 9 <| .q 10 <| .nil);exact Tryz.mixed;decide +kernel)|(apply G.ix (i:=i);rfl;rfl;omega;omega;rfl)|(apply J.regQ;exact Tryz.mixed;decide +kernel)|(apply J.regL';exact Tryz.mixed;decide +kernel))<;>(refine goR ?_;and_intros<;>(try exact trivial)<;>repeat (first|refine fun (Bk:Nat)=>?_|intro h)))
  refine ret1 Tryz.func184 Tryz.results184 ?_
  exact fun w' hw'=>⟨S1,false,⟨w1,fun h=>by cases h⟩,rfl,hw'⟩
 have w2:=w1.trans (WP.swp (S:=S1) (a:=a) (b:=b) (x:=i+1) (y:=i) ⟨by omega,by omega⟩ ⟨by omega,by omega⟩ (by omega))
 have hI:InsW (swp S1 (i+1) i) a i i:=InsW.start (d2.less.pre fun z hz=>swp_oth (by omega) (by omega) (by omega) (by omega))
 generalize hy1:S1.getD (i+1) 0=y at hle q1
 generalize hz1:S1.getD i 0=z at hle q2
 all_goals (refine goR ?_;and_intros<;>(try exact trivial)<;>repeat (first|refine fun (Bk:Nat)=>?_|intro h))
 repeat' ((first|(apply G.ld;rfl;(apply LdV.one;exact CellV.blk (by exact mm) q1);rfl)|(apply G.ld;rfl;(apply LdV.one;exact CellV.blk (by exact mm) q2);rfl)|(apply G.cV (g:=185);rfl;rfl;exact fun w' _=>hle w')|(apply J.regA (.q 0 <| .q 1 <| .q 2 <| .q 3 <| .q 4 <| .q 5 <| .q 6 <| .q 7 <| .q 8 <| .q 9 <| .q 10 <| .q 11 <| .q 12 <| .q 13 <| .q 14 <| .q 15 <| .nil);exact Tryz.mixed;decide +kernel)|(apply J.regA (.q 0 <| .q 1 <| .q 2 <| .q 3 <| .q 4 <| .q 5 <| .q 6 <| .q 7 <| .q 8 <| .q 9 <| .q 10 <| .nil);exact Tryz.mixed;decide +kernel)|(apply G.ix (i:=i);rfl;rfl;omega;omega;rfl)|(apply J.regQ;exact Tryz.mixed;decide +kernel)|(apply J.regL';exact Tryz.mixed;decide +kernel))<;>(refine goR ?_;and_intros<;>(try exact trivial)<;>repeat (first|refine fun (Bk:Nat)=>?_|intro h)))
 clear q1 q2
 have q1:=gI (S:=S1) (j:=(i+1)) (by omega)
 have q2:=gI (S:=S1) (j:=i) (by omega)
 have r1:=sI (S:=S1) (j:=(i+1)) (v:=(S1).getD i 0) (by omega)
 have r2:=sI (S:=(S1).set (i+1) ((S1).getD i 0)) (j:=i) (v:=(S1).getD (i+1) 0) (by rw [List.length_set];omega)
 have l1:0+(i+1)*1 < (flat isV (S1)).length:=by rw [isLen];omega
 have l2:0+i*1 < (flat isV ((S1).set (i+1) ((S1).getD i 0))).length:=by rw [isLen,List.length_set];omega
 dsimp only [swp] at w2 hI
 simp only [hy1,hz1] at w2 hI r1 r2 l1 l2 q1 q2
 clear hy1 hz1 w1 d2 hle
 generalize S1.set (i+1) z=S3 at *
 generalize S3.set i y=S4 at *
 have hl4:=w2.len
 by_cases hr:i+2 < b
 case neg =>
  have hk:=fun (x:{ T:List Int // WP S a b T∧Srt T a (i+1) })=>ihm (c+1,i,x.1) ⟨by dsimp only;omega,⟨d1.1,by dsimp only;omega⟩,x.2.1,x.2.2⟩ (by dsimp only;omega)
  clear ihm
  dsimp only at hk
  all_goals (refine goR ?_;and_intros<;>(try exact trivial)<;>repeat (first|refine fun (Bk:Nat)=>?_|intro h))
  repeat' ((first|(apply G.ld;rfl;(apply LdV.one;exact CellV.blk (by exact mm) q1);rfl)|(apply G.ld;rfl;(apply LdV.one;exact CellV.blk (by exact mm) q2);rfl)|(apply J.regX 0 [2,3,4] (.q 0 <| .q 1 <| .q 2 <| .q 3 <| .q 4 <| .q 5 <| .q 6 <| .q 7 <| .q 8 <| .q 9 <| .q 10 <| .q 11 <| .q 12 <| .q 13 <| .q 14 <| .e 15 <| .q 16 <| .e 17 <| .nil);exact Tryz.mixed;decide +kernel)|(apply G.s1n (n:=0);rfl;rfl;rfl;exact rfl;exact ⟨rfl,rfl⟩;exact l1;exact r1)|(apply G.s1n (n:=0);rfl;rfl;rfl;exact rfl;exact ⟨rfl,rfl⟩;exact l2;exact r2)|(apply G.ix (i:=i);rfl;rfl;omega;omega;rfl)|(apply J.regQ;exact Tryz.mixed;decide +kernel)|(apply J.regL';exact Tryz.mixed;decide +kernel))<;>(refine goR ?_;and_intros<;>(try exact trivial)<;>repeat (first|refine fun (Bk:Nat)=>?_|intro h)))
  clear q1 q2 r1 r2 l1 l2
  dsimp only [List.set]
  rw [show ((i+1:Nat):Int)-1=(i:Int) by omega]
  refine J.loop (c:=_) ((i,S4):Nat×List Int) (fun s=>s.1) (fun s=>[(0,.slice (some ⟨g,0,none⟩) n cp),(1,.int .i64 a),(2,.int .i64 b),(7,.int .i64 ((i+1:Nat):Int)),(8,.int .i64 (c:Nat)),(9,.int .i64 (s.1:Nat))]) (fun s=>.blk g 3 (flat isV s.2) tot::M) (fun s=>(a≤s.1∧s.1≤i)∧WP S a b s.2∧InsW s.2 a i s.1) ?_ sbT sbL ?_
  ·exact ⟨⟨by dsimp only;omega,Nat.le_refl _⟩,w2,hI⟩
  intro ⟨j,T⟩ ⟨j1,v1,v2⟩ ih
  dsimp only at j1 v1 v2 ⊢
  have hlt:=v1.len
  by_cases hja:a < j
  ·obtain ⟨j,rfl⟩:∃ k,j=k+1:=⟨j-1,by omega⟩
   have hle:=fun w'=>lessI_holds (T.getD (j+1) 0) (T.getD j 0) w'
   by_cases hc:T.getD (j+1) 0 < T.getD j 0
   ·rw [decide_eq_true hc] at hle
    have ih:=ih (j,swp T (j+1) j) ⟨by dsimp only;omega,v1.trans (WP.swp ⟨by omega,by omega⟩ ⟨by omega,by omega⟩ (by omega)),v2.step (by omega) (by omega) (by omega) hc⟩ (by dsimp only;omega)
    have q1:=gI (S:=T) (j:=(j+1)) (by omega)
    have q2:=gI (S:=T) (j:=j) (by omega)
    have r1:=sI (S:=T) (j:=(j+1)) (v:=(T).getD j 0) (by omega)
    have r2:=sI (S:=(T).set (j+1) ((T).getD j 0)) (j:=j) (v:=(T).getD (j+1) 0) (by rw [List.length_set];omega)
    have l1:0+(j+1)*1 < (flat isV (T)).length:=by rw [isLen];omega
    have l2:0+j*1 < (flat isV ((T).set (j+1) ((T).getD j 0))).length:=by rw [isLen,List.length_set];omega
    dsimp only [swp] at ih
    clear hk v1 v2
    generalize T.getD (j+1) 0=x at *
    generalize T.getD j 0=y at *
    generalize T.set (j+1) y=S5 at *
    generalize S5.set j x=S6 at *
    all_goals (refine goR ?_;and_intros<;>(try exact trivial)<;>repeat (first|refine fun (Bk:Nat)=>?_|intro h))
    repeat' ((first|(apply G.ld;rfl;(apply LdV.one;exact CellV.blk (by exact mm) q1);rfl)|(apply G.ld;rfl;(apply LdV.one;exact CellV.blk (by exact mm) q2);rfl)|(apply J.regX 0 [2,3,4] (.q 0 <| .q 1 <| .q 2 <| .q 3 <| .q 4 <| .q 5 <| .q 6 <| .q 7 <| .q 8 <| .q 9 <| .q 10 <| .q 11 <| .q 12 <| .q 13 <| .q 14 <| .e 15 <| .q 16 <| .e 17 <| .nil);exact Tryz.mixed;decide +kernel)|(apply G.s1n (n:=0);rfl;rfl;rfl;exact rfl;exact ⟨rfl,rfl⟩;exact l1;exact r1)|(apply G.s1n (n:=0);rfl;rfl;rfl;exact rfl;exact ⟨rfl,rfl⟩;exact l2;exact r2)|(apply G.cV (g:=185);rfl;rfl;exact fun w' _=>hle w')|(apply J.regA (.q 0 <| .q 1 <| .q 2 <| .q 3 <| .q 4 <| .q 5 <| .q 6 <| .q 7 <| .q 8 <| .q 9 <| .q 10 <| .q 11 <| .q 12 <| .q 13 <| .q 14 <| .q 15 <| .nil);exact Tryz.mixed;decide +kernel)|(apply J.regA (.q 0 <| .q 1 <| .q 2 <| .q 3 <| .q 4 <| .q 5 <| .q 6 <| .q 7 <| .q 8 <| .q 9 <| .q 10 <| .nil);exact Tryz.mixed;decide +kernel)|(apply G.ix (i:=j);rfl;rfl;omega;omega;rfl)|(apply J.regQ;exact Tryz.mixed;decide +kernel)|(apply J.regL';exact Tryz.mixed;decide +kernel))<;>(refine goR ?_;and_intros<;>(try exact trivial)<;>repeat (first|refine fun (Bk:Nat)=>?_|intro h)))
    rw [show ((j+1:Nat):Int)-1=(j:Int) by omega]
    exact J.fin ih
   ·have hk2:=hk ⟨T,v1,v2.end_ (.inr ⟨by omega,hc⟩)⟩
    dsimp only at hk2
    rw [decide_eq_false hc] at hle
    have q1:=gI (S:=T) (j:=j+1) (by omega)
    have q2:=gI (S:=T) (j:=j) (by omega)
    clear hk ih v1 v2
    generalize T.getD (j+1) 0=x at *
    generalize T.getD j 0=y at *
    all_goals (refine goR ?_;and_intros<;>(try exact trivial)<;>repeat (first|refine fun (Bk:Nat)=>?_|intro h))
    repeat' ((first|(apply G.ld;rfl;(apply LdV.one;exact CellV.blk (by exact mm) q1);rfl)|(apply G.ld;rfl;(apply LdV.one;exact CellV.blk (by exact mm) q2);rfl)|(apply G.cV (g:=185);rfl;rfl;exact fun w' _=>hle w')|(apply J.regA (.q 0 <| .q 1 <| .q 2 <| .q 3 <| .q 4 <| .q 5 <| .q 6 <| .q 7 <| .q 8 <| .q 9 <| .q 10 <| .q 11 <| .q 12 <| .q 13 <| .q 14 <| .q 15 <| .nil);exact Tryz.mixed;decide +kernel)|(apply J.regA (.q 0 <| .q 1 <| .q 2 <| .q 3 <| .q 4 <| .q 5 <| .q 6 <| .q 7 <| .q 8 <| .q 9 <| .q 10 <| .nil);exact Tryz.mixed;decide +kernel)|(apply G.ix (i:=j);rfl;rfl;omega;omega;rfl)|(apply J.regQ;exact Tryz.mixed;decide +kernel)|(apply J.regL';exact Tryz.mixed;decide +kernel))<;>(refine goR ?_;and_intros<;>(try exact trivial)<;>repeat (first|refine fun (Bk:Nat)=>?_|intro h)))
    exact J.fin hk2
  ·obtain rfl:j=a:=by omega
   have hk2:=hk ⟨T,v1,v2.end_ (.inl rfl)⟩
   dsimp only at hk2
   by_cases h0:j=0
   ·clear hk ih v1 v2
    all_goals (refine goR ?_;and_intros<;>(try exact trivial)<;>repeat (first|refine fun (Bk:Nat)=>?_|intro h))
    repeat' ((first|(apply G.cV (g:=185);rfl;rfl;exact fun w' _=>hle w')|(apply J.regA (.q 0 <| .q 1 <| .q 2 <| .q 3 <| .q 4 <| .q 5 <| .q 6 <| .q 7 <| .q 8 <| .q 9 <| .q 10 <| .q 11 <| .q 12 <| .q 13 <| .q 14 <| .q 15 <| .nil);exact Tryz.mixed;decide +kernel)|(apply J.regA (.q 0 <| .q 1 <| .q 2 <| .q 3 <| .q 4 <| .q 5 <| .q 6 <| .q 7 <| .q 8 <| .q 9 <| .q 10 <| .nil);exact Tryz.mixed;decide +kernel)|(apply J.regQ;exact Tryz.mixed;decide +kernel)|(apply J.regL';exact Tryz.mixed;decide +kernel))<;>(refine goR ?_;and_intros<;>(try exact trivial)<;>repeat (first|refine fun (Bk:Nat)=>?_|intro h)))
    exact J.fin hk2
   ·obtain ⟨j,rfl⟩:∃ k,j=k+1:=⟨j-1,by omega⟩
    have hpr:=v1.all (by omega) (P:=fun x=>S.getD j 0≤x) (hpre (by omega)) (j+1) (by omega) (by omega)
    have hle:=fun w'=>lessI_holds (T.getD (j+1) 0) (T.getD j 0) w'
    rw [decide_eq_false (by rw [v1.out j (.inl (by omega))];exact Int.not_lt.2 hpr)] at hle
    have q1:=gI (S:=T) (j:=j+1) (by omega)
    have q2:=gI (S:=T) (j:=j) (by omega)
    clear hk ih v1 v2 hpr
    generalize T.getD (j+1) 0=x at *
    generalize T.getD j 0=y at *
    all_goals (refine goR ?_;and_intros<;>(try exact trivial)<;>repeat (first|refine fun (Bk:Nat)=>?_|intro h))
    repeat' ((first|(apply G.ld;rfl;(apply LdV.one;exact CellV.blk (by exact mm) q1);rfl)|(apply G.ld;rfl;(apply LdV.one;exact CellV.blk (by exact mm) q2);rfl)|(apply G.cV (g:=185);rfl;rfl;exact fun w' _=>hle w')|(apply J.regA (.q 0 <| .q 1 <| .q 2 <| .q 3 <| .q 4 <| .q 5 <| .q 6 <| .q 7 <| .q 8 <| .q 9 <| .q 10 <| .q 11 <| .q 12 <| .q 13 <| .q 14 <| .q 15 <| .nil);exact Tryz.mixed;decide +kernel)|(apply J.regA (.q 0 <| .q 1 <| .q 2 <| .q 3 <| .q 4 <| .q 5 <| .q 6 <| .q 7 <| .q 8 <| .q 9 <| .q 10 <| .nil);exact Tryz.mixed;decide +kernel)|(apply G.ix (i:=j);rfl;rfl;omega;omega;rfl)|(apply J.regQ;exact Tryz.mixed;decide +kernel)|(apply J.regL';exact Tryz.mixed;decide +kernel))<;>(refine goR ?_;and_intros<;>(try exact trivial)<;>repeat (first|refine fun (Bk:Nat)=>?_|intro h)))
    exact J.fin hk2
 by_cases hia:a < i
 ·skip
  all_goals (refine goR ?_;and_intros<;>(try exact trivial)<;>repeat (first|refine fun (Bk:Nat)=>?_|intro h))
  repeat' ((first|(apply G.ld;rfl;(apply LdV.one;exact CellV.blk (by exact mm) q1);rfl)|(apply G.ld;rfl;(apply LdV.one;exact CellV.blk (by exact mm) q2);rfl)|(apply J.regX 0 [2,3,4] (.q 0 <| .q 1 <| .q 2 <| .q 3 <| .q 4 <| .q 5 <| .q 6 <| .q 7 <| .q 8 <| .q 9 <| .q 10 <| .q 11 <| .q 12 <| .q 13 <| .q 14 <| .e 15 <| .q 16 <| .e 17 <| .nil);exact Tryz.mixed;decide +kernel)|(apply G.s1n (n:=0);rfl;rfl;rfl;exact rfl;exact ⟨rfl,rfl⟩;exact l1;exact r1)|(apply G.s1n (n:=0);rfl;rfl;rfl;exact rfl;exact ⟨rfl,rfl⟩;exact l2;exact r2)|(apply G.ix (i:=i);rfl;rfl;omega;omega;rfl)|(apply J.regQ;exact Tryz.mixed;decide +kernel)|(apply J.regL';exact Tryz.mixed;decide +kernel))<;>(refine goR ?_;and_intros<;>(try exact trivial)<;>repeat (first|refine fun (Bk:Nat)=>?_|intro h)))
  clear q1 q2 r1 r2 l1 l2
  dsimp only [List.set]
  apply cutK (X:={ T:List Int // WP S a b T∧Srt T a (i+1) }) (fun _=>[(0,.slice (some ⟨g,0,none⟩) n cp),(1,.int .i64 a),(2,.int .i64 b),(7,.int .i64 ((i+1:Nat):Int)),(8,.int .i64 (c:Nat)),(10,.int .i64 ((i+2:Nat):Int))]) (fun x=>.blk g 3 (flat isV x.1) tot::M)
  ·intro hk
   rw [show ((i+1:Nat):Int)-1=(i:Int) by omega]
   refine J.loop (c:=_) ((i,S4):Nat×List Int) (fun s=>s.1) (fun s=>[(0,.slice (some ⟨g,0,none⟩) n cp),(1,.int .i64 a),(2,.int .i64 b),(7,.int .i64 ((i+1:Nat):Int)),(8,.int .i64 (c:Nat)),(9,.int .i64 (s.1:Nat))]) (fun s=>.blk g 3 (flat isV s.2) tot::M) (fun s=>(a≤s.1∧s.1≤i)∧WP S a b s.2∧InsW s.2 a i s.1) ?_ sbT sbL ?_
   ·exact ⟨⟨by dsimp only;omega,Nat.le_refl _⟩,w2,hI⟩
   intro ⟨j,T⟩ ⟨j1,v1,v2⟩ ih
   dsimp only at j1 v1 v2 ⊢
   have hlt:=v1.len
   by_cases hja:a < j
   ·obtain ⟨j,rfl⟩:∃ k,j=k+1:=⟨j-1,by omega⟩
    have hle:=fun w'=>lessI_holds (T.getD (j+1) 0) (T.getD j 0) w'
    by_cases hc:T.getD (j+1) 0 < T.getD j 0
    ·rw [decide_eq_true hc] at hle
     have ih:=ih (j,swp T (j+1) j) ⟨by dsimp only;omega,v1.trans (WP.swp ⟨by omega,by omega⟩ ⟨by omega,by omega⟩ (by omega)),v2.step (by omega) (by omega) (by omega) hc⟩ (by dsimp only;omega)
     have q1:=gI (S:=T) (j:=(j+1)) (by omega)
     have q2:=gI (S:=T) (j:=j) (by omega)
     have r1:=sI (S:=T) (j:=(j+1)) (v:=(T).getD j 0) (by omega)
     have r2:=sI (S:=(T).set (j+1) ((T).getD j 0)) (j:=j) (v:=(T).getD (j+1) 0) (by rw [List.length_set];omega)
     have l1:0+(j+1)*1 < (flat isV (T)).length:=by rw [isLen];omega
     have l2:0+j*1 < (flat isV ((T).set (j+1) ((T).getD j 0))).length:=by rw [isLen,List.length_set];omega
     dsimp only [swp] at ih
     clear hk v1 v2
     generalize T.getD (j+1) 0=x at *
     generalize T.getD j 0=y at *
     generalize T.set (j+1) y=S5 at *
     generalize S5.set j x=S6 at *
     all_goals (refine goR ?_;and_intros<;>(try exact trivial)<;>repeat (first|refine fun (Bk:Nat)=>?_|intro h))
     repeat' ((first|(apply G.ld;rfl;(apply LdV.one;exact CellV.blk (by exact mm) q1);rfl)|(apply G.ld;rfl;(apply LdV.one;exact CellV.blk (by exact mm) q2);rfl)|(apply J.regX 0 [2,3,4] (.q 0 <| .q 1 <| .q 2 <| .q 3 <| .q 4 <| .q 5 <| .q 6 <| .q 7 <| .q 8 <| .q 9 <| .q 10 <| .q 11 <| .q 12 <| .q 13 <| .q 14 <| .e 15 <| .q 16 <| .e 17 <| .nil);exact Tryz.mixed;decide +kernel)|(apply G.s1n (n:=0);rfl;rfl;rfl;exact rfl;exact ⟨rfl,rfl⟩;exact l1;exact r1)|(apply G.s1n (n:=0);rfl;rfl;rfl;exact rfl;exact ⟨rfl,rfl⟩;exact l2;exact r2)|(apply G.cV (g:=185);rfl;rfl;exact fun w' _=>hle w')|(apply J.regA (.q 0 <| .q 1 <| .q 2 <| .q 3 <| .q 4 <| .q 5 <| .q 6 <| .q 7 <| .q 8 <| .q 9 <| .q 10 <| .q 11 <| .q 12 <| .q 13 <| .q 14 <| .q 15 <| .nil);exact Tryz.mixed;decide +kernel)|(apply J.regA (.q 0 <| .q 1 <| .q 2 <| .q 3 <| .q 4 <| .q 5 <| .q 6 <| .q 7 <| .q 8 <| .q 9 <| .q 10 <| .nil);exact Tryz.mixed;decide +kernel)|(apply G.ix (i:=j);rfl;rfl;omega;omega;rfl)|(apply J.regQ;exact Tryz.mixed;decide +kernel)|(apply J.regL';exact Tryz.mixed;decide +kernel))<;>(refine goR ?_;and_intros<;>(try exact trivial)<;>repeat (first|refine fun (Bk:Nat)=>?_|intro h)))
     rw [show ((j+1:Nat):Int)-1=(j:Int) by omega]
     exact J.fin ih
    ·have hk2:=hk ⟨T,v1,v2.end_ (.inr ⟨by omega,hc⟩)⟩
     dsimp only at hk2
     rw [decide_eq_false hc] at hle
     have q1:=gI (S:=T) (j:=j+1) (by omega)
     have q2:=gI (S:=T) (j:=j) (by omega)
     clear hk ih v1 v2
     generalize T.getD (j+1) 0=x at *
     generalize T.getD j 0=y at *
     all_goals (refine goR ?_;and_intros<;>(try exact trivial)<;>repeat (first|refine fun (Bk:Nat)=>?_|intro h))
     repeat' ((first|(apply G.ld;rfl;(apply LdV.one;exact CellV.blk (by exact mm) q1);rfl)|(apply G.ld;rfl;(apply LdV.one;exact CellV.blk (by exact mm) q2);rfl)|(apply G.cV (g:=185);rfl;rfl;exact fun w' _=>hle w')|(apply J.regA (.q 0 <| .q 1 <| .q 2 <| .q 3 <| .q 4 <| .q 5 <| .q 6 <| .q 7 <| .q 8 <| .q 9 <| .q 10 <| .q 11 <| .q 12 <| .q 13 <| .q 14 <| .q 15 <| .nil);exact Tryz.mixed;decide +kernel)|(apply J.regA (.q 0 <| .q 1 <| .q 2 <| .q 3 <| .q 4 <| .q 5 <| .q 6 <| .q 7 <| .q 8 <| .q 9 <| .q 10 <| .nil);exact Tryz.mixed;decide +kernel)|(apply G.ix (i:=j);rfl;rfl;omega;omega;rfl)|(apply J.regQ;exact Tryz.mixed;decide +kernel)|(apply J.regL';exact Tryz.mixed;decide +kernel))<;>(refine goR ?_;and_intros<;>(try exact trivial)<;>repeat (first|refine fun (Bk:Nat)=>?_|intro h)))
     exact J.fin hk2
   ·obtain rfl:j=a:=by omega
    have hk2:=hk ⟨T,v1,v2.end_ (.inl rfl)⟩
    dsimp only at hk2
    by_cases h0:j=0
    ·clear hk ih v1 v2
     all_goals (refine goR ?_;and_intros<;>(try exact trivial)<;>repeat (first|refine fun (Bk:Nat)=>?_|intro h))
     repeat' ((first|(apply G.cV (g:=185);rfl;rfl;exact fun w' _=>hle w')|(apply J.regA (.q 0 <| .q 1 <| .q 2 <| .q 3 <| .q 4 <| .q 5 <| .q 6 <| .q 7 <| .q 8 <| .q 9 <| .q 10 <| .q 11 <| .q 12 <| .q 13 <| .q 14 <| .q 15 <| .nil);exact Tryz.mixed;decide +kernel)|(apply J.regA (.q 0 <| .q 1 <| .q 2 <| .q 3 <| .q 4 <| .q 5 <| .q 6 <| .q 7 <| .q 8 <| .q 9 <| .q 10 <| .nil);exact Tryz.mixed;decide +kernel)|(apply J.regQ;exact Tryz.mixed;decide +kernel)|(apply J.regL';exact Tryz.mixed;decide +kernel))<;>(refine goR ?_;and_intros<;>(try exact trivial)<;>repeat (first|refine fun (Bk:Nat)=>?_|intro h)))
     exact J.fin hk2
    ·obtain ⟨j,rfl⟩:∃ k,j=k+1:=⟨j-1,by omega⟩
     have hpr:=v1.all (by omega) (P:=fun x=>S.getD j 0≤x) (hpre (by omega)) (j+1) (by omega) (by omega)
     have hle:=fun w'=>lessI_holds (T.getD (j+1) 0) (T.getD j 0) w'
     rw [decide_eq_false (by rw [v1.out j (.inl (by omega))];exact Int.not_lt.2 hpr)] at hle
     have q1:=gI (S:=T) (j:=j+1) (by omega)
     have q2:=gI (S:=T) (j:=j) (by omega)
     clear hk ih v1 v2 hpr
     generalize T.getD (j+1) 0=x at *
     generalize T.getD j 0=y at *
     all_goals (refine goR ?_;and_intros<;>(try exact trivial)<;>repeat (first|refine fun (Bk:Nat)=>?_|intro h))
     repeat' ((first|(apply G.ld;rfl;(apply LdV.one;exact CellV.blk (by exact mm) q1);rfl)|(apply G.ld;rfl;(apply LdV.one;exact CellV.blk (by exact mm) q2);rfl)|(apply G.cV (g:=185);rfl;rfl;exact fun w' _=>hle w')|(apply J.regA (.q 0 <| .q 1 <| .q 2 <| .q 3 <| .q 4 <| .q 5 <| .q 6 <| .q 7 <| .q 8 <| .q 9 <| .q 10 <| .q 11 <| .q 12 <| .q 13 <| .q 14 <| .q 15 <| .nil);exact Tryz.mixed;decide +kernel)|(apply J.regA (.q 0 <| .q 1 <| .q 2 <| .q 3 <| .q 4 <| .q 5 <| .q 6 <| .q 7 <| .q 8 <| .q 9 <| .q 10 <| .nil);exact Tryz.mixed;decide +kernel)|(apply G.ix (i:=j);rfl;rfl;omega;omega;rfl)|(apply J.regQ;exact Tryz.mixed;decide +kernel)|(apply J.regL';exact Tryz.mixed;decide +kernel))<;>(refine goR ?_;and_intros<;>(try exact trivial)<;>repeat (first|refine fun (Bk:Nat)=>?_|intro h)))
     exact J.fin hk2
  clear w2 hI hl4
  rintro ⟨S4,w2,hI⟩
  dsimp only at w2 hI ⊢
  have hl4:=w2.len
  refine J.loop (c:=_) ((i+2,S4):Nat×List Int) (fun s=>b-s.1) (fun s=>[(0,.slice (some ⟨g,0,none⟩) n cp),(1,.int .i64 a),(2,.int .i64 b),(7,.int .i64 ((i+1:Nat):Int)),(8,.int .i64 (c:Nat)),(10,.int .i64 (s.1:Nat))]) (fun s=>.blk g 3 (flat isV s.2) tot::M) (fun s=>(i+2≤s.1∧s.1≤b)∧WP S a b s.2∧Srt s.2 a (i+1)) ?_ sbT sbL ?_
  ·exact ⟨⟨Nat.le_refl _,by dsimp only;omega⟩,w2,hI⟩
  clear w2 hI hl4
  intro ⟨j,T⟩ ⟨j1,v1,v2⟩ ih
  dsimp only at j1 v1 v2 ⊢
  have hlt:=v1.len
  have hk2:=ihm (c+1,i,T) ⟨by dsimp only;omega,⟨by dsimp only;omega,by dsimp only;omega⟩,v1,v2⟩ (by dsimp only;omega)
  dsimp only at hk2
  clear ihm
  by_cases hjb:j < b
  ·obtain ⟨j,rfl⟩:∃ k,j=k+1:=⟨j-1,by omega⟩
   have hle:=fun w'=>lessI_holds (T.getD (j+1) 0) (T.getD j 0) w'
   by_cases hc:T.getD (j+1) 0 < T.getD j 0
   ·rw [decide_eq_true hc] at hle
    have ih:=ih (j+2,swp T (j+1) j) ⟨by dsimp only;omega,v1.trans (WP.swp ⟨by omega,by omega⟩ ⟨by omega,by omega⟩ (by omega)),v2.pre fun z hz=>swp_oth (by omega) (by omega) (by omega) (by omega)⟩ (by dsimp only;omega)
    have q1:=gI (S:=T) (j:=(j+1)) (by omega)
    have q2:=gI (S:=T) (j:=j) (by omega)
    have r1:=sI (S:=T) (j:=(j+1)) (v:=(T).getD j 0) (by omega)
    have r2:=sI (S:=(T).set (j+1) ((T).getD j 0)) (j:=j) (v:=(T).getD (j+1) 0) (by rw [List.length_set];omega)
    have l1:0+(j+1)*1 < (flat isV (T)).length:=by rw [isLen];omega
    have l2:0+j*1 < (flat isV ((T).set (j+1) ((T).getD j 0))).length:=by rw [isLen,List.length_set];omega
    dsimp only [swp] at ih
    clear hk2 v1 v2
    generalize T.getD (j+1) 0=x at *
    generalize T.getD j 0=y at *
    generalize T.set (j+1) y=S5 at *
    generalize S5.set j x=S6 at *
    all_goals (refine goR ?_;and_intros<;>(try exact trivial)<;>repeat (first|refine fun (Bk:Nat)=>?_|intro h))
    repeat' ((first|(apply G.ld;rfl;(apply LdV.one;exact CellV.blk (by exact mm) q1);rfl)|(apply G.ld;rfl;(apply LdV.one;exact CellV.blk (by exact mm) q2);rfl)|(apply J.regX 0 [2,3,4] (.q 0 <| .q 1 <| .q 2 <| .q 3 <| .q 4 <| .q 5 <| .q 6 <| .q 7 <| .q 8 <| .q 9 <| .q 10 <| .q 11 <| .q 12 <| .q 13 <| .q 14 <| .e 15 <| .q 16 <| .e 17 <| .nil);exact Tryz.mixed;decide +kernel)|(apply G.s1n (n:=0);rfl;rfl;rfl;exact rfl;exact ⟨rfl,rfl⟩;exact l1;exact r1)|(apply G.s1n (n:=0);rfl;rfl;rfl;exact rfl;exact ⟨rfl,rfl⟩;exact l2;exact r2)|(apply G.cV (g:=185);rfl;rfl;exact fun w' _=>hle w')|(apply J.regA (.q 0 <| .q 1 <| .q 2 <| .q 3 <| .q 4 <| .q 5 <| .q 6 <| .q 7 <| .q 8 <| .q 9 <| .q 10 <| .q 11 <| .q 12 <| .q 13 <| .q 14 <| .q 15 <| .nil);exact Tryz.mixed;decide +kernel)|(apply J.regA (.q 0 <| .q 1 <| .q 2 <| .q 3 <| .q 4 <| .q 5 <| .q 6 <| .q 7 <| .q 8 <| .q 9 <| .q 10 <| .nil);exact Tryz.mixed;decide +kernel)|(apply G.ix (i:=j);rfl;rfl;omega;omega;rfl)|(apply J.regQ;exact Tryz.mixed;decide +kernel)|(apply J.regL';exact Tryz.mixed;decide +kernel))<;>(refine goR ?_;and_intros<;>(try exact trivial)<;>repeat (first|refine fun (Bk:Nat)=>?_|intro h)))
    rw [show ((j+1:Nat):Int)+1=((j+2:Nat):Int) by omega]
    exact J.fin ih
   ·rw [decide_eq_false hc] at hle
    have q1:=gI (S:=T) (j:=j+1) (by omega)
    have q2:=gI (S:=T) (j:=j) (by omega)
    clear ih v1 v2
    generalize T.getD (j+1) 0=x at *
    generalize T.getD j 0=y at *
    all_goals (refine goR ?_;and_intros<;>(try exact trivial)<;>repeat (first|refine fun (Bk:Nat)=>?_|intro h))
    repeat' ((first|(apply G.ld;rfl;(apply LdV.one;exact CellV.blk (by exact mm) q1);rfl)|(apply G.ld;rfl;(apply LdV.one;exact CellV.blk (by exact mm) q2);rfl)|(apply G.cV (g:=185);rfl;rfl;exact fun w' _=>hle w')|(apply J.regA (.q 0 <| .q 1 <| .q 2 <| .q 3 <| .q 4 <| .q 5 <| .q 6 <| .q 7 <| .q 8 <| .q 9 <| .q 10 <| .q 11 <| .q 12 <| .q 13 <| .q 14 <| .q 15 <| .nil);exact Tryz.mixed;decide +kernel)|(apply J.regA (.q 0 <| .q 1 <| .q 2 <| .q 3 <| .q 4 <| .q 5 <| .q 6 <| .q 7 <| .q 8 <| .q 9 <| .q 10 <| .nil);exact Tryz.mixed;decide +kernel)|(apply G.ix (i:=j);rfl;rfl;omega;omega;rfl)|(apply J.regQ;exact Tryz.mixed;decide +kernel)|(apply J.regL';exact Tryz.mixed;decide +kernel))<;>(refine goR ?_;and_intros<;>(try exact trivial)<;>repeat (first|refine fun (Bk:Nat)=>?_|intro h)))
    exact J.fin hk2
  ·obtain rfl:j=b:=by omega
   clear ih v1 v2
   all_goals (refine goR ?_;and_intros<;>(try exact trivial)<;>repeat (first|refine fun (Bk:Nat)=>?_|intro h))
   repeat' ((first|(apply G.cV (g:=185);rfl;rfl;exact fun w' _=>hle w')|(apply J.regA (.q 0 <| .q 1 <| .q 2 <| .q 3 <| .q 4 <| .q 5 <| .q 6 <| .q 7 <| .q 8 <| .q 9 <| .q 10 <| .q 11 <| .q 12 <| .q 13 <| .q 14 <| .q 15 <| .nil);exact Tryz.mixed;decide +kernel)|(apply J.regA (.q 0 <| .q 1 <| .q 2 <| .q 3 <| .q 4 <| .q 5 <| .q 6 <| .q 7 <| .q 8 <| .q 9 <| .q 10 <| .nil);exact Tryz.mixed;decide +kernel)|(apply J.regQ;exact Tryz.mixed;decide +kernel)|(apply J.regL';exact Tryz.mixed;decide +kernel))<;>(refine goR ?_;and_intros<;>(try exact trivial)<;>repeat (first|refine fun (Bk:Nat)=>?_|intro h)))
   exact J.fin hk2
 ·have hia2:i=a:=by omega
  have hI:=hI.end_ (.inl hia2)
  all_goals (refine goR ?_;and_intros<;>(try exact trivial)<;>repeat (first|refine fun (Bk:Nat)=>?_|intro h))
  repeat' ((first|(apply G.ld;rfl;(apply LdV.one;exact CellV.blk (by exact mm) q1);rfl)|(apply G.ld;rfl;(apply LdV.one;exact CellV.blk (by exact mm) q2);rfl)|(apply J.regX 0 [2,3,4] (.q 0 <| .q 1 <| .q 2 <| .q 3 <| .q 4 <| .q 5 <| .q 6 <| .q 7 <| .q 8 <| .q 9 <| .q 10 <| .q 11 <| .q 12 <| .q 13 <| .q 14 <| .e 15 <| .q 16 <| .e 17 <| .nil);exact Tryz.mixed;decide +kernel)|(apply G.s1n (n:=0);rfl;rfl;rfl;exact rfl;exact ⟨rfl,rfl⟩;exact l1;exact r1)|(apply G.s1n (n:=0);rfl;rfl;rfl;exact rfl;exact ⟨rfl,rfl⟩;exact l2;exact r2)|(apply G.ix (i:=i);rfl;rfl;omega;omega;rfl)|(apply J.regQ;exact Tryz.mixed;decide +kernel)|(apply J.regL';exact Tryz.mixed;decide +kernel))<;>(refine goR ?_;and_intros<;>(try exact trivial)<;>repeat (first|refine fun (Bk:Nat)=>?_|intro h)))
  clear q1 q2 r1 r2 l1 l2
  dsimp only [List.set]
  rw [show ((i+1:Nat):Int)+1=((i+2:Nat):Int) by omega]
  refine J.loop (c:=_) ((i+2,S4):Nat×List Int) (fun s=>b-s.1) (fun s=>[(0,.slice (some ⟨g,0,none⟩) n cp),(1,.int .i64 a),(2,.int .i64 b),(7,.int .i64 ((i+1:Nat):Int)),(8,.int .i64 (c:Nat)),(10,.int .i64 (s.1:Nat))]) (fun s=>.blk g 3 (flat isV s.2) tot::M) (fun s=>(i+2≤s.1∧s.1≤b)∧WP S a b s.2∧Srt s.2 a (i+1)) ?_ sbT sbL ?_
  ·exact ⟨⟨Nat.le_refl _,by dsimp only;omega⟩,w2,hI⟩
  clear w2 hI hl4
  intro ⟨j,T⟩ ⟨j1,v1,v2⟩ ih
  dsimp only at j1 v1 v2 ⊢
  have hlt:=v1.len
  have hk2:=ihm (c+1,i,T) ⟨by dsimp only;omega,⟨by dsimp only;omega,by dsimp only;omega⟩,v1,v2⟩ (by dsimp only;omega)
  dsimp only at hk2
  clear ihm
  by_cases hjb:j < b
  ·obtain ⟨j,rfl⟩:∃ k,j=k+1:=⟨j-1,by omega⟩
   have hle:=fun w'=>lessI_holds (T.getD (j+1) 0) (T.getD j 0) w'
   by_cases hc:T.getD (j+1) 0 < T.getD j 0
   ·rw [decide_eq_true hc] at hle
    have ih:=ih (j+2,swp T (j+1) j) ⟨by dsimp only;omega,v1.trans (WP.swp ⟨by omega,by omega⟩ ⟨by omega,by omega⟩ (by omega)),v2.pre fun z hz=>swp_oth (by omega) (by omega) (by omega) (by omega)⟩ (by dsimp only;omega)
    have q1:=gI (S:=T) (j:=(j+1)) (by omega)
    have q2:=gI (S:=T) (j:=j) (by omega)
    have r1:=sI (S:=T) (j:=(j+1)) (v:=(T).getD j 0) (by omega)
    have r2:=sI (S:=(T).set (j+1) ((T).getD j 0)) (j:=j) (v:=(T).getD (j+1) 0) (by rw [List.length_set];omega)
    have l1:0+(j+1)*1 < (flat isV (T)).length:=by rw [isLen];omega
    have l2:0+j*1 < (flat isV ((T).set (j+1) ((T).getD j 0))).length:=by rw [isLen,List.length_set];omega
    dsimp only [swp] at ih
    clear hk2 v1 v2
    generalize T.getD (j+1) 0=x at *
    generalize T.getD j 0=y at *
    generalize T.set (j+1) y=S5 at *
    generalize S5.set j x=S6 at *
    all_goals (refine goR ?_;and_intros<;>(try exact trivial)<;>repeat (first|refine fun (Bk:Nat)=>?_|intro h))
    repeat' ((first|(apply G.ld;rfl;(apply LdV.one;exact CellV.blk (by exact mm) q1);rfl)|(apply G.ld;rfl;(apply LdV.one;exact CellV.blk (by exact mm) q2);rfl)|(apply J.regX 0 [2,3,4] (.q 0 <| .q 1 <| .q 2 <| .q 3 <| .q 4 <| .q 5 <| .q 6 <| .q 7 <| .q 8 <| .q 9 <| .q 10 <| .q 11 <| .q 12 <| .q 13 <| .q 14 <| .e 15 <| .q 16 <| .e 17 <| .nil);exact Tryz.mixed;decide +kernel)|(apply G.s1n (n:=0);rfl;rfl;rfl;exact rfl;exact ⟨rfl,rfl⟩;exact l1;exact r1)|(apply G.s1n (n:=0);rfl;rfl;rfl;exact rfl;exact ⟨rfl,rfl⟩;exact l2;exact r2)|(apply G.cV (g:=185);rfl;rfl;exact fun w' _=>hle w')|(apply J.regA (.q 0 <| .q 1 <| .q 2 <| .q 3 <| .q 4 <| .q 5 <| .q 6 <| .q 7 <| .q 8 <| .q 9 <| .q 10 <| .q 11 <| .q 12 <| .q 13 <| .q 14 <| .q 15 <| .nil);exact Tryz.mixed;decide +kernel)|(apply J.regA (.q 0 <| .q 1 <| .q 2 <| .q 3 <| .q 4 <| .q 5 <| .q 6 <| .q 7 <| .q 8 <| .q 9 <| .q 10 <| .nil);exact Tryz.mixed;decide +kernel)|(apply G.ix (i:=j);rfl;rfl;omega;omega;rfl)|(apply J.regQ;exact Tryz.mixed;decide +kernel)|(apply J.regL';exact Tryz.mixed;decide +kernel))<;>(refine goR ?_;and_intros<;>(try exact trivial)<;>repeat (first|refine fun (Bk:Nat)=>?_|intro h)))
    rw [show ((j+1:Nat):Int)+1=((j+2:Nat):Int) by omega]
    exact J.fin ih
   ·rw [decide_eq_false hc] at hle
    have q1:=gI (S:=T) (j:=j+1) (by omega)
    have q2:=gI (S:=T) (j:=j) (by omega)
    clear ih v1 v2
    generalize T.getD (j+1) 0=x at *
    generalize T.getD j 0=y at *
    all_goals (refine goR ?_;and_intros<;>(try exact trivial)<;>repeat (first|refine fun (Bk:Nat)=>?_|intro h))
    repeat' ((first|(apply G.ld;rfl;(apply LdV.one;exact CellV.blk (by exact mm) q1);rfl)|(apply G.ld;rfl;(apply LdV.one;exact CellV.blk (by exact mm) q2);rfl)|(apply G.cV (g:=185);rfl;rfl;exact fun w' _=>hle w')|(apply J.regA (.q 0 <| .q 1 <| .q 2 <| .q 3 <| .q 4 <| .q 5 <| .q 6 <| .q 7 <| .q 8 <| .q 9 <| .q 10 <| .q 11 <| .q 12 <| .q 13 <| .q 14 <| .q 15 <| .nil);exact Tryz.mixed;decide +kernel)|(apply J.regA (.q 0 <| .q 1 <| .q 2 <| .q 3 <| .q 4 <| .q 5 <| .q 6 <| .q 7 <| .q 8 <| .q 9 <| .q 10 <| .nil);exact Tryz.mixed;decide +kernel)|(apply G.ix (i:=j);rfl;rfl;omega;omega;rfl)|(apply J.regQ;exact Tryz.mixed;decide +kernel)|(apply J.regL';exact Tryz.mixed;decide +kernel))<;>(refine goR ?_;and_intros<;>(try exact trivial)<;>repeat (first|refine fun (Bk:Nat)=>?_|intro h)))
    exact J.fin hk2
  ·obtain rfl:j=b:=by omega
   clear ih v1 v2
   all_goals (refine goR ?_;and_intros<;>(try exact trivial)<;>repeat (first|refine fun (Bk:Nat)=>?_|intro h))
   repeat' ((first|(apply G.cV (g:=185);rfl;rfl;exact fun w' _=>hle w')|(apply J.regA (.q 0 <| .q 1 <| .q 2 <| .q 3 <| .q 4 <| .q 5 <| .q 6 <| .q 7 <| .q 8 <| .q 9 <| .q 10 <| .q 11 <| .q 12 <| .q 13 <| .q 14 <| .q 15 <| .nil);exact Tryz.mixed;decide +kernel)|(apply J.regA (.q 0 <| .q 1 <| .q 2 <| .q 3 <| .q 4 <| .q 5 <| .q 6 <| .q 7 <| .q 8 <| .q 9 <| .q 10 <| .nil);exact Tryz.mixed;decide +kernel)|(apply J.regQ;exact Tryz.mixed;decide +kernel)|(apply J.regL';exact Tryz.mixed;decide +kernel))<;>(refine goR ?_;and_intros<;>(try exact trivial)<;>repeat (first|refine fun (Bk:Nat)=>?_|intro h)))
   exact J.fin hk2
end Go.Proofs.YtcdgibkbbcekhaaGreatDoor
/-
 Plain laws of heaps.
-/
namespace Go.Proofs.YtcdgibkbbcekhaaGreatDoor
open Go.RowKit Go.Sl Go.Num
def Chd (r c:Nat):Prop:=c=2*r+1∨c=2*r+2
def Hp (S:List Int) (f lo hi:Nat):Prop:=∀ r c,lo≤r→Chd r c→c < hi→S.getD (f+c) 0≤S.getD (f+r) 0
def HpX (S:List Int) (f lo hi root:Nat):Prop:=(∀ r c,lo≤r→r≠root→Chd r c→c < hi→S.getD (f+c) 0≤S.getD (f+r) 0)∧∀ p c,lo≤p→Chd p root→Chd root c→c < hi→S.getD (f+c) 0≤S.getD (f+p) 0
theorem HpX.start {S:List Int}{f lo hi:Nat} (h:Hp S f (lo+1) hi):HpX S f lo hi lo :=
 ⟨fun r c h1 h2 h3 h4=>h r c (by omega) h3 h4,fun p c h1 h2 h3 h4=>by unfold Chd at h2;omega⟩
theorem HpX.done {S:List Int}{f lo hi root:Nat} (h:HpX S f lo hi root) (hc:∀ c,Chd root c→c < hi→S.getD (f+c) 0≤S.getD (f+root) 0):Hp S f lo hi:=fun r c h1 h2 h3=>by
 by_cases hr:r=root
 ·subst hr;exact hc c h2 h3
 ·exact h.1 r c h1 hr h2 h3
theorem HpX.step {S:List Int}{f lo hi root ch:Nat} (h:HpX S f lo hi root) (hl:lo≤root) (hc:Chd root ch) (hh:ch < hi) (hb:f+hi≤S.length) (hlt:S.getD (f+root) 0 < S.getD (f+ch) 0) (hs:∀ c,Chd root c→c < hi→S.getD (f+c) 0≤S.getD (f+ch) 0):HpX (swp S (f+root) (f+ch)) f lo hi ch:=by
 have hrc:root < ch:=by unfold Chd at hc;omega
 have e1:(swp S (f+root) (f+ch)).getD (f+root) 0=S.getD (f+ch) 0:=by rw [swp_at (by omega) (by omega),if_pos rfl]
 have e2:(swp S (f+root) (f+ch)).getD (f+ch) 0=S.getD (f+root) 0:=by rw [swp_at (by omega) (by omega),if_neg (by omega),if_pos rfl]
 have e3:∀ z,z≠root→z≠ch→(swp S (f+root) (f+ch)).getD (f+z) 0=S.getD (f+z) 0:=fun z h1 h2=>by rw [swp_at (by omega) (by omega),if_neg (by omega),if_neg (by omega)]
 refine ⟨fun r c h1 h2 h3 h4=>?_,fun p c h1 h2 h3 h4=>?_⟩
 ·by_cases hr:r=root
  ·subst hr
   rw [e1]
   by_cases hcc:c=ch
   ·subst hcc;rw [e2];omega
   ·rw [e3 c (by unfold Chd at h3;omega) hcc];exact hs c h3 h4
  ·rw [e3 r hr h2]
   by_cases hcr:c=root
   ·subst hcr;rw [e1];exact h.2 r ch h1 h3 hc hh
   ·have hcc:c≠ch:=fun e=>by subst e;unfold Chd at h3 hc;omega
    rw [e3 c hcr hcc];exact h.1 r c h1 hr h3 h4
 ·have hp:p=root:=by unfold Chd at h2 hc;omega
  subst hp
  rw [e1,e3 c (by unfold Chd at h3;omega) (by unfold Chd at h3;omega)]
  exact h.1 ch c (by omega) (by omega) h3 h4
theorem Hp.top {S:List Int}{f hi:Nat} (h:Hp S f 0 hi):∀ (n c:Nat),c≤n→c < hi→S.getD (f+c) 0≤S.getD f 0
 | 0,c,h1,_=>by rw [show c=0 by omega];exact Int.le_refl _
 | n+1,c,h1,h2=>by
  by_cases h0:c=0
  ·subst h0;exact Int.le_refl _
  ·have hc:Chd ((c-1) / 2) c:=by unfold Chd;omega
   exact Int.le_trans (h _ c (Nat.zero_le _) hc h2) (h.top n _ (by omega) (by omega))
end Go.Proofs.YtcdgibkbbcekhaaGreatDoor
/-
 Contracts: the heap of the library's sort.
-/
namespace Go.Proofs.YtcdgibkbbcekhaaGreatDoor
open Go.RowKit Go.Sl Go.Num
set_option maxHeartbeats 4000000 in
theorem siftDown_holds (w0:World) (M:List Row) (w:World) (g tot n cp:Nat) (S:List Int) (f lo hi:Nat) (hw:Sat w0 (.blk g 3 (flat isV S) tot::M) w) (hb:f+hi≤n) (hn:n=S.length) (hl:n≤1000000000) (hlo:lo≤n) (hH:Hp S f (lo+1) hi) :
  Calls Tryz.prog 194 #[.slice (some ⟨g,0,none⟩) n cp,.int .i64 lo,.int .i64 hi,.int .i64 f] w fun e w'=>∃ S',e=.returned (.tuple #[])∧(WP S f (f+hi) S'∧Hp S' f lo hi)∧Sat w0 (.blk g 3 (flat isV S') tot::M) w':=by
 refine enterR [(0,.slice (some ⟨g,0,none⟩) n cp),(1,.int .i64 lo),(2,.int .i64 hi),(3,.int .i64 f)] hw Tryz.func194 Tryz.ntmps194 ?_
 all_goals (refine go ?_;and_intros<;>(try exact trivial)<;>repeat (first|refine fun (Bk:Nat)=>?_|intro h))
 refine J.loop (c:=_) ((lo,S):Nat×List Int) (fun s=>n-s.1) (fun s=>[(0,.slice (some ⟨g,0,none⟩) n cp),(2,.int .i64 hi),(3,.int .i64 f),(8,.int .i64 (s.1:Nat))]) (fun s=>.blk g 3 (flat isV s.2) tot::M) (fun s=>(lo≤s.1∧s.1≤n)∧WP S f (f+hi) s.2∧HpX s.2 f lo hi s.1) ?_ sbT sbL ?_
 ·exact ⟨⟨Nat.le_refl _,hlo⟩,WP.refl _ _ _,HpX.start hH⟩
 clear hH
 intro ⟨r,T⟩ ⟨h1,v1,v2⟩ ih
 dsimp only at h1 v1 v2 ⊢
 have hlt:=v1.len
 by_cases hA:2*r+1 < hi
 case neg =>
  clear ih
  have hd:=v2.done fun c h2 h3=>by unfold Chd at h2;omega
  all_goals (refine go ?_;and_intros<;>(try exact trivial)<;>repeat (first|refine fun (Bk:Nat)=>?_|intro h))
  first
   | (refine end0 Tryz.func194 Tryz.results194 ?_;exact fun w' hw'=>⟨T,rfl,⟨v1,hd⟩,hw'⟩)
   | (refine ret0 Tryz.func194 Tryz.results194 ?_;exact fun w' hw'=>⟨T,rfl,⟨v1,hd⟩,hw'⟩)
 have q1:=gI (S:=T) (j:=f+r) (by omega)
 have q2:=gI (S:=T) (j:=f+(2*r+1)) (by omega)
 by_cases hB:2*r+2 < hi∧T.getD (f+(2*r+1)) 0 < T.getD (f+(2*r+2)) 0
 ·have q3:=gI (S:=T) (j:=f+(2*r+2)) (by omega)
  have hle:=fun w'=>lessI_holds (T.getD (f+(2*r+1)) 0) (T.getD (f+(2*r+2)) 0) w'
  have hle2:=fun w'=>lessI_holds (T.getD (f+r) 0) (T.getD (f+(2*r+2)) 0) w'
  rw [decide_eq_true hB.2] at hle
  have hs:∀ c,Chd r c→c < hi→T.getD (f+c) 0≤T.getD (f+(2*r+2)) 0:=fun c h2 h3=>by
   rcases h2 with rfl|rfl
   ·omega
   ·exact Int.le_refl _
  by_cases hC:T.getD (f+r) 0 < T.getD (f+(2*r+2)) 0
  ·have v3:=v2.step h1.1 (.inr rfl) hB.1 (by omega) hC hs
   have w3:=v1.trans (WP.swp (S:=T) (a:=f) (b:=f+hi) (x:=f+r) (y:=f+(2*r+2)) ⟨by omega,by omega⟩ ⟨by omega,by omega⟩ (by omega))
   have ih:=ih (2*r+2,_) ⟨⟨by dsimp only;omega,by dsimp only;omega⟩,w3,v3⟩ (by dsimp only;omega)
   have r1:=sI (S:=T) (j:=f+r) (v:=T.getD (f+(2*r+2)) 0) (by omega)
   have r2:=sI (S:=T.set (f+r) (T.getD (f+(2*r+2)) 0)) (j:=f+(2*r+2)) (v:=T.getD (f+r) 0) (by rw [List.length_set];omega)
   have l1:0+(f+r)*1 < (flat isV T).length:=by rw [isLen];omega
   have l2:0+(f+(2*r+2))*1 < (flat isV (T.set (f+r) (T.getD (f+(2*r+2)) 0))).length:=by rw [isLen,List.length_set];omega
   rw [decide_eq_true hC] at hle2
   dsimp only [swp] at ih
   clear v1 v2 v3 w3 hs
   have hB1:=hB.1
   clear hB
   generalize T.getD (f+r) 0=x at *
   generalize T.getD (f+(2*r+1)) 0=y at *
   generalize T.getD (f+(2*r+2)) 0=z at *
   generalize T.set (f+r) z=S3 at *
   generalize S3.set (f+(2*r+2)) x=S4 at *
   all_goals (refine goR ?_;and_intros<;>(try exact trivial)<;>repeat (first|refine fun (Bk:Nat)=>?_|intro h))
   repeat' ((first|(apply G.ld;rfl;(apply LdV.one;exact CellV.blk (by exact mm) q1);rfl)|(apply G.ld;rfl;(apply LdV.one;exact CellV.blk (by exact mm) q2);rfl)|(apply G.ld;rfl;(apply LdV.one;exact CellV.blk (by exact mm) q3);rfl)|(apply J.regA (.q 0 <| .q 1 <| .q 2 <| .q 3 <| .q 4 <| .q 5 <| .q 6 <| .q 7 <| .q 8 <| .q 9 <| .q 10 <| .q 11 <| .q 12 <| .q 13 <| .q 14 <| .q 15 <| .q 16 <| .q 17 <| .q 18 <| .q 19 <| .nil);exact Tryz.mixed;decide +kernel)|(apply J.regA (.q 0 <| .q 1 <| .q 2 <| .q 3 <| .q 4 <| .q 5 <| .q 6 <| .q 7 <| .q 8 <| .q 9 <| .q 10 <| .q 11 <| .q 12 <| .q 13 <| .nil);exact Tryz.mixed;decide +kernel)|(apply G.ix (i:=f+r);rfl;rfl;omega;omega;rfl)|(apply G.ix (i:=f+(2*r+1));rfl;rfl;omega;omega;rfl)|(apply G.ix (i:=f+(2*r+2));rfl;rfl;omega;omega;rfl)|(apply J.regX 0 [4,5,6,7] (.q 0 <| .q 1 <| .q 2 <| .q 3 <| .q 4 <| .q 5 <| .q 6 <| .q 7 <| .q 8 <| .q 9 <| .q 10 <| .q 11 <| .q 12 <| .q 13 <| .q 14 <| .q 15 <| .q 16 <| .q 17 <| .q 18 <| .q 19 <| .q 20 <| .e 21 <| .q 22 <| .e 23 <| .nil);exact Tryz.mixed;decide +kernel)|(apply G.s1n (n:=0);rfl;rfl;rfl;exact rfl;exact ⟨rfl,rfl⟩;exact l1;exact r1)|(apply G.s1n (n:=0);rfl;rfl;rfl;exact rfl;exact ⟨rfl,rfl⟩;exact l2;exact r2)|(apply G.cV (d:=35) (g:=185);rfl;rfl;exact fun w' _=>hle w')|(apply G.cV (d:=51) (g:=185);rfl;rfl;exact fun w' _=>hle2 w')|(apply J.regQ;exact Tryz.mixed;decide +kernel)|(apply J.regL';exact Tryz.mixed;decide +kernel))<;>(refine goR ?_;and_intros<;>(try exact trivial)<;>repeat (first|refine fun (Bk:Nat)=>?_|intro h)))
   rw [show (2*(r:Int)+1+1)=((2*r+2:Nat):Int) by omega]
   exact J.fin ih
  ·have hd:=v2.done fun c h2 h3=>Int.le_trans (hs c h2 h3) (by omega)
   rw [decide_eq_false hC] at hle2
   clear ih v2 hs
   have hB1:=hB.1
   clear hB
   generalize T.getD (f+r) 0=x at hle2 q1
   generalize T.getD (f+(2*r+1)) 0=y at hle q2
   generalize T.getD (f+(2*r+2)) 0=z at hle hle2 q3
   all_goals (refine goR ?_;and_intros<;>(try exact trivial)<;>repeat (first|refine fun (Bk:Nat)=>?_|intro h))
   repeat' ((first|(apply G.ld;rfl;(apply LdV.one;exact CellV.blk (by exact mm) q1);rfl)|(apply G.ld;rfl;(apply LdV.one;exact CellV.blk (by exact mm) q2);rfl)|(apply G.ld;rfl;(apply LdV.one;exact CellV.blk (by exact mm) q3);rfl)|(apply J.regA (.q 0 <| .q 1 <| .q 2 <| .q 3 <| .q 4 <| .q 5 <| .q 6 <| .q 7 <| .q 8 <| .q 9 <| .q 10 <| .q 11 <| .q 12 <| .q 13 <| .q 14 <| .q 15 <| .q 16 <| .q 17 <| .q 18 <| .q 19 <| .nil);exact Tryz.mixed;decide +kernel)|(apply J.regA (.q 0 <| .q 1 <| .q 2 <| .q 3 <| .q 4 <| .q 5 <| .q 6 <| .q 7 <| .q 8 <| .q 9 <| .q 10 <| .q 11 <| .q 12 <| .q 13 <| .nil);exact Tryz.mixed;decide +kernel)|(apply G.ix (i:=f+r);rfl;rfl;omega;omega;rfl)|(apply G.ix (i:=f+(2*r+1));rfl;rfl;omega;omega;rfl)|(apply G.ix (i:=f+(2*r+2));rfl;rfl;omega;omega;rfl)|(apply G.cV (d:=35) (g:=185);rfl;rfl;exact fun w' _=>hle w')|(apply G.cV (d:=51) (g:=185);rfl;rfl;exact fun w' _=>hle2 w')|(apply J.regQ;exact Tryz.mixed;decide +kernel)|(apply J.regL';exact Tryz.mixed;decide +kernel))<;>(refine goR ?_;and_intros<;>(try exact trivial)<;>repeat (first|refine fun (Bk:Nat)=>?_|intro h)))
   refine ret0 Tryz.func194 Tryz.results194 ?_
   exact fun w' hw'=>⟨T,rfl,⟨v1,hd⟩,hw'⟩
 ·have hle2:=fun w'=>lessI_holds (T.getD (f+r) 0) (T.getD (f+(2*r+1)) 0) w'
  have hs:∀ c,Chd r c→c < hi→T.getD (f+c) 0≤T.getD (f+(2*r+1)) 0:=fun c h2 h3=>by
   rcases h2 with rfl|rfl
   ·exact Int.le_refl _
   ·exact Int.not_lt.1 fun h=>hB ⟨h3,h⟩
  have hq3:2*r+2 < hi→(flat isV T)[0+(f+(2*r+2))*1]?=some (.int .i64 (T.getD (f+(2*r+2)) 0)):=fun h=>gI (by omega)
  have hle:=fun (h:2*r+2 < hi) w'=>by
   have:=lessI_holds (T.getD (f+(2*r+1)) 0) (T.getD (f+(2*r+2)) 0) w'
   rw [decide_eq_false fun h2=>hB ⟨h,h2⟩] at this
   exact this
  by_cases hC:T.getD (f+r) 0 < T.getD (f+(2*r+1)) 0
  ·have v3:=v2.step h1.1 (.inl rfl) hA (by omega) hC hs
   have w3:=v1.trans (WP.swp (S:=T) (a:=f) (b:=f+hi) (x:=f+r) (y:=f+(2*r+1)) ⟨by omega,by omega⟩ ⟨by omega,by omega⟩ (by omega))
   have ih:=ih (2*r+1,_) ⟨⟨by dsimp only;omega,by dsimp only;omega⟩,w3,v3⟩ (by dsimp only;omega)
   have r1:=sI (S:=T) (j:=f+r) (v:=T.getD (f+(2*r+1)) 0) (by omega)
   have r2:=sI (S:=T.set (f+r) (T.getD (f+(2*r+1)) 0)) (j:=f+(2*r+1)) (v:=T.getD (f+r) 0) (by rw [List.length_set];omega)
   have l1:0+(f+r)*1 < (flat isV T).length:=by rw [isLen];omega
   have l2:0+(f+(2*r+1))*1 < (flat isV (T.set (f+r) (T.getD (f+(2*r+1)) 0))).length:=by rw [isLen,List.length_set];omega
   rw [decide_eq_true hC] at hle2
   dsimp only [swp] at ih
   clear v1 v2 v3 w3 hs hB hC
   generalize T.getD (f+r) 0=x at *
   generalize T.getD (f+(2*r+1)) 0=y at *
   generalize T.getD (f+(2*r+2)) 0=z at *
   generalize T.set (f+r) y=S3 at *
   generalize S3.set (f+(2*r+1)) x=S4 at *
   by_cases hD:2*r+2 < hi
   ·have q3:=hq3 hD
    have hle:=hle hD
    all_goals (refine goR ?_;and_intros<;>(try exact trivial)<;>repeat (first|refine fun (Bk:Nat)=>?_|intro h))
    repeat' ((first|(apply G.ld;rfl;(apply LdV.one;exact CellV.blk (by exact mm) q1);rfl)|(apply G.ld;rfl;(apply LdV.one;exact CellV.blk (by exact mm) q2);rfl)|(apply G.ld;rfl;(apply LdV.one;exact CellV.blk (by exact mm) q3);rfl)|(apply J.regA (.q 0 <| .q 1 <| .q 2 <| .q 3 <| .q 4 <| .q 5 <| .q 6 <| .q 7 <| .q 8 <| .q 9 <| .q 10 <| .q 11 <| .q 12 <| .q 13 <| .q 14 <| .q 15 <| .q 16 <| .q 17 <| .q 18 <| .q 19 <| .nil);exact Tryz.mixed;decide +kernel)|(apply J.regA (.q 0 <| .q 1 <| .q 2 <| .q 3 <| .q 4 <| .q 5 <| .q 6 <| .q 7 <| .q 8 <| .q 9 <| .q 10 <| .q 11 <| .q 12 <| .q 13 <| .nil);exact Tryz.mixed;decide +kernel)|(apply G.ix (i:=f+r);rfl;rfl;omega;omega;rfl)|(apply G.ix (i:=f+(2*r+1));rfl;rfl;omega;omega;rfl)|(apply G.ix (i:=f+(2*r+2));rfl;rfl;omega;omega;rfl)|(apply J.regX 0 [4,5,6,7] (.q 0 <| .q 1 <| .q 2 <| .q 3 <| .q 4 <| .q 5 <| .q 6 <| .q 7 <| .q 8 <| .q 9 <| .q 10 <| .q 11 <| .q 12 <| .q 13 <| .q 14 <| .q 15 <| .q 16 <| .q 17 <| .q 18 <| .q 19 <| .q 20 <| .e 21 <| .q 22 <| .e 23 <| .nil);exact Tryz.mixed;decide +kernel)|(apply G.s1n (n:=0);rfl;rfl;rfl;exact rfl;exact ⟨rfl,rfl⟩;exact l1;exact r1)|(apply G.s1n (n:=0);rfl;rfl;rfl;exact rfl;exact ⟨rfl,rfl⟩;exact l2;exact r2)|(apply G.cV (d:=35) (g:=185);rfl;rfl;exact fun w' _=>hle w')|(apply G.cV (d:=51) (g:=185);rfl;rfl;exact fun w' _=>hle2 w')|(apply J.regQ;exact Tryz.mixed;decide +kernel)|(apply J.regL';exact Tryz.mixed;decide +kernel))<;>(refine goR ?_;and_intros<;>(try exact trivial)<;>repeat (first|refine fun (Bk:Nat)=>?_|intro h)))
    rw [show (2*(r:Int)+1)=((2*r+1:Nat):Int) by omega]
    exact J.fin ih
   ·skip
    all_goals (refine goR ?_;and_intros<;>(try exact trivial)<;>repeat (first|refine fun (Bk:Nat)=>?_|intro h))
    repeat' ((first|(apply G.ld;rfl;(apply LdV.one;exact CellV.blk (by exact mm) q1);rfl)|(apply G.ld;rfl;(apply LdV.one;exact CellV.blk (by exact mm) q2);rfl)|(apply J.regA (.q 0 <| .q 1 <| .q 2 <| .q 3 <| .q 4 <| .q 5 <| .q 6 <| .q 7 <| .q 8 <| .q 9 <| .q 10 <| .q 11 <| .q 12 <| .q 13 <| .q 14 <| .q 15 <| .q 16 <| .q 17 <| .q 18 <| .q 19 <| .nil);exact Tryz.mixed;decide +kernel)|(apply J.regA (.q 0 <| .q 1 <| .q 2 <| .q 3 <| .q 4 <| .q 5 <| .q 6 <| .q 7 <| .q 8 <| .q 9 <| .q 10 <| .q 11 <| .q 12 <| .q 13 <| .nil);exact Tryz.mixed;decide +kernel)|(apply G.ix (i:=f+r);rfl;rfl;omega;omega;rfl)|(apply G.ix (i:=f+(2*r+1));rfl;rfl;omega;omega;rfl)|(apply G.ix (i:=f+(2*r+2));rfl;rfl;omega;omega;rfl)|(apply J.regX 0 [4,5,6,7] (.q 0 <| .q 1 <| .q 2 <| .q 3 <| .q 4 <| .q 5 <| .q 6 <| .q 7 <| .q 8 <| .q 9 <| .q 10 <| .q 11 <| .q 12 <| .q 13 <| .q 14 <| .q 15 <| .q 16 <| .q 17 <| .q 18 <| .q 19 <| .q 20 <| .e 21 <| .q 22 <| .e 23 <| .nil);exact Tryz.mixed;decide +kernel)|(apply G.s1n (n:=0);rfl;rfl;rfl;exact rfl;exact ⟨rfl,rfl⟩;exact l1;exact r1)|(apply G.s1n (n:=0);rfl;rfl;rfl;exact rfl;exact ⟨rfl,rfl⟩;exact l2;exact r2)|(apply G.cV (d:=51) (g:=185);rfl;rfl;exact fun w' _=>hle2 w')|(apply J.regQ;exact Tryz.mixed;decide +kernel)|(apply J.regL';exact Tryz.mixed;decide +kernel))<;>(refine goR ?_;and_intros<;>(try exact trivial)<;>repeat (first|refine fun (Bk:Nat)=>?_|intro h)))
    rw [show (2*(r:Int)+1)=((2*r+1:Nat):Int) by omega]
    exact J.fin ih
  ·have hd:=v2.done fun c h2 h3=>Int.le_trans (hs c h2 h3) (by omega)
   rw [decide_eq_false hC] at hle2
   clear ih v2 hs hB hC
   generalize T.getD (f+r) 0=x at hle2 q1
   generalize T.getD (f+(2*r+1)) 0=y at hle hle2 q2
   generalize T.getD (f+(2*r+2)) 0=z at hle hq3
   by_cases hD:2*r+2 < hi
   ·have q3:=hq3 hD
    have hle:=hle hD
    all_goals (refine goR ?_;and_intros<;>(try exact trivial)<;>repeat (first|refine fun (Bk:Nat)=>?_|intro h))
    repeat' ((first|(apply G.ld;rfl;(apply LdV.one;exact CellV.blk (by exact mm) q1);rfl)|(apply G.ld;rfl;(apply LdV.one;exact CellV.blk (by exact mm) q2);rfl)|(apply G.ld;rfl;(apply LdV.one;exact CellV.blk (by exact mm) q3);rfl)|(apply J.regA (.q 0 <| .q 1 <| .q 2 <| .q 3 <| .q 4 <| .q 5 <| .q 6 <| .q 7 <| .q 8 <| .q 9 <| .q 10 <| .q 11 <| .q 12 <| .q 13 <| .q 14 <| .q 15 <| .q 16 <| .q 17 <| .q 18 <| .q 19 <| .nil);exact Tryz.mixed;decide +kernel)|(apply J.regA (.q 0 <| .q 1 <| .q 2 <| .q 3 <| .q 4 <| .q 5 <| .q 6 <| .q 7 <| .q 8 <| .q 9 <| .q 10 <| .q 11 <| .q 12 <| .q 13 <| .nil);exact Tryz.mixed;decide +kernel)|(apply G.ix (i:=f+r);rfl;rfl;omega;omega;rfl)|(apply G.ix (i:=f+(2*r+1));rfl;rfl;omega;omega;rfl)|(apply G.ix (i:=f+(2*r+2));rfl;rfl;omega;omega;rfl)|(apply G.cV (d:=35) (g:=185);rfl;rfl;exact fun w' _=>hle w')|(apply G.cV (d:=51) (g:=185);rfl;rfl;exact fun w' _=>hle2 w')|(apply J.regQ;exact Tryz.mixed;decide +kernel)|(apply J.regL';exact Tryz.mixed;decide +kernel))<;>(refine goR ?_;and_intros<;>(try exact trivial)<;>repeat (first|refine fun (Bk:Nat)=>?_|intro h)))
    refine ret0 Tryz.func194 Tryz.results194 ?_
    exact fun w' hw'=>⟨T,rfl,⟨v1,hd⟩,hw'⟩
   ·skip
    all_goals (refine goR ?_;and_intros<;>(try exact trivial)<;>repeat (first|refine fun (Bk:Nat)=>?_|intro h))
    repeat' ((first|(apply G.ld;rfl;(apply LdV.one;exact CellV.blk (by exact mm) q1);rfl)|(apply G.ld;rfl;(apply LdV.one;exact CellV.blk (by exact mm) q2);rfl)|(apply J.regA (.q 0 <| .q 1 <| .q 2 <| .q 3 <| .q 4 <| .q 5 <| .q 6 <| .q 7 <| .q 8 <| .q 9 <| .q 10 <| .q 11 <| .q 12 <| .q 13 <| .q 14 <| .q 15 <| .q 16 <| .q 17 <| .q 18 <| .q 19 <| .nil);exact Tryz.mixed;decide +kernel)|(apply J.regA (.q 0 <| .q 1 <| .q 2 <| .q 3 <| .q 4 <| .q 5 <| .q 6 <| .q 7 <| .q 8 <| .q 9 <| .q 10 <| .q 11 <| .q 12 <| .q 13 <| .nil);exact Tryz.mixed;decide +kernel)|(apply G.ix (i:=f+r);rfl;rfl;omega;omega;rfl)|(apply G.ix (i:=f+(2*r+1));rfl;rfl;omega;omega;rfl)|(apply G.ix (i:=f+(2*r+2));rfl;rfl;omega;omega;rfl)|(apply G.cV (d:=51) (g:=185);rfl;rfl;exact fun w' _=>hle2 w')|(apply J.regQ;exact Tryz.mixed;decide +kernel)|(apply J.regL';exact Tryz.mixed;decide +kernel))<;>(refine goR ?_;and_intros<;>(try exact trivial)<;>repeat (first|refine fun (Bk:Nat)=>?_|intro h)))
    refine ret0 Tryz.func194 Tryz.results194 ?_
    exact fun w' hw'=>⟨T,rfl,⟨v1,hd⟩,hw'⟩
end Go.Proofs.YtcdgibkbbcekhaaGreatDoor
/-
 Contracts: the heap sort of the library.
-/
namespace Go.Proofs.YtcdgibkbbcekhaaGreatDoor
open Go.RowKit Go.Sl Go.Num
structure HeapI (T:List Int) (a k hi:Nat):Prop where
 hp:Hp T a 0 k
 so:Srt T (a+k) (a+hi)
 se:∀ x y,x < k→k≤y→y < hi→T.getD (a+x) 0≤T.getD (a+y) 0
theorem HeapI.swap {T:List Int}{a j hi:Nat} (h:HeapI T a (j+1) hi) (hj:j < hi) (hb:a+hi≤T.length):Hp (swp T a (a+j)) a 1 j:=fun r c h1 h2 h3=>by
 have hrc:r < c:=by unfold Chd at h2;omega
 rw [swp_at (by omega) (by omega),swp_at (by omega) (by omega),if_neg (by omega),if_neg (by omega),if_neg (by omega),if_neg (by omega)]
 exact h.hp r c (Nat.zero_le _) h2 (by omega)
theorem HeapI.step {T U:List Int}{a j hi:Nat} (h:HeapI T a (j+1) hi) (hj:j < hi) (hb:a+hi≤T.length) (hw:WP (swp T a (a+j)) a (a+j) U) (hU:Hp U a 0 j):HeapI U a j hi:=by
 have e:∀ z,j < z→U.getD (a+z) 0=T.getD (a+z) 0:=fun z hz=>by
  rw [hw.out _ (.inr (by omega))]
  by_cases hz2:a+z < T.length
  ·rw [swp_at (by omega) (by omega),if_neg (by omega),if_neg (by omega)]
  ·rw [List.getD_eq_getElem?_getD,List.getD_eq_getElem?_getD,List.getElem?_eq_none (by rw [swp_len];omega),List.getElem?_eq_none (by omega)]
 have ej:U.getD (a+j) 0=T.getD a 0:=by
  rw [hw.out _ (.inr (by omega)),swp_at (by omega) (by omega)]
  split
  ·rename_i h0;rw [show a+j=a by omega]
  ·rw [if_pos rfl]
 have top:=fun c (hc:c < j+1)=>h.hp.top (j+1) c (by omega) hc
 have hx:∀ z,a≤z→z < a+j→U.getD z 0≤T.getD a 0:=hw.all (by rw [swp_len];omega) (P:=fun x=>x≤T.getD a 0) fun z h1 h2=>by
  obtain ⟨c,rfl⟩:∃ c,z=a+c:=⟨z-a,by omega⟩
  show (swp T a (a+j)).getD (a+c) 0≤T.getD a 0
  rw [swp_at (by omega) (by omega)]
  split
  ·exact top j (by omega)
  ·split
   ·exact Int.le_refl _
   ·exact top c (by omega)
 have hxs:∀ z,a≤z→z < a+j→∀ y,j < y→y < hi→U.getD z 0≤T.getD (a+y) 0:=fun z h1 h2 y h3 h4=>by
  have:=h.se 0 y (by omega) (by omega) h4
  exact Int.le_trans (hx z h1 h2) this
 refine ⟨hU,fun x y h1 h2 h3=>?_,fun x y h1 h2 h3=>?_⟩
 ·obtain ⟨y,rfl⟩:∃ c,y=a+c:=⟨y-a,by omega⟩
  obtain ⟨x,rfl⟩:∃ c,x=a+c:=⟨x-a,by omega⟩
  rw [e y (by omega)]
  by_cases hxj:x=j
  ·subst hxj;rw [ej];exact h.se 0 y (by omega) (by omega) (by omega)
  ·rw [e x (by omega)];exact h.so (a+x) (a+y) (by omega) h2 h3
 ·by_cases hyj:y=j
  ·subst hyj;rw [ej];exact hx _ (by omega) (by omega)
  ·rw [e y (by omega)];exact hxs _ (by omega) (by omega) y (by omega) h3
set_option maxHeartbeats 4000000 in
theorem heapSort_holds (w0:World) (M:List Row) (w:World) (g tot n cp:Nat) (S:List Int) (a hi:Nat) (hw:Sat w0 (.blk g 3 (flat isV S) tot::M) w) (hb:a+hi≤n) (hn:n=S.length) (hl:n≤1000000000) (h0:0 < hi) :
  Calls Tryz.prog 180 #[.slice (some ⟨g,0,none⟩) n cp,.int .i64 a,.int .i64 ((a+hi:Nat):Int)] w fun e w'=>∃ S',e=.returned (.tuple #[])∧(WP S a (a+hi) S'∧Srt S' a (a+hi))∧Sat w0 (.blk g 3 (flat isV S') tot::M) w':=by
 refine enterR [(0,.slice (some ⟨g,0,none⟩) n cp),(1,.int .i64 a),(2,.int .i64 ((a+hi:Nat):Int))] hw Tryz.func180 Tryz.ntmps180 ?_
 all_goals (refine go ?_;and_intros<;>(try exact trivial)<;>repeat (first|refine fun (Bk:Nat)=>?_|intro h))
 rw [show (((a+hi:Nat):Int)-a)=((hi:Nat):Int) by omega,show ((hi:Int)-1) / 2=(((hi-1) / 2+1:Nat):Int)-1 by omega]
 refine J.loop (c:=_) (((hi-1) / 2+1,S):Nat×List Int) (fun s=>s.1) (fun s=>[(0,.slice (some ⟨g,0,none⟩) n cp),(6,.int .i64 a),(7,.int .i64 0),(8,.int .i64 hi),(9,.int .i64 ((s.1:Int)-1))]) (fun s=>.blk g 3 (flat isV s.2) tot::M) (fun s=>s.1≤(hi-1) / 2+1∧WP S a (a+hi) s.2∧Hp s.2 a s.1 hi) ?_ sbT sbL ?_
 ·exact ⟨Nat.le_refl _,WP.refl _ _ _,fun r c h1 h2 h3=>by unfold Chd at h2;dsimp only at h1;omega⟩
 intro ⟨k,T⟩ ⟨k1,v1,v2⟩ ih
 dsimp only at k1 v1 v2 ⊢
 have hlt:=v1.len
 by_cases hk:0 < k
 ·obtain ⟨j,rfl⟩:∃ j,k=j+1:=⟨k-1,by omega⟩
  rw [show ((j+1:Nat):Int)-1=(j:Int) by omega]
  all_goals (refine go ?_;and_intros<;>(try exact trivial)<;>repeat (first|refine fun (Bk:Nat)=>?_|intro h))
  repeat' ((first|(refine G.cP (g:=194) (X:={ S' // WP T a (a+hi) S'∧Hp S' a j hi }) (fun _=>.tuple #[]) [.blk g 3 (flat isV T) tot] (fun x=>[.blk g 3 (flat isV x.1) tot]) rfl rfl (by (repeat (first|exact List.Perm.refl _|(refine pickT (by (repeat (first|exact Pick.head|apply Pick.tail))) ?_)))) ?_ ?_;exact fun w' hw'=>(siftDown_holds _ _ w' g tot n cp T a j hi hw' hb (by omega) hl (by omega) v2).mono fun e w2 ⟨S',h1,h2,h3⟩=>⟨⟨S',h2⟩,h1,h3⟩;rintro ⟨U,u1,u2⟩;dsimp only))<;>(refine go ?_;and_intros<;>(try exact trivial)<;>repeat (first|refine fun (Bk:Nat)=>?_|intro h)))
  exact J.fin (ih (j,U) ⟨by dsimp only;omega,v1.trans u1,u2⟩ (by dsimp only;omega))
 obtain rfl:k=0:=by omega
 clear ih
 all_goals (refine go ?_;and_intros<;>(try exact trivial)<;>repeat (first|refine fun (Bk:Nat)=>?_|intro h))
 have hI:HeapI T a hi hi:=⟨v2,fun x y h1 h2 h3=>by omega,fun x y h1 h2 h3=>by omega⟩
 refine J.loop (c:=_) ((hi,T):Nat×List Int) (fun s=>s.1) (fun s=>[(0,.slice (some ⟨g,0,none⟩) n cp),(6,.int .i64 a),(7,.int .i64 0),(10,.int .i64 ((s.1:Int)-1))]) (fun s=>.blk g 3 (flat isV s.2) tot::M) (fun s=>s.1≤hi∧WP S a (a+hi) s.2∧HeapI s.2 a s.1 hi) ?_ sbT sbL ?_
 ·exact ⟨Nat.le_refl _,v1,hI⟩
 clear v1 v2 hI hlt hk k1
 intro ⟨k,T⟩ ⟨k1,v1,v2⟩ ih
 dsimp only at k1 v1 v2 ⊢
 have hlt:=v1.len
 by_cases hk:0 < k
 ·obtain ⟨j,rfl⟩:∃ j,k=j+1:=⟨k-1,by omega⟩
  rw [show ((j+1:Nat):Int)-1=(j:Int) by omega]
  have hsw:=v2.swap (by omega) (by omega)
  have hst:=fun U (h1:WP (swp T a (a+j)) a (a+j) U) (h2:Hp U a 0 j)=>v2.step (by omega) (by omega) h1 h2
  have w2:=WP.swp (S:=T) (a:=a) (b:=a+hi) (x:=a) (y:=a+j) ⟨by omega,by omega⟩ ⟨by omega,by omega⟩ (by omega)
  have ih:=fun U h1 h2=>ih (j,U) ⟨by dsimp only;omega,v1.trans (w2.trans (h1.mono (Nat.le_refl _) (by omega))),hst U h1 h2⟩ (by dsimp only;omega)
  have hsl:(swp T a (a+j)).length=T.length:=swp_len _ _ _
  have q1:=gI (S:=T) (j:=a) (by omega)
  have q2:=gI (S:=T) (j:=a+j) (by omega)
  have r1:=sI (S:=T) (j:=a) (v:=T.getD (a+j) 0) (by omega)
  have r2:=sI (S:=T.set a (T.getD (a+j) 0)) (j:=a+j) (v:=T.getD a 0) (by rw [List.length_set];omega)
  have l1:0+a*1 < (flat isV T).length:=by rw [isLen];omega
  have l2:0+(a+j)*1 < (flat isV (T.set a (T.getD (a+j) 0))).length:=by rw [isLen,List.length_set];omega
  clear v1 v2 w2 hst
  dsimp only [swp] at ih hsw hsl
  generalize T.getD a 0=x at *
  generalize T.getD (a+j) 0=y at *
  generalize T.set a y=S3 at *
  generalize S3.set (a+j) x=S4 at *
  all_goals (refine goR ?_;and_intros<;>(try exact trivial)<;>repeat (first|refine fun (Bk:Nat)=>?_|intro h))
  repeat' ((first|(apply G.ld;rfl;(apply LdV.one;exact CellV.blk (by exact mm) q1);rfl)|(apply G.ld;rfl;(apply LdV.one;exact CellV.blk (by exact mm) q2);rfl)|(apply J.regX 0 [2,3,4,5] (.q 0 <| .q 1 <| .q 2 <| .q 3 <| .q 4 <| .q 5 <| .q 6 <| .q 7 <| .q 8 <| .q 9 <| .q 10 <| .q 11 <| .q 12 <| .q 13 <| .q 14 <| .q 15 <| .q 16 <| .e 17 <| .q 18 <| .e 19 <| .nil);exact Tryz.mixed;decide +kernel)|(apply G.s1n (n:=0);rfl;rfl;rfl;exact rfl;exact ⟨rfl,rfl⟩;exact l1;exact r1)|(apply G.s1n (n:=0);rfl;rfl;rfl;exact rfl;exact ⟨rfl,rfl⟩;exact l2;exact r2)|(apply G.ix (i:=a+j);rfl;rfl;omega;omega;rfl)|(apply J.regQ;exact Tryz.mixed;decide +kernel)|(apply J.regL';exact Tryz.mixed;decide +kernel))<;>(refine goR ?_;and_intros<;>(try exact trivial)<;>repeat (first|refine fun (Bk:Nat)=>?_|intro h)))
  dsimp only [List.set]
  all_goals (refine go ?_;and_intros<;>(try exact trivial)<;>repeat (first|refine fun (Bk:Nat)=>?_|intro h))
  repeat' ((first|(refine G.cP (g:=194) (X:={ S' // WP S4 a (a+j) S'∧Hp S' a 0 j }) (fun _=>.tuple #[]) [.blk g 3 (flat isV S4) tot] (fun x=>[.blk g 3 (flat isV x.1) tot]) rfl rfl (by (repeat (first|exact List.Perm.refl _|(refine pickT (by (repeat (first|exact Pick.head|apply Pick.tail))) ?_)))) ?_ ?_;exact fun w' hw'=>(siftDown_holds _ _ w' g tot n cp S4 a 0 j hw' (by omega) (by omega) hl (by omega) hsw).mono fun e w2 ⟨S',h1,h2,h3⟩=>⟨⟨S',h2⟩,h1,h3⟩;rintro ⟨U,u1,u2⟩;dsimp only))<;>(refine go ?_;and_intros<;>(try exact trivial)<;>repeat (first|refine fun (Bk:Nat)=>?_|intro h)))
  exact J.fin (ih U u1 u2)
 obtain rfl:k=0:=by omega
 clear ih
 have hso:=v2.so
 all_goals (refine go ?_;and_intros<;>(try exact trivial)<;>repeat (first|refine fun (Bk:Nat)=>?_|intro h))
 first
  | (refine end0 Tryz.func180 Tryz.results180 ?_;exact fun w' hw'=>⟨T,rfl,⟨v1,hso⟩,hw'⟩)
  | (refine ret0 Tryz.func180 Tryz.results180 ?_;exact fun w' hw'=>⟨T,rfl,⟨v1,hso⟩,hw'⟩)
end Go.Proofs.YtcdgibkbbcekhaaGreatDoor
/-
 Unsigned words,whatever they are;the random numbers of the library's sort.
-/
namespace Go.Sl
open Go.RowKit
variable {C:Ctx}{st:List (Nat×Value)}{M:List Row}{k:List Item}{q q':Md}{all rest:List Oper}{d:Nat}{ty:TypeId}{pos:String}{after:Array Edge}{gd:Option (Nat×Bool)}
theorem wrapU (z:Int):∃ m:Nat,m < 18446744073709551616∧IntKind.u64.wrap z=(m:Int):=by
 refine ⟨(z % 18446744073709551616).toNat,by omega,?_⟩
 simp [IntKind.wrap,IntKind.bits,IntKind.signed];omega
theorem G.xorU {t:TypeId}{x y:Operand}{yt:TypeId}{a b:Int} (hx:evS st x=some (.int .u64 a)) (hy:evS st y=some (.int .u64 b)) (hs:sideB all st gd d C.N q.calm=some q') (h:∀ m:Nat,m < 18446744073709551616→G q' C all ((d,.int .u64 m)::st) M rest k) :
  G q C all st M ({ dst:=some d,op:=.binOp .xor t x y yt,type:=ty,pos,after,guard:=gd }::rest) k:=by
 obtain ⟨g1,g2,g3⟩:=sideB_ok hs
 obtain ⟨m,h1,h2⟩:=wrapU ((BitVec.ofInt IntKind.u64.bits a ^^^ BitVec.ofInt IntKind.u64.bits b).toNat:Int)
 refine G.op (OpV.bin hx hy fun w=>?_) g1 rfl g2 g3 (h m h1)
 rw [← h2];rfl
theorem G.shlU {t:TypeId}{x y:Operand}{yt:TypeId}{k2:IntKind}{a b:Int}{n:Nat} (hx:evS st x=some (.int .u64 a)) (hy:evS st y=some (.int k2 b)) (hn:b=(n:Int)) (hs:sideB all st gd d C.N q.calm=some q') (h:∀ m:Nat,m < 18446744073709551616→G q' C all ((d,.int .u64 m)::st) M rest k) :
  G q C all st M ({ dst:=some d,op:=.binOp .shl t x y yt,type:=ty,pos,after,guard:=gd }::rest) k:=by
 obtain ⟨g1,g2,g3⟩:=sideB_ok hs
 obtain ⟨m,h1,h2⟩:=wrapU (a*2 ^ (min n IntKind.u64.bits))
 exact G.shlK hx hy hn h2 g1 g2 g3 (h m h1)
theorem G.shrU {t:TypeId}{x y:Operand}{yt:TypeId}{k2:IntKind}{a:Nat}{b:Int}{n:Nat} (hx:evS st x=some (.int .u64 (a:Int))) (hy:evS st y=some (.int k2 b)) (hn:b=(n:Int)) (ha:a < 18446744073709551616) (hs:sideB all st gd d C.N q.calm=some q') (h:∀ m:Nat,m < 18446744073709551616→G q' C all ((d,.int .u64 m)::st) M rest k) :
  G q C all st M ({ dst:=some d,op:=.binOp .shr t x y yt,type:=ty,pos,after,guard:=gd }::rest) k:=by
 obtain ⟨g1,g2,g3⟩:=sideB_ok hs
 refine G.shrK hx hy hn (m:=((a / 2 ^ (min n IntKind.u64.bits):Nat):Int)) ?_ g1 g2 g3 (h _ (Nat.lt_of_le_of_lt (Nat.div_le_self _ _) ha))
 rw [Int.fdiv_eq_ediv_of_nonneg _ (Int.le_of_lt (Int.pow_pos (by decide)))];rfl
end Go.Sl
namespace Go.Proofs.YtcdgibkbbcekhaaGreatDoor
open Go.RowKit Go.Sl Go.Num
theorem next_holds (w0:World) (M:List Row) (w:World) (br v:Nat) (hw:Sat w0 (.blk br 240 [.int .u64 (v:Nat)] 1::M) w) (hv:v < 18446744073709551616) :
  Calls Tryz.prog 196 #[.pointer (some ⟨br,0,none⟩)] w fun e w'=>∃ u z:Nat,(u < 18446744073709551616∧z < 18446744073709551616)∧e=.returned (.int .u64 z)∧Sat w0 (.blk br 240 [.int .u64 (u:Nat)] 1::M) w':=by
 refine enterR [(0,.pointer (some ⟨br,0,none⟩))] hw Tryz.func196 Tryz.ntmps196 ?_
 all_goals (refine goR ?_;and_intros<;>(try exact trivial)<;>repeat (first|refine fun (Bk:Nat)=>?_|intro h))
 repeat' ((first|(apply G.xorU;rfl;rfl;rfl;intro mx hmx)|(apply G.shlU (n:=13);rfl;rfl;rfl;rfl;intro my hmy)|(apply G.shlU (n:=17);rfl;rfl;rfl;rfl;intro mz hmz)|(apply G.shrU (n:=7);rfl;rfl;rfl;omega;rfl;intro mw hmw)|(apply J.regA (.q 0 <| .q 1 <| .q 2 <| .q 3 <| .q 4 <| .q 5 <| .q 6 <| .q 7 <| .q 8 <| .r 9 <| .nil);exact Tryz.mixed;decide +kernel)|(apply J.regQ;exact Tryz.mixed;decide +kernel)|(apply J.regL';exact Tryz.mixed;decide +kernel))<;>(refine goR ?_;and_intros<;>(try exact trivial)<;>repeat (first|refine fun (Bk:Nat)=>?_|intro h)))
 refine ret1 Tryz.func196 Tryz.results196 ?_
 intro w' hw'
 exact ⟨_,_,⟨hmx,hmx⟩,rfl,hw'⟩
end Go.Proofs.YtcdgibkbbcekhaaGreatDoor
