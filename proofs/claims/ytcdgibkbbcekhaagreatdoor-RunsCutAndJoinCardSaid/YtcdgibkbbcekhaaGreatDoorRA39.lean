/-
  The law RunsCutAsSpecified.
-/
import Derived.Test.YtcdgibkbbcekhaaGreatDoorRA33
import Derived.Test.YtcdgibkbbcekhaaGreatDoorRA37
set_option linter.unusedVariables false
set_option linter.unusedSimpArgs false
set_option linter.unusedSectionVars false
namespace Go.Proofs.YtcdgibkbbcekhaaGreatDoor
open Go.RowKit Go.Sl Go.Num
def TbLe (n:Nat) (l:List Rn):Prop:=∀ r∈l,r.tab.length≤n
theorem TbLe.app {n:Nat}{a b:List Rn} (h1:TbLe n a) (h2:TbLe n b):TbLe n (a++b):=fun r hr=>(List.mem_append.1 hr).elim (h1 r) (h2 r)
theorem TbLe.one {n:Nat}{x:Rn} (h:x.tab.length≤n):TbLe n [x]:=fun r hr=>by rw [List.mem_singleton.1 hr];exact h
theorem TbLe.nil {n:Nat}:TbLe n []:=fun r hr=>by cases hr
theorem TbLe.joinF {n:Nat} (hn:1≤n):∀ {l o:List Rn},TbLe n o→TbLe n l→TbLe n (joinF o l)
 | [],_,h,_=>h
 | x::l,o,ho,hl=>by
  rw [joinF_cons]
  refine TbLe.joinF hn ?_ fun r hr=>hl r (List.mem_cons_of_mem _ hr)
  have hx:=hl x (List.mem_cons_self ..)
  rcases nil_or_snoc o with rfl|⟨o,y,rfl⟩
  ·exact .one hx
  ·rw [putL_snoc]
   split
   ·refine TbLe.app (fun r hr=>ho r (List.mem_append_left _ hr)) (.one ?_)
    rw [jnR]
    dsimp only
    split
    ·exact Nat.zero_le _
    ·exact hn
   ·exact ho.app (.one hx)
theorem cutF_bd {n:Nat} (hn:1≤n) {at_:Int}:∀ {l:List Rn}{o p:List Rn×List Rn},TbLe n l→TbLe n o.1→TbLe n o.2→cutF at_ o l=some p→TbLe n p.1∧TbLe n p.2∧p.1.length≤o.1.length+l.length∧p.2.length≤o.2.length+l.length
 | [],o,p,_,h1,h2,h=>by
  rw [cutF] at h
  cases h
  exact ⟨h1,h2,Nat.le_refl _,Nat.le_refl _⟩
 | x::l,o,p,hl,h1,h2,h=>by
  have hx:=hl x (List.mem_cons_self ..)
  rw [cutF] at h
  cases hc:cutR at_ x with
  | none=>rw [hc] at h;cases h
  | some y =>
   rw [hc] at h
   have hy:TbLe n y.1∧TbLe n y.2∧y.1.length≤1∧y.2.length≤1:=by
    rw [cutR] at hc
    split at hc
    ·cases hc;exact ⟨.one hx,.nil,Nat.le_refl _,Nat.zero_le _⟩
    split at hc
    ·cases hc;exact ⟨.nil,.one hx,Nat.zero_le _,Nat.le_refl _⟩
    split at hc
    ·cases hc
    split at hc
    ·cases hc;exact ⟨.one hn,.one hn,Nat.le_refl _,Nat.le_refl _⟩
    ·cases hc;exact ⟨.one hx,.one hx,Nat.le_refl _,Nat.le_refl _⟩
   obtain ⟨q1,q2,q3,q4⟩:=cutF_bd hn (fun r hr=>hl r (List.mem_cons_of_mem _ hr)) (h1.app hy.1) (h2.app hy.2.1) h
   dsimp only at q3 q4
   rw [List.length_append] at q3 q4
   rw [List.length_cons]
   exact ⟨q1,q2,by omega,by omega⟩
theorem cutE_bd {n:Nat} (hn:1≤n) {at_:Int}{l:List Rn} (hl:TbLe n l):TbLe n (cutE' l at_).1.1∧TbLe n (cutE' l at_).1.2∧(cutE' l at_).1.1.length≤l.length∧(cutE' l at_).1.2.length≤l.length:=by
 rw [cutE']
 split
 ·exact ⟨.nil,.nil,Nat.zero_le _,Nat.zero_le _⟩
 split
 ·exact ⟨.nil,.nil,Nat.zero_le _,Nat.zero_le _⟩
 cases h:cutF at_ ([],[]) l with
 | none=>exact ⟨.nil,.nil,Nat.zero_le _,Nat.zero_le _⟩
 | some o =>
  have:=cutF_bd hn hl .nil .nil h
  simpa using this
theorem joinE_bd {n:Nat} (hn:1≤n) {a b:List Rn} (ha:TbLe n a) (hb:TbLe n b):TbLe n (joinE a b).1∧(joinE a b).1.length≤a.length+b.length:=by
 rw [joinE]
 split
 ·exact ⟨.nil,Nat.zero_le _⟩
 split
 ·exact ⟨.nil,Nat.zero_le _⟩
 split
 ·exact ⟨.nil,Nat.zero_le _⟩
 split
 ·exact ⟨.nil,Nat.zero_le _⟩
 split
 ·exact ⟨.nil,Nat.zero_le _⟩
 ·have:=joinL_len (a++b)
  rw [List.length_append] at this
  exact ⟨TbLe.joinF hn .nil (ha.app hb),this⟩
theorem smS_bd {f t a b:Int}{T:List (Int×Int)}{n:Nat} (hn:1≤n) (hT:T.length≤n):TbLe n (smS f t a b T)∧(smS f t a b T).length≤3:=by
 rw [smS]
 refine ⟨((TbLe.one hn).app ?_).app ?_,?_⟩
 ·split
  ·exact .one hT
  ·exact .nil
 ·split
  ·exact .one hn
  ·exact .nil
 ·rw [List.length_append,List.length_append]
  split<;>split<;>simp
theorem smF_bd:∀ (k:Nat) {o l X:List Rn},TbLe 1001 o→TbLe 1001 l→smF k o l=some X→TbLe 1001 X∧X.length≤o.length+3*k
 | 0,o,l,X,h1,_,h=>by cases h;exact ⟨h1,Nat.le_refl _⟩
 | k+1,o,l,X,h1,h2,h=>by
  have hd:∀ n,TbLe 1001 (l.drop n):=fun n r hr=>h2 r (List.mem_of_mem_drop hr)
  rw [smF] at h
  split at h
  ·cases h;exact ⟨h1,by omega⟩
  rename_i h0
  split at h
  ·have hh:(headD' l).tab.length≤1001:=by rename_i q;omega
   obtain ⟨q1,q2⟩:=smF_bd k (h1.app (.one hh)) (hd 1) h
   rw [List.length_append,List.length_singleton] at q2
   exact ⟨q1,by omega⟩
  ·cases hx:smOne (l.take (nst l)) with
   | none=>rw [hx] at h;cases h
   | some x =>
    rw [hx] at h
    have hxb:TbLe 1001 x∧x.length≤3:=by
     rw [smOne] at hx
     split at hx
     ·cases hx
      refine smS_bd (by decide) ?_
      have:=tabD_len ((List.range 1001).map fun s:Nat=>totC (l.take (nst l)) s-(if (s:Int)=stg (headD' (l.take (nst l))) then 1 else 0)-(if (s:Int)=stg (lastD (l.take (nst l))) then 1 else 0)) 0
      rw [List.length_map,List.length_range] at this
      exact this
     ·cases hx
    obtain ⟨q1,q2⟩:=smF_bd k (h1.app hxb.1) (hd _) h
    rw [List.length_append] at q2
    exact ⟨q1,by omega⟩
theorem sumE_bd {l:List Rn} (hl:TbLe 1001 l):TbLe 1001 (sumE l).1∧(sumE l).1.length≤3*l.length:=by
 rw [sumE]
 split
 ·exact ⟨.nil,Nat.zero_le _⟩
 cases h:smF l.length [] l with
 | none=>exact ⟨.nil,Nat.zero_le _⟩
 | some o =>
  obtain ⟨q1,q2⟩:=smF_bd _ .nil hl h
  have:=joinL_len o
  rw [List.length_nil,Nat.zero_add] at q2
  exact ⟨TbLe.joinF (by decide) .nil q1,Nat.le_trans this q2⟩
set_option maxHeartbeats 4000000 in
theorem runs2_holds (w:World) (a:Option Addr) (la:List Rn) (ca:Nat) (b:Option Addr) (lb:List Rn) (cb:Nat) (x:Int) (hA:RunsAt w a la) (hca:la.length≤ca) (hB:RunsAt w b lb) :
  Calls Tryz.prog 5 #[.slice a la.length ca,.slice b lb.length cb,.int .i64 x] w fun e w'=>e=.returned (.bool true)∧Below w.heap.size w w':=by
 have hfa:=fun w' (hb:Below w.heap.size w w')=>few16_holds a la ca w' (hA.below hb)
 have hfb:=fun w' (hb:Below w.heap.size w w')=>few16_holds b lb cb w' (hB.below hb)
 by_cases hfe:fewR 30 60 la
 case neg =>
  rw [decide_eq_false hfe] at hfa
  clear hfe
  refine enterA [(0,.slice a la.length ca),(1,.slice b lb.length cb),(2,.int .i64 x)] Tryz.func5 Tryz.ntmps5 ?_
  all_goals (refine go ?_;and_intros<;>(try exact trivial)<;>repeat (first|refine fun (Bk:Nat)=>?_|intro h))
  repeat' ((first|(apply G.cV (g:=19) (d:=22);rfl;rfl;exact fun w' hw'=>hfa w' hw'.below)|(apply G.cV (g:=19) (d:=26);rfl;rfl;exact fun w' hw'=>hfb w' hw'.below)|(apply G.cV (g:=20);rfl;rfl;exact fun w' _=>sanity16_holds w'))<;>(refine go ?_;and_intros<;>(try exact trivial)<;>repeat (first|refine fun (Bk:Nat)=>?_|intro h)))
  all_goals refine ret1b Tryz.func5 Tryz.results5 ?_
  all_goals rfl
 rw [decide_eq_true hfe] at hfa
 by_cases hfe2:fewR 30 60 lb
 case neg =>
  rw [decide_eq_false hfe2] at hfb
  clear hfe hfe2
  refine enterA [(0,.slice a la.length ca),(1,.slice b lb.length cb),(2,.int .i64 x)] Tryz.func5 Tryz.ntmps5 ?_
  all_goals (refine go ?_;and_intros<;>(try exact trivial)<;>repeat (first|refine fun (Bk:Nat)=>?_|intro h))
  repeat' ((first|(apply G.cV (g:=19) (d:=22);rfl;rfl;exact fun w' hw'=>hfa w' hw'.below)|(apply G.cV (g:=19) (d:=26);rfl;rfl;exact fun w' hw'=>hfb w' hw'.below)|(apply G.cV (g:=20);rfl;rfl;exact fun w' _=>sanity16_holds w'))<;>(refine go ?_;and_intros<;>(try exact trivial)<;>repeat (first|refine fun (Bk:Nat)=>?_|intro h)))
  all_goals refine ret1b Tryz.func5 Tryz.results5 ?_
  all_goals rfl
 rw [decide_eq_true hfe2] at hfb
 obtain ⟨hl,ht⟩:=few_ok hfe
 obtain ⟨hl2,ht2⟩:=few_ok hfe2
 clear hfe hfe2
 have HX:=fun w' (hb:Below w.heap.size w w')=>runCut_holds a la ca x w' (hA.below hb) ht (by omega)
 have RX:=fun w' (hb:Below w.heap.size w w')=>refCut_holds a la ca x w' (hA.below hb) ht (by omega)
 have HJ:=fun w' (hb:Below w.heap.size w w')=>vJoin_holds a la ca b lb cb w' (hA.below hb) (hB.below hb) ht ht2 (by omega) (by omega)
 have RJ:=fun w' (hb:Below w.heap.size w w')=>rJoin_holds a la ca b lb cb w' (hA.below hb) (hB.below hb) ht ht2 (by omega) (by omega)
 have HS:=fun w' (hb:Below w.heap.size w w')=>vSum_holds a la ca w' (hA.below hb) ht (by omega) hca
 have RS:=fun w' (hb:Below w.heap.size w w')=>rSum16_holds a la ca w' (hA.below hb) ht (by omega) hca
 have HF:=fun w' (hb:Below w.heap.size w w')=>vFin_holds a la ca b lb cb w' (hA.below hb) (hB.below hb) ht ht2 (by omega) (by omega)
 have RF:=fun w' (hb:Below w.heap.size w w')=>rFin_holds a la ca b lb cb w' (hA.below hb) (hB.below hb) ht ht2 (by omega) (by omega)
 obtain ⟨c1,c2,c3,c4⟩:=cutE_bd (n:=64) (by decide) (at_:=x) ht
 obtain ⟨j1,j2⟩:=joinE_bd (n:=64) (by decide) ht ht2
 obtain ⟨s1,s2⟩:=sumE_bd (l:=la) fun r hr=>Nat.le_trans (ht r hr) (by decide)
 generalize cutE' la x=cc at *
 obtain ⟨⟨XA,XB⟩,ex⟩:=cc
 generalize joinE la lb=jj at *
 obtain ⟨XJ,ej⟩:=jj
 generalize sumE la=ss at *
 obtain ⟨XS,es⟩:=ss
 generalize finE la lb=ff at *
 obtain ⟨fb,ef⟩:=ff
 dsimp only at *
 cases fb
 all_goals
  refine enterA [(0,.slice a la.length ca),(1,.slice b lb.length cb),(2,.int .i64 x)] Tryz.func5 Tryz.ntmps5 ?_
  refine J.tfamOld hA ?_
  refine J.tfamOld hB ?_
  refine J.tfamTo (o:=la) (l:=lb) (la++lb) mm mm (fun r hr=>List.mem_append.1 hr) ?_
  all_goals (refine go ?_;and_intros<;>(try exact trivial)<;>repeat (first|refine fun (Bk:Nat)=>?_|intro h))
  repeat' ((first|(apply G.cV (g:=19) (d:=22);rfl;rfl;exact fun w' hw'=>hfa w' hw'.below)|(apply G.cV (g:=19) (d:=26);rfl;rfl;exact fun w' hw'=>hfb w' hw'.below)|(refine G.cU2 (g:=33) (fun a' n c' b' m d'=>.tuple #[.slice a' n c',.slice b' m d',.int .i64 ex]) (fun A B=>A.map rbare=XA.map rbare∧B.map rbare=XB.map rbare) [] (.inl rfl) rfl rfl (fun w' hw'=>HX w' hw'.below) ?_;intro A1 aA1 cA1 B1 aB1 cB1 ⟨hA1,hB1⟩ _ _)|(refine G.cU (g:=34) (fun a' n c'=>.tuple #[.slice a' n c',.int .i64 ej]) (fun L=>L.map rbare=XJ.map rbare) [] (.inl rfl) rfl rfl (fun w' hw'=>HJ w' hw'.below) ?_;intro J1 aJ1 cJ1 hJ1 _ _)|(refine G.cU (g:=35) (fun a' n c'=>.tuple #[.slice a' n c',.int .i64 es]) (fun L=>L.map rbare=XS.map rbare) [] (.inl rfl) rfl rfl (fun w' hw'=>HS w' hw'.below) ?_;intro S1 aS1 cS1 hS1 _ _)|(apply G.cV (g:=36);rfl;rfl;exact fun w' hw'=>HF w' hw'.below)|(refine G.cU2 (g:=37) (fun a' n c' b' m d'=>.agg #[.slice a' n c',.slice b' m d',.int .i64 ex]) (fun A B=>A.map rbare=XA.map rbare∧B.map rbare=XB.map rbare) la (.inr mm) rfl rfl (fun w' hw'=>RX w' hw'.below) ?_;intro A2 aA2 cA2 B2 aB2 cB2 ⟨hA2,hB2⟩ _ _)|(refine G.cU (g:=38) (fun a' n c'=>.agg #[.slice a' n c',.int .i64 ej]) (fun L=>L.map rbare=XJ.map rbare) (la++lb) (.inr mm) rfl rfl (fun w' hw'=>RJ w' hw'.below) ?_;intro J2 aJ2 cJ2 hJ2 _ _)|(refine G.cU (g:=39) (fun a' n c'=>.agg #[.slice a' n c',.int .i64 es]) (fun L=>L.map rbare=XS.map rbare) la (.inr mm) rfl rfl (fun w' hw'=>RS w' hw'.below) ?_;intro S2 aS2 cS2 hS2 _ _)|(apply G.cV (g:=40);rfl;rfl;exact fun w' hw'=>RF w' hw'.below)|(apply G.cV (g:=20);rfl;rfl;exact fun w' _=>sanity16_holds w')|(apply G.cV (g:=29) (d:=68);rfl;rfl;exact fun w' hw'=>same_true aA1 aA2 A1 A2 _ _ _ _ w' (RunsAt.of hw') (RunsAt.of hw') (hA1.trans hA2.symm) rfl rfl (by rw [length_bare hA1];omega) (tabs_bare hA1 fun r hr=>Nat.le_trans (c1 r hr) (by decide)))|(apply G.cV (g:=29) (d:=73);rfl;rfl;exact fun w' hw'=>same_true aB1 aB2 B1 B2 _ _ _ _ w' (RunsAt.of hw') (RunsAt.of hw') (hB1.trans hB2.symm) rfl rfl (by rw [length_bare hB1];omega) (tabs_bare hB1 fun r hr=>Nat.le_trans (c2 r hr) (by decide)))|(apply G.cV (g:=29) (d:=85);rfl;rfl;exact fun w' hw'=>same_true aJ1 aJ2 J1 J2 _ _ _ _ w' (RunsAt.of hw') (RunsAt.of hw') (hJ1.trans hJ2.symm) rfl rfl (by rw [length_bare hJ1];omega) (tabs_bare hJ1 fun r hr=>Nat.le_trans (j1 r hr) (by decide)))|(apply G.cV (g:=29) (d:=101);rfl;rfl;exact fun w' hw'=>same_true aS1 aS2 S1 S2 _ _ _ _ w' (RunsAt.of hw') (RunsAt.of hw') (hS1.trans hS2.symm) rfl rfl (by rw [length_bare hS1];omega) (tabs_bare hS1 fun r hr=>Nat.le_trans (s1 r hr) (by decide))))<;>(refine go ?_;and_intros<;>(try exact trivial)<;>repeat (first|refine fun (Bk:Nat)=>?_|intro h)))
  all_goals refine ret1b Tryz.func5 Tryz.results5 ?_
  all_goals rfl
end Go.Proofs.YtcdgibkbbcekhaaGreatDoor
