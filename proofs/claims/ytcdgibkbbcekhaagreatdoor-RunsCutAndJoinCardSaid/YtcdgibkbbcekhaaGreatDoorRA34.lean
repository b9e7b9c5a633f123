/-
  Contracts: nat.Text, nat.Value.
-/
import Derived.Test.YtcdgibkbbcekhaaGreatDoorRA7
set_option linter.unusedVariables false
set_option linter.unusedSimpArgs false
set_option linter.unusedSectionVars false
namespace Go.Proofs.YtcdgibkbbcekhaaGreatDoor
open Go.RowKit Go.Sl Go.Num
def dec10 (n:Nat):List Nat:=(dgs 10 n).map (48+·)
def decT (n:Nat):List UInt8:=if n=0 then [48] else ((dec10 n).reverse).map UInt8.ofNat
theorem dec10_pos {n:Nat} (h:n≠0):dec10 n=(48+n % 10)::dec10 (n / 10):=by rw [dec10,dgs_pos (by decide) h];rfl
theorem dec10_lt (n:Nat):∀ d∈dec10 n,d < 256:=fun d hd=>by
 obtain ⟨x,hx,rfl⟩:=List.mem_map.1 hd
 have:=dgs_lt (b:=10) (by decide) n x hx
 show 48+x < 256
 omega
theorem dgs_le10 {n m:Nat} (h:n≤m):(dgs B32 n).length≤(dgs B32 m).length:=dgs_len_mono (by decide) h
theorem natText_holds (l:List UInt8) (w:World) (hl:l.length≤4000):Calls Tryz.prog 77 #[.string (bs l)] w fun e w'=>e=.returned (.string (bs (decT (vB l))))∧Below w.heap.size w w':=by
 have hn4:(dgs B32 (vB l)).length≤1073741824 :=
  Nat.le_trans (dgs_bound (by decide) l.length _ (Nat.lt_of_lt_of_le (vB_lt l) (Nat.pow_le_pow_left (by decide) _))) (by omega)
 have hd4:(dec10 (vB l)).length≤100000:=by
  rw [dec10,List.length_map]
  refine Nat.le_trans (dgs_bound (by decide) (3*l.length) _ ?_) (by omega)
  refine Nat.lt_of_lt_of_le (vB_lt l) ?_
  rw [Nat.pow_mul]
  exact Nat.pow_le_pow_left (by decide) _
 generalize hv:vB l=n at *
 have hld:=fun w'=>load_holds l w' (by omega)
 rw [hv] at hld
 refine enterA [(0,.string (bs l))] Tryz.func77 Tryz.ntmps77 ?_
 all_goals (refine go ?_;and_intros<;>(try exact trivial)<;>repeat (first|refine fun (Bk:Nat)=>?_|intro h))
 repeat' ((first|(apply G.cN (g:=107) (vs:=[.string (bs l)]) (fun a' c'=>.slice a' (dgs B32 n).length c') ((dgs B32 n).map lmV);rfl;rfl;exact fun w' _=>hld w';intro a1 c1 hp1 hq1))<;>(refine go ?_;and_intros<;>(try exact trivial)<;>repeat (first|refine fun (Bk:Nat)=>?_|intro h)))
 apply J.nilOwn (E:=5) (size:=1)
 refine J.loop (c:=_) ((n,[],.slice none 0 0,a1,c1):Nat×List Nat×Value×Option Addr×Nat) (fun s=>s.1) (fun s=>[(3,s.2.2.1),(4,.slice s.2.2.2.1 (dgs B32 s.1).length s.2.2.2.2)]) (fun s=>[.own 0 s.2.2.1 5 1 s.2.1.length (flat bV s.2.1),slRow w.heap.size s.2.2.2.1 1 ((dgs B32 s.1).map lmV)]) (fun s=>s.2.1++dec10 s.1=dec10 n∧s.1≤n) ?_ sbT sbL ?_
 ·exact ⟨rfl,Nat.le_refl _⟩
 intro ⟨m,o,u,xa,xc⟩ ⟨d1,d2⟩ ih
 dsimp only at d1 d2 ⊢
 have hml:=Nat.le_trans (dgs_le10 d2) hn4
 by_cases hm:m=0
 ·subst hm
  have hdn:dec10 n=o:=by rw [← d1,dec10,dgs_zero,List.map_nil,List.append_nil]
  clear ih d1
  rw [show (dgs B32 0).length=0 by rw [dgs_zero];rfl,dgs_zero]
  by_cases hn0:n=0
  ·subst hn0
   obtain rfl:[]=o:=by rw [← hdn,dec10,dgs_zero];rfl
   apply J.ownForm (i:=0) rfl
   intro a3 c3 hu
   subst hu
   simp only [List.length_nil]
   all_goals (refine go ?_;and_intros<;>(try exact trivial)<;>repeat (first|refine fun (Bk:Nat)=>?_|intro h))
   repeat' ((first|fail)<;>(refine go ?_;and_intros<;>(try exact trivial)<;>repeat (first|refine fun (Bk:Nat)=>?_|intro h)))
   all_goals refine ret1b Tryz.func77 Tryz.results77 ?_
   all_goals rfl
  have ho:0 < o.length:=by rw [← hdn,dec10_pos hn0];exact Nat.succ_pos _
  have hT:decT n=(o.reverse).map UInt8.ofNat:=by rw [decT,if_neg hn0,hdn]
  rw [hT]
  rw [hdn] at hd4
  obtain ⟨e1,e2⟩:=bv_u8 o.reverse fun d hd=>dec10_lt n d (hdn ▸ List.mem_reverse.1 hd)
  have hl8:(o.reverse.map UInt8.ofNat).length=o.length:=by rw [List.length_map,List.length_reverse]
  generalize o.reverse.map UInt8.ofNat=l8 at *
  apply J.open (i:=0) rfl (by omega)
  intro g cap hcap hu
  subst hu
  have hrv:=fun (w':World) (M1:List Row) (tot:Nat) (hw:Sat w (.blk g 5 (flat bV o) tot::M1) w')=>rev_holds w M1 g 5 tot cap o w' (by omega) hw
  simp only [List.set_cons_zero]
  all_goals (refine go ?_;and_intros<;>(try exact trivial)<;>repeat (first|refine fun (Bk:Nat)=>?_|intro h))
  repeat' ((first|(apply G.cM (g:=136) (X:=Unit) (fun _=>.tuple #[]) (fun _=>[.blk g 5 (flat bV o.reverse) (cap*1),slRow w.heap.size xa 1 (([]:List Nat).map lmV)]);rfl;rfl;exact fun w' hw=>hrv w' _ _ hw;intro _)|(apply G.ofBytes (E:=5) (l:=l8);rfl;exact hl8;exact fun w' hw=>(e1 ▸ SlAt.ofBlk bV_len hw (.head _));rfl;rfl;rfl))<;>(refine go ?_;and_intros<;>(try exact trivial)<;>repeat (first|refine fun (Bk:Nat)=>?_|intro h)))
  all_goals refine ret1b Tryz.func77 Tryz.results77 ?_
  all_goals rfl
 have hsm:=fun {M} w' (hw':Sat w (M) w') (hm:slRow w.heap.size xa 1 ((dgs B32 m).map lmV)∈M)=>small_holds xa m xc 10 w' hml (hw'.sl hm) (by decide) (by decide)
 rw [dec10_pos hm] at d1
 have hol:o.length+1≤100000:=by
  have:=congrArg List.length d1
  rw [List.length_append,List.length_cons] at this;omega
 have hlp:0 < (dgs B32 m).length:=dgs_pos_len hm
 have ih2:=fun u a2 c2=>ih (m / 10,o++[48+m % 10],u,a2,c2) ⟨by dsimp only;rw [List.append_assoc];exact d1,by dsimp only;omega⟩ (by dsimp only;omega)
 dsimp only at ih2
 have hlo:(o++[48+m % 10]).length=o.length+1:=by simp
 rw [hlo] at ih2
 have hap:flat bV o++bV (48+m % 10)=flat bV (o++[48+m % 10]):=flat1 bV _ _
 have hmm:=Nat.mod_lt m (show 0 < 10 by decide)
 have had:IntKind.u32.wrap (48+((m % 10:Nat):Int))=((48+m % 10:Nat):Int):=by rw [wrap_u32];omega
 have hcv:IntKind.u8.wrap ((48+m % 10:Nat):Int)=((48+m % 10:Nat):Int):=by rw [u8_of];congr 1;omega
 clear ih d1
 generalize m % 10=r at *
 generalize m / 10=m2 at *
 dsimp only [bV] at hap
 all_goals (refine go ?_;and_intros<;>(try exact trivial)<;>repeat (first|refine fun (Bk:Nat)=>?_|intro h))
 repeat' ((first|(apply G.cN (g:=135) (fun a' c'=>.tuple #[.slice a' (dgs B32 m2).length c',.int .u32 (r:Int)]) ((dgs B32 m2).map lmV);rfl;rfl;exact fun w' hw'=>hsm w' hw' (by exact mm);intro a2 c2 hp2 hq2)|(apply G.addK;rfl;rfl;exact had;rfl;rfl;rfl)|(apply G.convK;rfl;exact hcv;rfl;rfl;rfl)|(apply G.sliceL;rfl;rfl;rfl;rfl;rfl;rfl;rfl;rfl;intro Bs)|(apply G.ap;rfl;rfl;rfl;(repeat (first|exact RAt.head|apply RAt.tail));exact SrcV.blk (by exact mm) rfl rfl;exact hap;omega;omega;intro v2))<;>(refine go ?_;and_intros<;>(try exact trivial)<;>repeat (first|refine fun (Bk:Nat)=>?_|intro h)))
 exact J.finS (ih2 _ _ _)
end Go.Proofs.YtcdgibkbbcekhaaGreatDoor
