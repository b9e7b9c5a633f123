/-
  Contracts of the specification of runs: total, stretch.
-/
import Derived.Test.YtcdgibkbbcekhaaGreatDoorRA18
set_option linter.unusedVariables false
set_option linter.unusedSimpArgs false
set_option linter.unusedSectionVars false
namespace Go.Proofs.YtcdgibkbbcekhaaGreatDoor
open Go.RowKit Go.Sl Go.Num
theorem cnt_bd16 {r:Rn} (h:OkR r) (x:Int):0≤cnt x r.tab∧cnt x r.tab≤1402560:=by
 by_cases h0:r.tab.length=0
 ·rw [List.length_eq_zero_iff.1 h0];exact ⟨Int.le_refl _,by show (0:Int)≤1402560;decide⟩
 ·obtain ⟨h2,h3,h4,_⟩:=oneE_tab h.2 h0
  have h5:=nIn_bd x (tabS r.tab)
  rw [tab_cnt h h0] at h5
  have h6:=tabS_len _ fun x hx=>(h2 x hx).2.1
  have:=h.rng
  omega
theorem totC_bd:∀ {l:List Rn},(∀ r∈l,OkR r)→∀ x,0≤totC l x∧totC l x≤1402560*l.length
 | [],_,x=>⟨Int.le_refl _,Int.le_refl _⟩
 | r::l,h,x=>by
  have h1:=cnt_bd16 (h r (List.mem_cons_self ..)) x
  have h2:=totC_bd (l:=l) (fun y hy=>h y (List.mem_cons_of_mem _ hy)) x
  rw [totC,List.length_cons];omega
theorem total16_holds (a:Option Addr) (l:List Rn) (c:Nat) (x:Int) (w:World) (hA:RunsAt w a l) (hta:∀ r∈l,r.tab.length≤1000000) (ho:∀ r∈l,OkR r) (hl:l.length≤400) :
  Calls Tryz.prog 151 #[.slice a l.length c,.int .i64 x] w fun e w'=>e=.returned (.int .i64 (totC l x))∧Below w.heap.size w w':=by
 generalize hT:totC l x=T
 refine enterA [(0,.slice a l.length c),(1,.int .i64 x)] Tryz.func151 Tryz.ntmps151 ?_
 all_goals (refine go ?_;and_intros<;>(try exact trivial)<;>repeat (first|refine fun (Bk:Nat)=>?_|intro h))
 refine J.loop (c:=_) ((0,0):Nat×Int) (fun s=>l.length-s.1) (fun s=>[(0,.slice a l.length c),(1,.int .i64 x),(5,.int .i64 s.2),(6,.int .i64 s.1)]) (fun s=>[]) (fun s=>s.1≤l.length∧s.2+totC (l.drop s.1) x=T∧0≤s.2∧s.2≤1402560*s.1) ?_ sbT sbL ?_
 ·exact ⟨Nat.zero_le _,by rw [Int.zero_add];exact hT,Int.le_refl _,Int.le_refl _⟩
 clear hT
 intro ⟨k,n⟩ ⟨h1,h2,h3,h4⟩ ih
 dsimp only at h1 h2 h3 h4 ⊢
 by_cases hk:k < l.length
 ·obtain ⟨ba,oa,rfl,hra⟩:=SlAt.all hA.1 (by omega)
  have hr:=hra k hk
  have hm:=List.getElem_mem hk
  have hb:=cnt_bd16 (ho _ hm) x
  have hhe:=fun w' (hb:Below w.heap.size w w')=>held16_holds l[k].adr l[k].tab l[k].cap x w' (SlAt.below (hA.2 _ hm) hb) (hta _ hm)
  rw [List.drop_eq_getElem_cons hk,totC,← Int.add_assoc] at h2
  have ih:=ih (k+1,n+cnt x l[k].tab) ⟨hk,h2,by dsimp only;omega,by dsimp only;omega⟩ (by dsimp only;omega)
  dsimp only at ih
  clear hra hm hA hta ho h2
  generalize l[k]=r at *
  obtain ⟨f,t,tab,adr,cp,lo,hi⟩:=r
  dsimp only [rnV] at *
  generalize cnt x tab=N at *
  all_goals (refine go ?_;and_intros<;>(try exact trivial)<;>repeat (first|refine fun (Bk:Nat)=>?_|intro h))
  repeat' ((first|(apply G.cV (g:=96);rfl;rfl;exact fun w' hw'=>hhe w' hw'.below))<;>(refine go ?_;and_intros<;>(try exact trivial)<;>repeat (first|refine fun (Bk:Nat)=>?_|intro h)))
  exact J.fin ih
 ·rw [List.drop_eq_nil_of_le (by omega),totC,Int.add_zero] at h2
  subst h2
  clear ih
  all_goals (refine go ?_;and_intros<;>(try exact trivial)<;>repeat (first|refine fun (Bk:Nat)=>?_|intro h))
  all_goals refine ret1b Tryz.func151 Tryz.results151 ?_
  all_goals rfl
def strE (l:List Rn):List Rn×Int:=match smOne l with
 | none=>([],29)
 | some o=>(o,0)
theorem tabD_step {cs:List Int}{s:Nat} (h:s < cs.length):tabD s (cs.drop s)=(if 0 < cs[s] then [((s:Int),cs[s])] else [])++tabD (s+1) (cs.drop (s+1)):=by
 rw [List.drop_eq_getElem_cons h,tabD]
 split<;>rfl
theorem tabD_end {cs:List Int}{s:Nat} (h:cs.length≤s):tabD s (cs.drop s)=[]:=by rw [List.drop_eq_nil_of_le h];rfl
def smC (l:List Rn) (a b:Int):List Int:=(List.range 1001).map fun s:Nat=>totC l s-(if (s:Int)=a then 1 else 0)-(if (s:Int)=b then 1 else 0)
theorem smC_len (l:List Rn) (a b:Int):(smC l a b).length=1001:=by rw [smC,List.length_map,List.length_range]
theorem smC_get (l:List Rn) (a b:Int) {s:Nat} (h:s < 1001):(smC l a b)[s]'(by rw [smC_len];exact h)=totC l s-(if (s:Int)=a then 1 else 0)-(if (s:Int)=b then 1 else 0):=by
 simp [smC]
end Go.Proofs.YtcdgibkbbcekhaaGreatDoor
