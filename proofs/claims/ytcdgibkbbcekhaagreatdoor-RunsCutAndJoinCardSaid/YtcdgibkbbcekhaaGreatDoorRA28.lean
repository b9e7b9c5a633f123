/-
  Contracts: the keys of a map of counts, collected and sorted (as right/OR does for a set).
-/
import Derived.Test.YtcdgibkbbcekhaaGreatDoorRA27
set_option linter.unusedVariables false
set_option linter.unusedSimpArgs false
set_option linter.unusedSectionVars false
namespace Go.Proofs.YtcdgibkbbcekhaaGreatDoor
open Go.RowKit Go.Sl Go.Num
namespace KI
theorem callPG {C:Ctx}{st:List (Nat×Value)}{M:List Row}{k:List Item}{all rest:List Oper}{d:Nat}{ty:TypeId}{pos:String}{after:Array Edge}{gd:Option (Nat×Bool)}{X:Type}{Rs:X→List Row}{x:X}{K M1:List Row}{f:Operand}{args:List Operand}{vs:List Value}{fv:Value}{at_:Array TypeId} (Ok:X→Prop)
  (hc:∀ M' w,Sat C.w0 (Rs x++M') w→CallsV C.P fv vs w fun v w'=>∃ x',Sat C.w0 (Rs x'++M') w'∧v=.bool true∧Ok x')
  (hf:evS st f=some fv) (ha:evL st args=some vs) (hw:wnB all st gd=true) (hd:Nat.blt d C.N=true) (hM:Splt (Rs x++M1) M K)
  (h1:∀ x',Ok x'→G .seq C all ((d,.bool true)::st) (K++(Rs x'++M1)) rest k) :
  G .seq C all st M ({ dst:=some d,op:=.call { callee:=.value f,args:=args.toArray,argTypes:=at_ },type:=ty,pos,after,guard:=gd }::rest) k :=
 G.callG (Rs:=Rs) (x:=x) (M1:=M1) Ok (fun _=>False) (fun M' w hw'=>(hc M' w hw').mono fun v w' ⟨x',h2,h3,h4⟩=>⟨x',h2,.inl ⟨h3,h4⟩⟩) hf ha hw hd hM h1 fun _ h=>h.elim
theorem map_eraseIdx' {α β:Type} (f:α→β):∀ (l:List α) (k:Nat),(l.map f).eraseIdx k=(l.eraseIdx k).map f
 | [],_=>rfl
 | _::_,0=>rfl
 | x::l,k+1=>by rw [List.map_cons,List.eraseIdx_cons_succ,List.eraseIdx_cons_succ,List.map_cons,map_eraseIdx' f l k]
theorem cons_eraseIdx {α:Type}:∀ {l:List α}{i:Nat} (h:i < l.length),(l[i]::l.eraseIdx i).Perm l
 | x::l,0,_=>.refl _
 | x::l,i+1,h=>by
  rw [List.eraseIdx_cons_succ,List.getElem_cons_succ]
  exact (List.Perm.swap _ _ _).trans (.cons x (cons_eraseIdx (by simpa using h)))
theorem keys_iter (w0:World) (Bm b:Nat) (es:Array MapEntry) (clock:Nat) (L:List (Int×Value)) (hI:MapIs (Value.int .i64) es clock L) :
  IterK Tryz.prog w0 [.blk Bm 152 [.map (some b)] 1,.obj b (.map es clock)] (.obj b (.map es clock)) 150 #[.pointer (some ⟨Bm,0,none⟩)] (fun e:Int=>[.int .i64 e]) (L.map (·.1)):=by
 intro X Rs Inv fY cY hY x0 hI0 M1 w hw
 refine enterR [(0,.func fY #[] cY),(1,.pointer (some ⟨Bm,0,none⟩))] hw Tryz.func150 Tryz.ntmps150 ?_
 all_goals (refine go ?_;and_intros<;>(try exact trivial)<;>repeat (first|refine fun (Bk:Nat)=>?_|intro h))
 repeat' ((first|(apply G.rg;rfl;exact mm;rfl;intro br))<;>(refine go ?_;and_intros<;>(try exact trivial)<;>repeat (first|refine fun (Bk:Nat)=>?_|intro h)))
 refine J.loop (c:=_) ((L,#[],x0):List (Int×Value)×Array Nat×X) (fun s=>s.1.length) (fun s=>[(0,.func fY #[] cY),(5,.pointer (some ⟨br,0,none⟩))]) (fun s=>.obj br (.mapIter (some b) clock s.2.1 clock)::.blk Bm 152 [.map (some b)] 1::.obj b (.map es clock)::(Rs s.2.2++M1)) (fun s=>Rem (Value.int .i64) es s.2.1 s.1∧Inv (s.1.map (·.1)) s.2.2) ?_ sbT sbL ?_
 ·exact ⟨Rem.start hI,hI0⟩
 clear hI0 hw
 intro ⟨R,seen,x⟩ ⟨hR,h2⟩ ih
 dsimp only at hR h2 ⊢
 by_cases hR0:R=[]
 ·subst hR0
  clear ih
  all_goals (refine go ?_;and_intros<;>(try exact trivial)<;>repeat (first|refine fun (Bk:Nat)=>?_|intro h))
  repeat' ((first|(apply G.nx0 hI hR;rfl;rfl;exact mm;exact mm))<;>(refine go ?_;and_intros<;>(try exact trivial)<;>repeat (first|refine fun (Bk:Nat)=>?_|intro h)))
  refine end0 Tryz.func150 Tryz.results150 ?_
  exact fun w' hw'=>⟨rfl,x,hw'.forget sbL,h2⟩
 ·have hy:∀ j (hj:j < R.length),∀ M' w',Sat w0 (Rs x++M') w'→CallsV Tryz.prog (.func fY #[] cY) [.int .i64 R[j].1] w' fun v w2=>∃ x',Sat w0 (Rs x'++M') w2∧v=.bool true∧Inv ((R.eraseIdx j).map (·.1)) x':=fun j hj M' w' hw'=>by
   have h3:=hY (R.map (·.1)) x j (by rw [List.length_map];exact hj) h2 M' w' hw'
   rw [List.getElem_map,map_eraseIdx'] at h3
   exact h3
  have ih:=fun j (hj:j < R.length) seen' x' h3 h4=>ih (R.eraseIdx j,seen',x') ⟨h3,h4⟩ (by dsimp only;rw [List.length_eraseIdx];rw [if_pos hj];omega)
  dsimp only at ih
  clear hY
  all_goals (refine go ?_;and_intros<;>(try exact trivial)<;>repeat (first|refine fun (Bk:Nat)=>?_|intro h))
  repeat' ((first|(apply G.nx1 hI hR hR0;rfl;rfl;(repeat (first|exact RAt.head|apply RAt.tail));exact mm;intro j hj seen' hR' ⟨e,he,hsn,hek,hev⟩)|(apply G.en hI he hsn hek hev;rfl;rfl;exact mm;exact mm)|(refine callPG (Rs:=Rs) (x:=x) (M1:=M1) (fun x'=>Inv ((R.eraseIdx j).map (·.1)) x') (hy j hj) rfl rfl rfl rfl (by (repeat (first|exact Splt.nil|apply Splt.cons))) ?_;intro x' hx'))<;>(refine go ?_;and_intros<;>(try exact trivial)<;>repeat (first|refine fun (Bk:Nat)=>?_|intro h)))
  exact J.fin (ih j hj seen' x' hR' hx')
theorem keys_holds (w0:World) (M:List Row) (w:World) (v:Value) (b:Nat) (hw:Sat w0 M w) :
  Calls Tryz.prog 102 #[.map (some b)] w fun e w'=>∃ x:Nat,e=.returned (.func (.func 150) #[] #[.pointer (some ⟨x,0,none⟩)])∧Sat w0 (.blk x 152 [.map (some b)] 1::M) w':=by
 refine enterR [(0,.map (some b))] hw Tryz.func102 Tryz.ntmps102 ?_
 all_goals (refine go ?_;and_intros<;>(try exact trivial)<;>repeat (first|refine fun (Bk:Nat)=>?_|intro h))
 refine ret1 Tryz.func102 Tryz.results102 ?_
 exact fun w' hw'=>⟨_,rfl,hw'⟩
theorem eraseIdx_perm {α:Type}{R S:List α}:∀ {T:List α}{i:Nat} (hi:i < T.length),(S++T).Perm R→((S++[T[i]])++T.eraseIdx i).Perm R:=fun {T}{i} hi h=>by
 refine List.Perm.trans ?_ h
 rw [List.append_assoc]
 refine List.Perm.append_left _ ?_
 exact cons_eraseIdx hi
theorem appendSeq_holds (w0:World) (M K:List Row) (Kr:Row) (w:World) (f:FuncId) [hF:Fun Tryz.prog f] (cap:Array Value) (Ks:List Int) (hIt:IterK Tryz.prog w0 K Kr f cap (fun e:Int=>[.int .i64 e]) Ks) (hl:Ks.length≤1000000) (hw:Sat w0 (K++M) w) :
  Calls Tryz.prog 165 #[.slice none 0 0,.func (.func f) #[] cap] w fun e w'=>∃ x:Option Addr×Nat×List Int,e=.returned (.slice x.1 x.2.2.length x.2.1)∧x.2.2.Perm Ks∧Sat w0 (.own 0 (.slice x.1 x.2.2.length x.2.1) 3 1 x.2.2.length (flat isV x.2.2)::Kr::M) w':=by
 refine enterR [(0,.slice none 0 0),(1,.func (.func f) #[] cap)] hw Tryz.func165 Tryz.ntmps165 ?_
 all_goals (refine go ?_;and_intros<;>(try exact trivial)<;>repeat (first|refine fun (Bk:Nat)=>?_|intro h))
 apply J.nilOwn (E:=3) (size:=1)
 refine J.rangeK1 (e1:=fun e:Int=>.int .i64 e) (es:=Ks) (K:=K) (fun s:Option Addr×Nat×List Int=>[.own 0 (.slice s.1 s.2.2.length s.2.1) 3 1 s.2.2.length (flat isV s.2.2),.blk Bk 44 [.slice s.1 s.2.2.length s.2.1] 1]) (fun R s=>(s.2.2++R).Perm Ks) (none,0,[]) M hIt rfl rfl rfl (perm_cat [[_],[_],K,M] [0,1,2,3] [2,0,1,3] rfl) (.refl _) ?_ ?_
 ·intro R ⟨au,cu,S⟩ i hi hP L0 rr M' hrs hrp
  dsimp only at hP ⊢
  have hP2:=eraseIdx_perm hi hP
  have hlS:S.length+1≤1000000:=by
   have:=hP.length_eq
   rw [List.length_append] at this
   omega
  have hap:flat isV S++isV R[i]=flat isV (S++[R[i]]):=flat1 isV _ _
  have hsl:(S++[R[i]]).length=S.length+1:=by rw [List.length_append];rfl
  generalize R[i]=y at *
  dsimp only [isV] at hap ⊢
  all_goals (refine goR ?_;and_intros<;>(try exact trivial)<;>repeat (first|refine fun (Bk:Nat)=>?_|intro h))
  repeat' ((first|(refine J.beginR rfl (i:=0) rfl hrs ?_)|(apply G.sliceL;rfl;rfl;rfl;rfl;rfl;rfl;rfl;rfl;intro Bs)|(apply G.apV;rfl;rfl;rfl;(repeat (first|exact RAt.head|apply RAt.tail));exact SrcV.blk (by exact mm) rfl rfl;exact hap;omega;omega;intro a2 c2)|(apply J.regQ;exact Tryz.mixed;decide +kernel)|(apply J.regL';exact Tryz.mixed;decide +kernel))<;>(refine goR ?_;and_intros<;>(try exact trivial)<;>repeat (first|refine fun (Bk:Nat)=>?_|intro h)))
  rw [← hsl]
  exact J.sel (leaveP hrs hrp (a2,c2,S++[y]) hP2 rfl)
 ·intro Bd ⟨au,cu,S⟩ hP
  dsimp only at hP ⊢
  rw [List.append_nil] at hP
  all_goals (refine go ?_;and_intros<;>(try exact trivial)<;>repeat (first|refine fun (Bk:Nat)=>?_|intro h))
  refine J.sel (T:=.obj Bd (.deferred (some []))::.own 0 (.slice au S.length cu) 3 1 S.length (flat isV S)::Kr::M) ?_
  refine leaveM (v:=.slice au S.length cu) (ds:=[Bd]) (M0:=.own 0 (.slice au S.length cu) 3 1 S.length (flat isV S)::Kr::M) Tryz.func165 rfl rfl rfl rfl (RunsTo.one Tryz.results165 (by (first|(apply ResV.tmp;rfl)|(apply ResV.cell;rfl;(first|(apply LdV.one;(first|exact CellV.row0 (by assumption) rfl|exact CellV.rowS (by assumption) rfl|exact CellV.rowSS (by assumption) rfl|(apply CellV.blk;exact mm;rfl)))|(apply LdV.aggBlk;exact mm;rfl)|(apply LdV.part;exact mm;rfl;rfl)|(apply LdV.aggRow;assumption;rfl)|(apply LdV.partRow;assumption;rfl;rfl)))))) (List.Perm.refl _) fun w' hw'=>?_
  exact ⟨(au,cu,S),rfl,hP,hw'⟩
theorem collect_holds (w0:World) (M K:List Row) (Kr:Row) (w:World) (f:FuncId) [hF:Fun Tryz.prog f] (cap:Array Value) (Ks:List Int) (hIt:IterK Tryz.prog w0 K Kr f cap (fun e:Int=>[.int .i64 e]) Ks) (hl:Ks.length≤1000000) (hw:Sat w0 (K++M) w) :
  Calls Tryz.prog 126 #[.func (.func f) #[] cap] w fun e w'=>∃ x:Option Addr×Nat×List Int,e=.returned (.slice x.1 x.2.2.length x.2.1)∧x.2.2.Perm Ks∧Sat w0 (.own 0 (.slice x.1 x.2.2.length x.2.1) 3 1 x.2.2.length (flat isV x.2.2)::Kr::M) w':=by
 refine enterR [(0,.func (.func f) #[] cap)] hw Tryz.func126 Tryz.ntmps126 ?_
 all_goals (refine go ?_;and_intros<;>(try exact trivial)<;>repeat (first|refine fun (Bk:Nat)=>?_|intro h))
 repeat' ((first|(refine G.cP (g:=165) (X:={ x:Option Addr×Nat×List Int // x.2.2.Perm Ks }) (fun x=>.slice x.1.1 x.1.2.2.length x.1.2.1) K (fun x=>[.own 0 (.slice x.1.1 x.1.2.2.length x.1.2.1) 3 1 x.1.2.2.length (flat isV x.1.2.2),Kr]) rfl rfl (List.Perm.refl _) (fun w' hw'=>(appendSeq_holds w0 M K Kr w' f cap Ks hIt hl hw').mono fun e w2 ⟨x,h1,h2,h3⟩=>⟨⟨x,h2⟩,h1,h3⟩) ?_;rintro ⟨⟨au,cu,S⟩,hS⟩))<;>(refine go ?_;and_intros<;>(try exact trivial)<;>repeat (first|refine fun (Bk:Nat)=>?_|intro h)))
 refine ret1 Tryz.func126 Tryz.results126 ?_
 exact fun w' hw'=>⟨(au,cu,S),rfl,hS,hw'⟩
def SortsTo (n:Nat):Prop:=∀ (w0:World) (M:List Row) (w:World) (au:Option Addr) (cu:Nat) (S:List Int),Sat w0 (.own 0 (.slice au n cu) 3 1 n (flat isV S)::M) w→n=S.length →
 Calls Tryz.prog 127 #[.slice au n cu] w fun e w'=>∃ S',e=.returned (.tuple #[])∧(S'.Perm S∧S'.Pairwise (·≤·))∧Sat w0 (.own 0 (.slice au n cu) 3 1 n (flat isV S')::M) w'
theorem sorted_holds (w0:World) (M K:List Row) (Kr:Row) (w:World) (f:FuncId) [hF:Fun Tryz.prog f] (cap:Array Value) (Ks:List Int) (hIt:IterK Tryz.prog w0 K Kr f cap (fun e:Int=>[.int .i64 e]) Ks) (hl:Ks.length≤1000000) (hso:SortsTo Ks.length) (hw:Sat w0 (K++M) w) :
  Calls Tryz.prog 59 #[.func (.func f) #[] cap] w fun e w'=>∃ x:Option Addr×Nat×List Int,e=.returned (.slice x.1 x.2.2.length x.2.1)∧(x.2.2.Perm Ks∧x.2.2.Pairwise (·≤·))∧Sat w0 (.own 0 (.slice x.1 x.2.2.length x.2.1) 3 1 x.2.2.length (flat isV x.2.2)::Kr::M) w':=by
 refine enterR [(0,.func (.func f) #[] cap)] hw Tryz.func59 Tryz.ntmps59 ?_
 all_goals (refine go ?_;and_intros<;>(try exact trivial)<;>repeat (first|refine fun (Bk:Nat)=>?_|intro h))
 repeat' ((first|(refine G.cP (g:=126) (X:={ x:Option Addr×Nat×List Int // x.2.2.Perm Ks }) (fun x=>.slice x.1.1 x.1.2.2.length x.1.2.1) K (fun x=>[.own 0 (.slice x.1.1 x.1.2.2.length x.1.2.1) 3 1 x.1.2.2.length (flat isV x.1.2.2),Kr]) rfl rfl (List.Perm.refl _) (fun w' hw'=>(collect_holds w0 M K Kr w' f cap Ks hIt hl hw').mono fun e w2 ⟨x,h1,h2,h3⟩=>⟨⟨x,h2⟩,h1,h3⟩) ?_;rintro ⟨⟨au,cu,S⟩,hS⟩;have hSl:=hS.length_eq;dsimp only at hS hSl ⊢)|(refine G.cP (g:=127) (X:={ S':List Int // S'.Perm S∧S'.Pairwise (·≤·) }) (fun _=>.tuple #[]) [.own 0 (.slice au S.length cu) 3 1 S.length (flat isV S)] (fun x=>[.own 0 (.slice au S.length cu) 3 1 S.length (flat isV x.1)]) rfl rfl (List.Perm.refl _) (fun w' hw'=>((hSl ▸ hso:SortsTo S.length) w0 (Kr::M) w' au cu S hw' rfl).mono fun e w2 ⟨S',h1,h2,h3⟩=>⟨⟨S',h2⟩,h1,h3⟩) ?_;rintro ⟨S',hS',hs2⟩;have hS'l:=hS'.length_eq;dsimp only at hS' hS'l ⊢))<;>(refine go ?_;and_intros<;>(try exact trivial)<;>repeat (first|refine fun (Bk:Nat)=>?_|intro h)))
 refine ret1 Tryz.func59 Tryz.results59 ?_
 refine fun w' hw'=>⟨(au,cu,S'),by dsimp only;rw [hS'l],⟨hS'.trans hS,hs2⟩,?_⟩
 dsimp only
 rw [hS'l];exact hw'
end KI
end Go.Proofs.YtcdgibkbbcekhaaGreatDoor
/-
 Plain: the keys of a map of counts in order give the table.
-/
namespace Go.Proofs.YtcdgibkbbcekhaaGreatDoor
open Go.RowKit Go.Sl Go.Num
def fT (D:Int→Int) (s:Int):Option (Int×Int):=if 0 < D s then some (s,D s) else none
theorem tab_keys {D:Int→Int}{cs:List Int} (hcs:cs.length=1001) (hg:∀ s (h:s < cs.length),cs[s]=D s):∀ (k m:Nat) (S:List Int),m+k=1001→S.Pairwise (· < ·)→(∀ s∈S,(m:Int)≤s∧s≤1000)→(∀ s:Nat,m≤s→s < 1001→0 < D s→(s:Int)∈S)→S.filterMap (fT D)=tabD m (cs.drop m)
 | 0,m,S,hm,_,h2,_=>by
  rw [List.drop_eq_nil_of_le (by omega),tabD]
  cases S with
  | nil=>rfl
  | cons s S=>have:=h2 s (List.mem_cons_self ..);omega
 | k+1,m,S,hm,h1,h2,h3=>by
  rw [tabD_step (by omega),hg]
  cases S with
  | nil =>
   have h4:=h3 m (Nat.le_refl _) (by omega)
   rw [if_neg (fun h=>by cases h4 h),List.nil_append]
   exact tab_keys hcs hg k (m+1) [] (by omega) h1 (fun s hs=>by cases hs) fun s q1 q2 q3=>h3 s (by omega) q2 q3
  | cons s S =>
   obtain ⟨h5,h6⟩:=List.pairwise_cons.1 h1
   by_cases hs:s=(m:Int)
   ·subst hs
    have ih:=tab_keys hcs hg k (m+1) S (by omega) h6 (fun s hs=>by have:=h5 s hs;have:=h2 s (List.mem_cons_of_mem _ hs);omega) fun s q1 q2 q3=>by
     rcases List.mem_cons.1 (h3 s (by omega) q2 q3) with h|h
     ·omega
     ·exact h
    rw [List.filterMap_cons,fT]
    by_cases hp:0 < D (m:Int)
    ·rw [if_pos hp,if_pos hp,ih];rfl
    ·rw [if_neg hp,if_neg hp,ih];rfl
   ·have h7:=h2 s (List.mem_cons_self ..)
    have h8:∀ x∈s::S,((m+1:Nat):Int)≤x∧x≤1000:=fun x hx=>by
     have h9:=h2 x hx
     rcases List.mem_cons.1 hx with rfl|hx
     ·omega
     ·have:=h5 x hx;omega
    have hp:¬ 0 < D (m:Int):=fun hp=>by have:=h8 _ (h3 m (Nat.le_refl _) (by omega) hp);omega
    rw [if_neg hp,List.nil_append]
    exact tab_keys hcs hg k (m+1) (s::S) (by omega) h1 h8 fun s q1 q2 q3=>h3 s (by omega) q2 q3
theorem strict_of {S K:List Int} (h:S.Perm K) (hk:K.Nodup) (hs:S.Pairwise (·≤·)):S.Pairwise (· < ·):=by
 have h1:S.Nodup:=h.symm.nodup hk
 exact (List.Pairwise.and hs h1).imp fun ⟨a,b⟩=>by omega
theorem setC_keys (y n:Int):∀ (L:List (Int×Int)) (x:Int),x∈(setC y n L).map (·.1) ↔ x=y∨x∈L.map (·.1)
 | [],x=>by simp [setC]
 | (z,m)::r,x=>by
  rw [setC]
  split
  ·rename_i h
   subst h
   simp
  ·rw [List.map_cons,List.mem_cons,setC_keys y n r x,List.map_cons,List.mem_cons]
   constructor
   ·rintro (h|h|h)
    ·exact .inr (.inl h)
    ·exact .inl h
    ·exact .inr (.inr h)
   ·rintro (h|h|h)
    ·exact .inr (.inl h)
    ·exact .inl h
    ·exact .inr (.inr h)
theorem cnt_no {x:Int}:∀ {L:List (Int×Int)},x ∉ L.map (·.1)→cnt x L=0
 | [],_=>rfl
 | (y,n)::r,h=>by
  rw [List.map_cons,List.mem_cons,not_or] at h
  rw [cnt,if_neg h.1,cnt_no h.2]
structure MpI (L:List (Int×Int)) (D:Int→Int):Prop where
 keys:∀ x∈L.map (·.1),0≤x∧x≤1000
 val:∀ x,cnt x L=D x
theorem MpI.nil:MpI [] fun _=>0:=⟨fun x hx=>(by cases hx),fun _=>rfl⟩
theorem MpI.set {L:List (Int×Int)}{D:Int→Int} (h:MpI L D) {y v:Int} (hy:0≤y∧y≤1000):MpI (setC y v L) fun x=>if x=y then v else D x:=⟨fun x hx=>by
 rcases (setC_keys y v L x).1 hx with rfl|h1
 ·exact hy
 ·exact h.keys x h1,fun x=>by rw [cnt_setC,h.val]⟩
theorem MpI.eqD {L:List (Int×Int)}{D D':Int→Int} (h:MpI L D) (he:∀ x,D x=D' x):MpI L D':=⟨h.keys,fun x=>by rw [h.val,he]⟩
theorem MpI.tab {L:List (Int×Int)}{D:Int→Int} (h:MpI L D) (hn:(L.map (·.1)).Nodup) {S:List Int} (hp:S.Perm (L.map (·.1))) (hs:S.Pairwise (·≤·)) {cs:List Int} (hcs:cs.length=1001) (hg:∀ s (h:s < cs.length),cs[s]=D s):S.filterMap (fT D)=tabD 0 cs:=by
 have:=tab_keys hcs hg 1001 0 S rfl (strict_of hp hn hs) (fun s hs=>by have:=h.keys s (hp.mem_iff.1 hs);omega) fun s _ _ q3=>by
  rw [hp.mem_iff]
  refine Decidable.byContradiction fun hc=>?_
  have:=cnt_no hc
  rw [h.val] at this
  omega
 rw [this,List.drop_zero]
def sumAt (s:Int):List (Int×Int)→Int
 | []=>0
 | (y,n)::r=>(if s=y then n else 0)+sumAt s r
theorem sumAt_app (s:Int):∀ a b:List (Int×Int),sumAt s (a++b)=sumAt s a+sumAt s b
 | [],b=>by rw [List.nil_append,sumAt,Int.zero_add]
 | (y,n)::a,b=>by rw [List.cons_append,sumAt,sumAt,sumAt_app s a b,Int.add_assoc]
theorem sumAt_no {s:Int}:∀ {T:List (Int×Int)},s ∉ T.map (·.1)→sumAt s T=0
 | [],_=>rfl
 | (y,n)::r,h=>by
  rw [List.map_cons,List.mem_cons,not_or] at h
  rw [sumAt,if_neg h.1,sumAt_no h.2];rfl
theorem sumAt_cnt {s:Int}:∀ {T:List (Int×Int)},(T.map (·.1)).Nodup→sumAt s T=cnt s T
 | [],_=>rfl
 | (y,n)::r,h=>by
  obtain ⟨h1,h2⟩:=List.nodup_cons.1 h
  rw [sumAt,cnt]
  split
  ·rename_i e
   dsimp only at h1
   rw [e,sumAt_no h1,Int.add_zero]
  ·rw [sumAt_cnt h2,Int.zero_add]
theorem sumAt_take {s:Int}{T:List (Int×Int)}{j:Nat} (h:j < T.length):sumAt s (T.take (j+1))=sumAt s (T.take j)+if s=T[j].1 then T[j].2 else 0:=by
 rw [List.take_succ_eq_append_getElem h,sumAt_app]
 show _+((if s=T[j].1 then T[j].2 else 0)+0)=_
 rw [Int.add_zero]
theorem sumAt_nn {s:Int}:∀ {T:List (Int×Int)},(∀ x∈T,0≤x.2)→0≤sumAt s T
 | [],_=>Int.le_refl _
 | (y,n)::r,h=>by
  have h1:=h (y,n) (List.mem_cons_self ..)
  have h2:=sumAt_nn (s:=s) (T:=r) fun x hx=>h x (List.mem_cons_of_mem _ hx)
  rw [sumAt];dsimp only at h1;split<;>omega
theorem sumAt_le {s:Int}{T:List (Int×Int)} (h:∀ x∈T,0≤x.2) (j:Nat):0≤sumAt s (T.take j)∧sumAt s (T.take j)≤sumAt s T:=by
 have h1:=sumAt_nn (s:=s) (T:=T.take j) fun x hx=>h x (List.mem_of_mem_take hx)
 have h2:=sumAt_nn (s:=s) (T:=T.drop j) fun x hx=>h x (List.mem_of_mem_drop hx)
 have h3:=sumAt_app s (T.take j) (T.drop j)
 rw [List.take_append_drop] at h3
 omega
theorem totC_take {l:List Rn}{k:Nat} (h:k < l.length) (s:Int):totC (l.take (k+1)) s=totC (l.take k) s+cnt s l[k].tab:=by
 rw [List.take_succ_eq_append_getElem h,totC_app]
 show _+(cnt s l[k].tab+0)=_
 rw [Int.add_zero]
theorem sorted_keys:∀ (t:List (Int×Int)) (q:Option (Int×Int)),sortedT q t=true→(t.map (·.1)).Nodup∧∀ p,q=some p→∀ x∈t,p.1 < x.1
 | [],_,_=>⟨List.nodup_nil,fun _ _ x hx=>by cases hx⟩
 | y::t,q,h=>by
  have h:((match q with|none=>true|some q=>decide (q.1 < y.1)) && sortedT (some y) t)=true:=by cases q<;>exact h
  rw [Bool.and_eq_true] at h
  obtain ⟨h1,h2⟩:=sorted_keys t (some y) h.2
  refine ⟨List.nodup_cons.2 ⟨fun hm=>?_,h1⟩,fun p hp x hx=>?_⟩
  ·obtain ⟨z,hz,e⟩:=List.mem_map.1 hm
   have:=h2 y rfl z hz
   dsimp only at e
   omega
  ·subst hp
   have h3:p.1 < y.1:=of_decide_eq_true h.1
   rcases List.mem_cons.1 hx with rfl|hx
   ·exact h3
   ·have:=h2 y rfl x hx
    omega
theorem OkR.tabs {r:Rn} (h:OkR r):(∀ x∈r.tab,(0≤x.1∧x.1≤1000)∧0≤x.2∧x.2≤1402560)∧∀ s,sumAt s r.tab=cnt s r.tab:=by
 by_cases h0:r.tab.length=0
 ·rw [List.length_eq_zero_iff.1 h0]
  exact ⟨fun x hx=>(by cases hx),fun s=>rfl⟩
 ·obtain ⟨h2,h3,_⟩:=oneE_tab h.2 h0
  exact ⟨fun x hx=>by have:=h2 x hx;omega,fun s=>sumAt_cnt (sorted_keys _ none h3).1⟩
end Go.Proofs.YtcdgibkbbcekhaaGreatDoor
