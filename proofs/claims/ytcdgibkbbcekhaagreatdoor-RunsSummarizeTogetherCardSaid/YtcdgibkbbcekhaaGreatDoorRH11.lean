/-
  Plain: all histories of few ticks, and how many agree.
-/
import Derived.Test.YtcdgibkbbcekhaaGreatDoorRH10
import Derived.ProofKit
set_option linter.unusedVariables false
set_option linter.unusedSimpArgs false
set_option linter.unusedSectionVars false
namespace Go.Proofs.YtcdgibkbbcekhaaGreatDoor
open Go.RowKit Go.Sl Go.Num
section
variable {α β γ:Type} (op:α→β→γ)
theorem filter_prod {p:γ→Bool}{pa:α→Bool}{pb:β→Bool}{Y:List β}:∀ {X:List α},(∀ a∈X,∀ b∈Y,p (op a b)=(pa a && pb b))→(X.flatMap fun a=>Y.map (op a)).filter p=(X.filter pa).flatMap fun a=>(Y.filter pb).map (op a)
 | [],_=>rfl
 | a::X,h=>by
  have ih:=filter_prod (X:=X) fun a ha=>h a (List.mem_cons_of_mem _ ha)
  have h1:∀ b∈Y,p (op a b)=(pa a && pb b):=h a (List.mem_cons_self ..)
  rw [List.flatMap_cons,List.filter_append,ih,List.filter_map,List.filter_cons]
  cases hp:pa a with
  | true =>
   rw [if_pos rfl,List.flatMap_cons]
   congr 2
   exact List.filter_congr fun b hb=>by show p (op a b)=pb b;rw [h1 b hb,hp,Bool.true_and]
  | false =>
   rw [if_neg (by decide)]
   have:Y.filter (p ∘ op a)=[]:=List.filter_eq_nil_iff.2 fun b hb=>by show ¬ p (op a b)=true;rw [h1 b hb,hp,Bool.false_and];decide
   rw [this];rfl
theorem length_prod (Y:List β):∀ X:List α,(X.flatMap fun a=>Y.map (op a)).length=X.length*Y.length
 | []=>by rw [List.length_nil,Nat.zero_mul];rfl
 | a::X=>by rw [List.flatMap_cons,List.length_append,length_prod Y X,List.length_map,List.length_cons,Nat.succ_mul,Nat.add_comm]
theorem head_prod {X:List α}{Y:List β}{a:α}{b:β} (h1:X.head?=some a) (h2:Y.head?=some b):(X.flatMap fun a=>Y.map (op a)).head?=some (op a b):=by
 cases X with
 | nil=>cases h1
 | cons x X =>
  cases Y with
  | nil=>cases h2
  | cons y Y =>
   cases h1;cases h2;rfl
end
def st4:List Int:=[0,1,2,3]
def seqs:Nat→List (List Int)
 | 0=>[[]]
 | n+1=>st4.flatMap fun s=>(seqs n).map (List.cons s)
theorem seqs_mem:∀ {n:Nat}{S:List Int},S∈seqs n ↔ S.length=n∧∀ x∈S,x∈st4
 | 0,S=>by
  rw [seqs,List.mem_singleton]
  exact ⟨fun h=>by subst h;exact ⟨rfl,fun x hx=>by cases hx⟩,fun h=>List.length_eq_zero_iff.1 h.1⟩
 | n+1,S=>by
  rw [seqs,List.mem_flatMap]
  constructor
  ·rintro ⟨s,hs,h⟩
   obtain ⟨T,hT,rfl⟩:=List.mem_map.1 h
   obtain ⟨h1,h2⟩:=seqs_mem.1 hT
   refine ⟨by rw [List.length_cons,h1],fun x hx=>?_⟩
   rcases List.mem_cons.1 hx with rfl|hx
   ·exact hs
   ·exact h2 x hx
  ·rintro ⟨h1,h2⟩
   cases S with
   | nil=>cases h1
   | cons s T=>exact ⟨s,h2 s (List.mem_cons_self ..),List.mem_map_of_mem (seqs_mem.2 ⟨by simpa using h1,fun x hx=>h2 x (List.mem_cons_of_mem _ hx)⟩)⟩
theorem seqs_add (b:Nat):∀ a:Nat,seqs (a+b)=(seqs a).flatMap fun A=>(seqs b).map (A++·)
 | 0=>by rw [Nat.zero_add,seqs,List.flatMap_cons,List.flatMap_nil,List.append_nil];exact (List.map_id' _).symm
 | a+1=>by
  rw [Nat.add_right_comm,seqs,seqs,List.flatMap_assoc]
  congr 1
  funext s
  rw [seqs_add b a,List.map_flatMap,List.flatMap_map]
  congr 1
  funext A
  rw [List.map_map];rfl
def agP (r:Rn) (A:List Int):Bool:=if r.tab.length=0 then decide (A.length=(r.to_-r.from_).toNat) && A.all fun x=>decide (r.lo≤x∧x≤r.hi) else A.isPerm (tabS r.tab)
theorem agP_iff {r:Rn}{A:List Int}:agP r A=true ↔ AgP r A:=by
 rw [agP,AgP]
 split
 ·rw [Bool.and_eq_true,decide_eq_true_eq,List.all_eq_true]
  simp only [decide_eq_true_eq]
 ·exact List.isPerm_iff
def agB:List Rn→List Int→Bool
 | [],S=>decide (S=[])
 | r::l,S=>agP r (S.take (r.to_-r.from_).toNat) && agB l (S.drop (r.to_-r.from_).toNat)
theorem agB_iff:∀ {l:List Rn}{S:List Int},(∀ r∈l,OkR r)→(agB l S=true ↔ AgS l S)
 | [],S,_=>by rw [agB,AgS,decide_eq_true_eq]
 | r::l,S,ho=>by
  have ih:=fun S=>agB_iff (l:=l) (S:=S) fun x hx=>ho x (List.mem_cons_of_mem _ hx)
  rw [agB,AgS,Bool.and_eq_true,agP_iff,ih]
  constructor
  ·exact fun h=>⟨_,_,(List.take_append_drop _ _).symm,h.1,h.2⟩
  ·rintro ⟨A,B,rfl,h1,h2⟩
   have hl:=AgP.len (ho r (List.mem_cons_self ..)) h1
   rw [List.take_left' (by omega),List.drop_left' (by omega)]
   exact ⟨h1,h2⟩
def histR (r:Rn):List (List Int):=(seqs (r.to_-r.from_).toNat).filter (agP r)
def hist (l:List Rn) (n:Nat):List (List Int):=(seqs n).filter (agB l)
theorem hist_cons (r:Rn) (l:List Rn) (m:Nat):hist (r::l) ((r.to_-r.from_).toNat+m)=(histR r).flatMap fun A=>(hist l m).map (A++·):=by
 rw [hist,seqs_add]
 refine filter_prod (·++·) fun A hA B _=>?_
 have h1:=(seqs_mem.1 hA).1
 show agB (r::l) (A++B)=_
 rw [agB,List.take_left' h1,List.drop_left' h1]
theorem all_seqs (q:Int→Bool):∀ n,(seqs (n+1)).filter (·.all q)=(st4.filter q).flatMap fun s=>((seqs n).filter (·.all q)).map (List.cons s):=fun n=>by
 rw [seqs]
 exact filter_prod List.cons fun s _ S _=>by rw [List.all_cons]
theorem all_len (q:Int→Bool):∀ n,((seqs n).filter (·.all q)).length=(st4.filter q).length ^ n
 | 0=>rfl
 | n+1=>by rw [all_seqs,length_prod,all_len q n,Nat.pow_succ,Nat.mul_comm]
theorem all_head {q:Int→Bool}{s:Int} (h:(st4.filter q).head?=some s):∀ n,((seqs n).filter (·.all q)).head?=some (List.replicate n s)
 | 0=>rfl
 | n+1=>by rw [all_seqs];exact head_prod List.cons h (all_head h n)
theorem range_st4 {lo hi:Int} (h1:0≤lo) (h2:lo≤hi) (h3:hi≤3):(st4.filter fun x=>decide (lo≤x∧x≤hi)).length=(hi-lo+1).toNat∧(st4.filter fun x=>decide (lo≤x∧x≤hi)).head?=some lo:=by
 have e1:lo=0∨lo=1∨lo=2∨lo=3:=by omega
 have e2:hi=0∨hi=1∨hi=2∨hi=3:=by omega
 rcases e1 with rfl|rfl|rfl|rfl<;>rcases e2 with rfl|rfl|rfl|rfl<;>first|decide|omega
theorem histR_gap {r:Rn} (h:OkR r) (h0:r.tab.length=0) (h3:r.hi≤3):(histR r).length=cntR r∧(histR r).head?=some (stagesR r):=by
 obtain ⟨g1,g2,_⟩:=h.gap h0
 have e:histR r=(seqs (r.to_-r.from_).toNat).filter (·.all fun x=>decide (r.lo≤x∧x≤r.hi)):=List.filter_congr fun S hS=>by
  rw [agP,if_pos h0,decide_eq_true (seqs_mem.1 hS).1,Bool.true_and]
 obtain ⟨q1,q2⟩:=range_st4 g1 g2 h3
 rw [e,all_len,all_head q2,q1,cntR,if_pos h0,stagesR,if_pos h0]
 exact ⟨rfl,rfl⟩
def hasC (c:Int→Nat) (S:List Int):Bool:=st4.all fun s=>decide (S.count s=c s)
def decC (c:Int→Nat) (s:Int) (x:Int):Nat:=if x=s then c x-1 else c x
def fc4 (c:Int→Nat):Nat:=fct (c 0)*(fct (c 1)*(fct (c 2)*fct (c 3)))
def srt4 (c:Int→Nat):List Int:=List.replicate (c 0) 0++(List.replicate (c 1) 1++(List.replicate (c 2) 2++List.replicate (c 3) 3))
def NC (c:Int→Nat) (n:Nat):List (List Int):=(seqs n).filter (hasC c)
theorem hasC_iff {c:Int→Nat}{S:List Int}:hasC c S=true ↔ ∀ s∈st4,S.count s=c s:=by rw [hasC,List.all_eq_true];simp only [decide_eq_true_eq]
theorem hasC_cons {c:Int→Nat}{s:Int}{S:List Int} (hs:s∈st4):hasC c (s::S)=(decide (c s≠0) && hasC (decC c s) S):=by
 rw [Bool.eq_iff_iff,Bool.and_eq_true,decide_eq_true_eq,hasC_iff,hasC_iff]
 constructor
 ·intro h
  have h1:=h s hs
  rw [List.count_cons_self] at h1
  refine ⟨by omega,fun x hx=>?_⟩
  have h2:=h x hx
  rw [decC]
  by_cases e:x=s
  ·subst e;rw [if_pos rfl];omega
  ·rw [if_neg e,← h2,List.count_cons_of_ne (Ne.symm e)]
 ·rintro ⟨h0,h⟩ x hx
  have h2:=h x hx
  rw [decC] at h2
  by_cases e:x=s
  ·subst e;rw [if_pos rfl] at h2;rw [List.count_cons_self];omega
  ·rw [if_neg e] at h2;rw [List.count_cons_of_ne (Ne.symm e),h2]
def NCs (c:Int→Nat) (n:Nat) (s:Int):List (List Int):=if c s=0 then [] else (NC (decC c s) n).map (List.cons s)
theorem NC_s (c:Int→Nat) (n:Nat) {s:Int} (hs:s∈st4):((seqs n).map (List.cons s)).filter (hasC c)=NCs c n s:=by
 rw [List.filter_map,NCs]
 split
 ·rename_i h
  rw [List.filter_eq_nil_iff.2]
  ·rfl
  ·intro S _
   show ¬ hasC c (s::S)=true
   rw [hasC_cons hs,decide_eq_false (fun e=>e h),Bool.false_and];decide
 ·rename_i h
  rw [NC]
  congr 1
  exact List.filter_congr fun S _=>by show hasC c (s::S)=_;rw [hasC_cons hs,decide_eq_true h,Bool.true_and]
theorem NC_succ (c:Int→Nat) (n:Nat):NC c (n+1)=NCs c n 0++(NCs c n 1++(NCs c n 2++NCs c n 3)):=by
 rw [NC,seqs,st4,List.flatMap_cons,List.flatMap_cons,List.flatMap_cons,List.flatMap_cons,List.flatMap_nil,List.append_nil,List.filter_append,List.filter_append,List.filter_append,NC_s c n (by decide),NC_s c n (by decide),NC_s c n (by decide),NC_s c n (by decide)]
theorem fct_pred {n:Nat} (h:n≠0):fct n=n*fct (n-1):=by
 cases n with
 | zero=>exact absurd rfl h
 | succ n=>rfl
theorem fc4_dec {c:Int→Nat}{s:Int} (hs:s∈st4) (h:c s≠0):fc4 c=c s*fc4 (decC c s):=by
 rw [st4,List.mem_cons,List.mem_cons,List.mem_cons,List.mem_singleton] at hs
 rcases hs with rfl|rfl|rfl|rfl
 ·rw [fc4,fc4,decC,decC,decC,decC,if_pos rfl,if_neg (by decide),if_neg (by decide),if_neg (by decide),fct_pred h,Nat.mul_assoc]
 ·rw [fc4,fc4,decC,decC,decC,decC,if_pos rfl,if_neg (by decide),if_neg (by decide),if_neg (by decide),fct_pred h]
  simp only [Nat.mul_assoc,Nat.mul_left_comm]
 ·rw [fc4,fc4,decC,decC,decC,decC,if_pos rfl,if_neg (by decide),if_neg (by decide),if_neg (by decide),fct_pred h]
  simp only [Nat.mul_assoc,Nat.mul_left_comm]
 ·rw [fc4,fc4,decC,decC,decC,decC,if_pos rfl,if_neg (by decide),if_neg (by decide),if_neg (by decide),fct_pred h]
  simp only [Nat.mul_assoc,Nat.mul_left_comm]
theorem dec_sum {c:Int→Nat}{s:Int}{n:Nat} (hs:s∈st4) (h:c s≠0) (hn:c 0+c 1+c 2+c 3=n+1):decC c s 0+decC c s 1+decC c s 2+decC c s 3=n:=by
 rw [st4,List.mem_cons,List.mem_cons,List.mem_cons,List.mem_singleton] at hs
 rcases hs with rfl|rfl|rfl|rfl <;>
 ·rw [decC,decC,decC,decC,if_pos rfl,if_neg (by decide),if_neg (by decide),if_neg (by decide)];omega
theorem NC_len:∀ (n:Nat) (c:Int→Nat),c 0+c 1+c 2+c 3=n→(NC c n).length*fc4 c=fct n
 | 0,c,h=>by
  have e0:c 0=0:=by omega
  have e1:c 1=0:=by omega
  have e2:c 2=0:=by omega
  have e3:c 3=0:=by omega
  have h00:hasC c []=true:=hasC_iff.2 fun s hs=>by
   rw [st4,List.mem_cons,List.mem_cons,List.mem_cons,List.mem_singleton] at hs
   rcases hs with rfl|rfl|rfl|rfl
   ·rw [e0];rfl
   ·rw [e1];rfl
   ·rw [e2];rfl
   ·rw [e3];rfl
  have:NC c 0=[[]]:=by
   rw [NC,seqs,List.filter_cons,if_pos h00];rfl
  rw [this,fc4,e0,e1,e2,e3];rfl
 | n+1,c,h=>by
  have key:∀ s,s∈st4→(NCs c n s).length*fc4 c=c s*fct n:=fun s hs=>by
   rw [NCs]
   split
   ·rename_i h0;rw [h0,List.length_nil,Nat.zero_mul,Nat.zero_mul]
   ·rename_i h0
    rw [List.length_map,fc4_dec hs h0,Nat.mul_left_comm,NC_len n (decC c s) (dec_sum hs h0 h)]
  rw [NC_succ,List.length_append,List.length_append,List.length_append,Nat.add_mul,Nat.add_mul,Nat.add_mul,key 0 (by decide),key 1 (by decide),key 2 (by decide),key 3 (by decide),← Nat.add_mul,← Nat.add_mul,← Nat.add_mul,fct]
  congr 1
  omega
theorem NC_head:∀ (n:Nat) (c:Int→Nat),c 0+c 1+c 2+c 3=n→(NC c n).head?=some (srt4 c)
 | 0,c,h=>by
  have e0:c 0=0:=by omega
  have e1:c 1=0:=by omega
  have e2:c 2=0:=by omega
  have e3:c 3=0:=by omega
  have h00:hasC c []=true:=hasC_iff.2 fun s hs=>by
   rw [st4,List.mem_cons,List.mem_cons,List.mem_cons,List.mem_singleton] at hs
   rcases hs with rfl|rfl|rfl|rfl
   ·rw [e0];rfl
   ·rw [e1];rfl
   ·rw [e2];rfl
   ·rw [e3];rfl
  have:NC c 0=[[]]:=by
   rw [NC,seqs,List.filter_cons,if_pos h00];rfl
  rw [this,srt4,e0,e1,e2,e3];rfl
 | n+1,c,h=>by
  have ih:=fun s hs h0=>NC_head n (decC c s) (dec_sum (s:=s) hs h0 h)
  have key:∀ s,s∈st4→c s≠0→(NCs c n s).head?=some (s::srt4 (decC c s)):=fun s hs h0=>by
   rw [NCs,if_neg h0,List.head?_map,ih s hs h0];rfl
  have none:∀ s,c s=0→NCs c n s=[]:=fun s h0=>by rw [NCs,if_pos h0]
  have rep:∀ (k:Nat) (s:Int),k≠0→List.replicate k s=s::List.replicate (k-1) s:=fun k s h0=>by
   cases k with
   | zero=>exact absurd rfl h0
   | succ k=>rfl
  rw [NC_succ]
  by_cases h0:c 0=0
  ·by_cases h1:c 1=0
   ·by_cases h2:c 2=0
    ·have h3:c 3≠0:=by omega
     rw [none 0 h0,none 1 h1,none 2 h2,List.nil_append,List.nil_append,List.nil_append,key 3 (by decide) h3,srt4,srt4,decC,decC,decC,decC,if_pos rfl,if_neg (by decide),if_neg (by decide),if_neg (by decide),h0,h1,h2,rep (c 3) 3 h3]
     rfl
    ·rw [none 0 h0,none 1 h1,List.nil_append,List.nil_append,List.head?_append,key 2 (by decide) h2,srt4,srt4,decC,decC,decC,decC,if_pos rfl,if_neg (by decide),if_neg (by decide),if_neg (by decide),h0,h1,rep (c 2) 2 h2]
     rfl
   ·rw [none 0 h0,List.nil_append,List.head?_append,key 1 (by decide) h1,srt4,srt4,decC,decC,decC,decC,if_pos rfl,if_neg (by decide),if_neg (by decide),if_neg (by decide),h0,rep (c 1) 1 h1]
    rfl
  ·rw [List.head?_append,key 0 (by decide) h0,srt4,srt4,decC,decC,decC,decC,if_pos rfl,if_neg (by decide),if_neg (by decide),if_neg (by decide),rep (c 0) 0 h0]
   rfl
theorem count4:∀ {S:List Int},(∀ x∈S,x∈st4)→S.count 0+S.count 1+S.count 2+S.count 3=S.length
 | [],_=>rfl
 | x::S,h=>by
  have ih:=count4 (S:=S) fun y hy=>h y (List.mem_cons_of_mem _ hy)
  have hx:=h x (List.mem_cons_self ..)
  rw [st4,List.mem_cons,List.mem_cons,List.mem_cons,List.mem_singleton] at hx
  rw [List.length_cons]
  rcases hx with rfl|rfl|rfl|rfl<;>simp only [List.count_cons]<;>simp<;>omega
theorem count_no {S:List Int} (h:∀ x∈S,x∈st4) {s:Int} (hs:s ∉ st4):S.count s=0:=List.count_eq_zero.2 fun hm=>hs (h s hm)
theorem srt4_count (c:Int→Nat):∀ s∈st4,(srt4 c).count s=c s:=fun s hs=>by
 rw [st4,List.mem_cons,List.mem_cons,List.mem_cons,List.mem_singleton] at hs
 rw [srt4,List.count_append,List.count_append,List.count_append,List.count_replicate,List.count_replicate,List.count_replicate,List.count_replicate]
 rcases hs with rfl|rfl|rfl|rfl<;>simp
theorem srt4_mem (c:Int→Nat):∀ x∈srt4 c,x∈st4:=fun x hx=>by
 rw [srt4,List.mem_append,List.mem_append,List.mem_append] at hx
 rcases hx with hx|hx|hx|hx<;>rw [List.eq_of_mem_replicate hx]<;>decide
theorem srt4_sorted (c:Int→Nat):(srt4 c).Pairwise (·≤·):=by
 have r:∀ (n:Nat) (s:Int),(List.replicate n s).Pairwise (·≤·):=fun n s=>List.pairwise_replicate.2 (.inr (Int.le_refl _))
 have m:∀ {n:Nat}{s x:Int},x∈List.replicate n s→x=s:=fun h=>List.eq_of_mem_replicate h
 rw [srt4,List.pairwise_append,List.pairwise_append,List.pairwise_append]
 refine ⟨r _ _,⟨r _ _,⟨r _ _,r _ _,fun a ha b hb=>?_⟩,fun a ha b hb=>?_⟩,fun a ha b hb=>?_⟩
 ·rw [m ha,m hb];decide
 ·rw [m ha]
  rcases List.mem_append.1 hb with hb|hb<;>rw [m hb]<;>decide
 ·rw [m ha]
  rcases List.mem_append.1 hb with hb|hb
  ·rw [m hb];decide
  ·rcases List.mem_append.1 hb with hb|hb<;>rw [m hb]<;>decide
theorem perm_count4 {A B:List Int} (hA:∀ x∈A,x∈st4) (hB:∀ x∈B,x∈st4):A.Perm B ↔ ∀ s∈st4,A.count s=B.count s:=by
 rw [List.perm_iff_count]
 refine ⟨fun h s _=>h s,fun h s=>?_⟩
 by_cases hs:s∈st4
 ·exact h s hs
 ·rw [count_no hA hs,count_no hB hs]
theorem tabS_sorted:∀ (t:List (Int×Int)) (q:Option (Int×Int)),sortedT q t=true→(tabS t).Pairwise (·≤·)
 | [],_,_=>.nil
 | y::t,q,h=>by
  have h:((match q with|none=>true|some q=>decide (q.1 < y.1)) && sortedT (some y) t)=true:=by cases q<;>exact h
  rw [Bool.and_eq_true] at h
  have h2:=(sorted_keys t (some y) h.2).2 y rfl
  show (List.replicate y.2.toNat y.1++tabS t).Pairwise (·≤·)
  rw [List.pairwise_append]
  refine ⟨List.pairwise_replicate.2 (.inr (Int.le_refl _)),tabS_sorted t (some y) h.2,fun a ha b hb=>?_⟩
  rw [List.eq_of_mem_replicate ha]
  obtain ⟨m,hm⟩:=tabS_mem hb
  have:=h2 _ hm
  exact Int.le_of_lt this
def pf:List (Int×Int)→Nat
 | []=>1
 | (_,n)::r=>fct n.toNat*pf r
theorem mnl_fct:∀ (t:List (Int×Int)) (n:Nat),(∀ x∈t,1≤x.2)→mnl n t*(fct n*pf t)=fct (n+(sumT t).toNat)
 | [],n,_=>by rw [mnl,pf,Nat.one_mul,Nat.mul_one];rfl
 | (y,c)::r,n,h=>by
  have hc:1≤c:=h (y,c) (List.mem_cons_self ..)
  have hr:0≤sumT r:=sumT_nn r fun x hx=>h x (List.mem_cons_of_mem _ hx)
  have ih:=mnl_fct r (n+c.toNat) fun x hx=>h x (List.mem_cons_of_mem _ hx)
  have h1:=chs_fct n c.toNat
  rw [mnl,pf]
  have e:chs n c.toNat*mnl (n+c.toNat) r*(fct n*(fct c.toNat*pf r))=mnl (n+c.toNat) r*(chs n c.toNat*(fct n*fct c.toNat)*pf r):=by
   simp only [Nat.mul_comm,Nat.mul_left_comm,Nat.mul_assoc]
  rw [e,h1,ih]
  congr 1
  rw [sumT]
  show n+c.toNat+(sumT r).toNat=n+(c+sumT r).toNat
  omega
theorem cnt_cons (s y n:Int) (r:List (Int×Int)):cnt s ((y,n)::r)=if s=y then n else cnt s r:=rfl
theorem pf_fc4:∀ (t:List (Int×Int)),(t.map (·.1)).Nodup→(∀ x∈t,x.1∈st4)→pf t=fc4 fun s=>(cnt s t).toNat
 | [],_,_=>rfl
 | (y,n)::r,h,hm=>by
  obtain ⟨h1,h2⟩:=List.nodup_cons.1 h
  have ih:=pf_fc4 r h2 fun x hx=>hm x (List.mem_cons_of_mem _ hx)
  have hy:=hm (y,n) (List.mem_cons_self ..)
  have h0:=cnt_no h1
  dsimp only at hy h0
  rw [pf,ih,fc4,fc4]
  simp only [cnt_cons]
  rw [st4,List.mem_cons,List.mem_cons,List.mem_cons,List.mem_singleton] at hy
  rcases hy with rfl|rfl|rfl|rfl
  ·rw [h0,if_pos rfl,if_neg (by decide),if_neg (by decide),if_neg (by decide)]
   show _*(1*_)=_
   rw [Nat.one_mul]
  ·rw [h0,if_pos rfl,if_neg (by decide),if_neg (by decide),if_neg (by decide)]
   show _*(_*(1*_))=_
   rw [Nat.one_mul,Nat.mul_left_comm]
  ·rw [h0,if_pos rfl,if_neg (by decide),if_neg (by decide),if_neg (by decide)]
   show _*(_*(_*(1*_)))=_
   rw [Nat.one_mul]
   simp only [Nat.mul_left_comm]
  ·rw [h0,if_pos rfl,if_neg (by decide),if_neg (by decide),if_neg (by decide)]
   show _*(_*(_*(_*1)))=_
   rw [Nat.mul_one]
   simp only [Nat.mul_comm,Nat.mul_left_comm]
theorem fc4_pos (c:Int→Nat):0 < fc4 c:=Nat.mul_pos (fct_pos _) (Nat.mul_pos (fct_pos _) (Nat.mul_pos (fct_pos _) (fct_pos _)))
theorem st4_mem {x:Int} (h0:0≤x) (h3:x≤3):x∈st4:=by
 have:x=0∨x=1∨x=2∨x=3:=by omega
 rcases this with rfl|rfl|rfl|rfl<;>decide
theorem histR_tab {r:Rn} (h:OkR r) (h0:r.tab.length≠0) (h3:∀ x∈r.tab,x.1≤3):(histR r).length=cntR r∧(histR r).head?=some (stagesR r):=by
 obtain ⟨o1,o2,o3,_⟩:=oneE_tab h.2 h0
 have hr:=h.rng
 have hm:∀ x∈tabS r.tab,x∈st4:=fun x hx=>by
  obtain ⟨n,hn⟩:=tabS_mem hx
  exact st4_mem (o1 _ hn).1.1 (h3 _ hn)
 have hc:∀ s,(tabS r.tab).count s=(cnt s r.tab).toNat:=fun s=>by
  have:=tab_cnt h h0 s
  rw [nIn_count] at this;omega
 have hlen:=tabS_len _ fun x hx=>(o1 x hx).2.1
 have hs:=count4 hm
 simp only [hc] at hs
 have e:histR r=NC (fun s=>(cnt s r.tab).toNat) (r.to_-r.from_).toNat:=List.filter_congr fun S hS=>by
  rw [agP,if_neg h0,Bool.eq_iff_iff,List.isPerm_iff,perm_count4 (seqs_mem.1 hS).2 hm,hasC_iff]
  simp only [hc]
 have hn:(tabS r.tab).length=(r.to_-r.from_).toNat:=by omega
 rw [hn] at hs
 have l1:=NC_len _ (fun s=>(cnt s r.tab).toNat) hs
 have l2:=NC_head _ (fun s=>(cnt s r.tab).toNat) hs
 have l3:=mnl_fct r.tab 0 fun x hx=>by have:=(o1 x hx).2;omega
 rw [show fct 0=1 from rfl,Nat.one_mul,pf_fc4 _ (sorted_keys _ none o2).1 (fun x hx=>st4_mem (o1 x hx).1.1 (h3 x hx)),Nat.zero_add,show (sumT r.tab).toNat=(r.to_-r.from_).toNat by rw [o3],← l1] at l3
 refine ⟨?_,?_⟩
 ·rw [e,cntR,if_neg h0]
  exact (Nat.eq_of_mul_eq_mul_right (fc4_pos _) l3).symm
 ·rw [e,l2,stagesR,if_neg h0]
  congr 1
  refine List.Perm.eq_of_pairwise (le:=(·≤·)) (fun a b _ _ h1 h2=>Int.le_antisymm h1 h2) (srt4_sorted _) (tabS_sorted _ none o2) ?_
  rw [perm_count4 (srt4_mem _) hm]
  exact fun s hs=>by rw [srt4_count _ s hs,hc]
def Sm4 (r:Rn):Prop:=(r.tab.length=0→r.hi≤3)∧∀ x∈r.tab,x.1≤3
theorem hist_all:∀ {l:List Rn}{f t:Int},Cn f l t→(∀ r∈l,OkR r)→(∀ r∈l,Sm4 r)→(hist l (t-f).toNat).length=cntL l∧(hist l (t-f).toNat).head?=some (firstS l)
 | [],f,t,hC,_,_=>by
  rw [Cn] at hC
  subst hC
  rw [Int.sub_self]
  exact ⟨rfl,rfl⟩
 | r::l,f,t,hC,hO,hS=>by
  have hr:=hO r (List.mem_cons_self ..)
  have hs:=hS r (List.mem_cons_self ..)
  have hO':=fun x hx=>hO x (List.mem_cons_of_mem r hx)
  obtain ⟨i1,i2⟩:=hist_all hC.2 hO' fun x hx=>hS x (List.mem_cons_of_mem _ hx)
  have h1:=hr.rng
  have h2:=hC.2.le hO'
  have h3:=hC.1
  have hR:(histR r).length=cntR r∧(histR r).head?=some (stagesR r):=by
   by_cases h0:r.tab.length=0
   ·exact histR_gap hr h0 (hs.1 h0)
   ·exact histR_tab hr h0 hs.2
  rw [show (t-f).toNat=(r.to_-r.from_).toNat+(t-r.to_).toNat by omega,hist_cons]
  refine ⟨?_,?_⟩
  ·rw [length_prod (fun A B:List Int=>A++B),hR.1,i1];rfl
  ·rw [head_prod (fun A B:List Int=>A++B) hR.2 i2];rfl
end Go.Proofs.YtcdgibkbbcekhaaGreatDoor
/-
 The law RunsCutAndJoin.
-/
namespace Go.Proofs.YtcdgibkbbcekhaaGreatDoor
open Go.RowKit Go.Sl Go.Num
theorem fct_le:∀ n,n≤65536→fct n≤65536 ^ n
 | 0,_=>Nat.le_refl _
 | n+1,h=>by
  have:=fct_le n (by omega)
  rw [fct,Nat.pow_succ,Nat.mul_comm]
  exact Nat.mul_le_mul this h
theorem pf_pos:∀ t:List (Int×Int),0 < pf t
 | []=>Nat.one_pos
 | (_,n)::r=>Nat.mul_pos (fct_pos _) (pf_pos r)
theorem cntR_le {r:Rn} (h:OkR r) (hn:r.to_-r.from_≤65535):cntR r≤65536 ^ (r.to_-r.from_).toNat:=by
 have hr:=h.rng
 by_cases h0:r.tab.length=0
 ·have g:=h.gap h0
  rw [cntR,if_pos h0]
  exact Nat.pow_le_pow_left (by omega) _
 ·obtain ⟨o1,_,o3,_⟩:=oneE_tab h.2 h0
  rw [cntR,if_neg h0]
  have h1:=mnl_fct r.tab 0 fun x hx=>by have:=(o1 x hx).2;omega
  rw [show fct 0=1 from rfl,Nat.one_mul,Nat.zero_add,o3] at h1
  have h2:mnl 0 r.tab≤mnl 0 r.tab*pf r.tab:=Nat.le_mul_of_pos_right _ (pf_pos _)
  rw [h1] at h2
  exact Nat.le_trans h2 (fct_le _ (by omega))
theorem cntL_le:∀ {l:List Rn}{f t:Int},Cn f l t→(∀ r∈l,OkR r)→t-f≤65535→cntL l≤65536 ^ (t-f).toNat
 | [],f,t,_,_,_=>Nat.pow_pos (by decide)
 | r::l,f,t,hC,hO,ht=>by
  have hr:=hO r (List.mem_cons_self ..)
  have hO':=fun x hx=>hO x (List.mem_cons_of_mem r hx)
  have h1:=hr.rng
  have h2:=hC.2.le hO'
  have h3:=hC.1
  have ih:=cntL_le hC.2 hO' (by omega)
  rw [cntL,show (t-f).toNat=(r.to_-r.from_).toNat+(t-r.to_).toNat by omega,Nat.pow_add]
  exact Nat.mul_le_mul (cntR_le hr (by omega)) ih
theorem cntL_len {l:List Rn}{f t:Int} (hC:Cn f l t) (hO:∀ r∈l,OkR r) (ht:t-f≤400):(nB (cntL l)).length≤1000:=by
 have h1:=cntL_le hC hO (by omega)
 refine Nat.le_trans (nB_bound (k:=2*(t-f).toNat+1) (Nat.lt_of_le_of_lt h1 ?_)) (by omega)
 rw [show (65536:Nat)=256 ^ 2 from rfl,← Nat.pow_mul]
 exact Nat.pow_lt_pow_right (by decide) (Nat.lt_succ_self _)
theorem cntE_ok {l:List Rn}{f t:Int} (hC:Cn f l t) (hO:∀ r∈l,OkR r) (ht:t-f≤400):cntE l=(nB (cntL l),0):=by
 rw [cntE,if_neg (fun h=>h (runs_of hC hO (by omega))),if_neg]
 rintro ⟨h1,h2⟩
 have h0:l≠[]:=fun e=>h1 (by rw [e];rfl)
 rw [hC.last h0,(hC.first h0).1] at h2
 omega
end Go.Proofs.YtcdgibkbbcekhaaGreatDoor
/-
 Plain: Finer is exact.
-/
namespace Go.Proofs.YtcdgibkbbcekhaaGreatDoor
open Go.RowKit Go.Sl Go.Num
def sg (f:Int) (S:List Int) (u v:Int):List Int:=(S.drop (u-f).toNat).take (v-max u f).toNat
theorem sg_app (f:Int) (A B:List Int) (u v:Int):sg f (A++B) u v=sg f A u v++sg (f+A.length) B u v:=by
 rw [sg,sg,sg,List.drop_append,List.take_append,List.length_drop]
 congr 2
 ·omega
 ·rw [show (u-f).toNat-A.length=(u-(f+A.length)).toNat by omega]
theorem sg_len (f:Int) (S:List Int) (u v:Int):(sg f S u v).length=min (v-max u f).toNat (S.length-(u-f).toNat):=by rw [sg,List.length_take,List.length_drop]
theorem sg_mem {f:Int}{S:List Int}{u v x:Int} (h:x∈sg f S u v):x∈S:=List.mem_of_mem_drop (List.mem_of_mem_take h)
theorem sg_no {f:Int}{S:List Int}{u v:Int} (h:v≤max u f∨f+S.length≤u):sg f S u v=[]:=by
 refine List.length_eq_zero_iff.1 ?_
 rw [sg_len];omega
theorem sg_all {f:Int}{S:List Int}{u v:Int} (h1:u≤f) (h2:f+S.length≤v):sg f S u v=S:=by
 rw [sg,show (u-f).toNat=0 by omega,List.drop_zero,List.take_of_length_le (by omega)]
theorem Cn.inn:∀ {l:List Rn}{f t:Int},Cn f l t→(∀ r∈l,OkR r)→∀ r∈l,f≤r.from_∧r.to_≤t
 | x::l,f,t,h,ho,r,hr=>by
  have hx:=(ho x (List.mem_cons_self ..)).rng
  have ho':=fun y hy=>ho y (List.mem_cons_of_mem x hy)
  have h1:=h.2.le ho'
  have h2:=h.1
  rcases List.mem_cons.1 hr with rfl|hr
  ·omega
  ·have:=h.2.inn ho' r hr
   omega
theorem AgS_sg:∀ {l:List Rn}{f t:Int}{S:List Int},Cn f l t→(∀ r∈l,OkR r)→f+S.length=t→(AgS l S ↔ ∀ y∈l,AgP y (sg f S y.from_ y.to_))
 | [],f,t,S,hC,_,hl=>by
  rw [Cn] at hC
  rw [AgS]
  exact ⟨fun _ y hy=>(by cases hy),fun _=>List.length_eq_zero_iff.1 (by omega)⟩
 | r::l,f,t,S,hC,hO,hl=>by
  have hr:=hO r (List.mem_cons_self ..)
  have hO':=fun y hy=>hO y (List.mem_cons_of_mem r hy)
  have h1:=hr.rng
  have h2:=hC.2.le hO'
  have h3:=hC.1
  have hi:=hC.2.inn hO'
  obtain ⟨A,B,hS,hA⟩:∃ A B,S=A++B∧(A.length:Int)=r.to_-r.from_:=⟨_,_,(List.take_append_drop (r.to_-r.from_).toNat S).symm,by rw [List.length_take];omega⟩
  subst hS
  rw [List.length_append] at hl
  have ih:=AgS_sg (S:=B) hC.2 hO' (by omega)
  have e1:sg f (A++B) r.from_ r.to_=A:=by
   rw [sg_app,sg_all (by omega) (by omega),sg_no (S:=B) (by omega),List.append_nil]
  have e2:∀ y∈l,sg f (A++B) y.from_ y.to_=sg r.to_ B y.from_ y.to_:=fun y hy=>by
   have:=hi y hy
   rw [sg_app,sg_no (S:=A) (by omega),List.nil_append,show f+A.length=r.to_ by omega]
  constructor
  ·rintro ⟨A',B',e,a1,a2⟩
   have a3:=AgP.len hr a1
   obtain ⟨rfl,rfl⟩:=List.append_inj e (by omega)
   intro y hy
   rcases List.mem_cons.1 hy with rfl|hy
   ·rw [e1];exact a1
   ·rw [e2 y hy];exact ih.1 a2 y hy
  ·intro h
   refine ⟨A,B,rfl,by have:=h r (List.mem_cons_self ..);rwa [e1] at this,ih.2 fun y hy=>?_⟩
   have:=h y (List.mem_cons_of_mem _ hy)
   rwa [e2 y hy] at this
theorem last_le:∀ (t:List (Int×Int)) (q:Option (Int×Int)) (d:Int×Int),sortedT q t=true→∀ x∈t,x.1≤(t.getLastD d).1
 | y::t,q,d,h,x,hx=>by
  have h:((match q with|none=>true|some q=>decide (q.1 < y.1)) && sortedT (some y) t)=true:=by cases q<;>exact h
  rw [Bool.and_eq_true] at h
  rw [List.getLastD_cons]
  cases t with
  | nil =>
   rw [List.mem_singleton.1 hx];exact Int.le_refl _
  | cons z t =>
   have ih:=last_le (z::t) (some y) y h.2
   have h2:=(sorted_keys (z::t) (some y) h.2).2 y rfl
   rcases List.mem_cons.1 hx with rfl|hx
   ·have:=ih z (List.mem_cons_self ..)
    have:=h2 z (List.mem_cons_self ..)
    omega
   ·exact ih x hx
theorem mem_tabS {t:List (Int×Int)}{x:Int×Int} (h:x∈t) (h1:1≤x.2):x.1∈tabS t:=by
 rw [tabS,List.mem_flatMap]
 exact ⟨x,h,List.mem_replicate.2 ⟨by omega,rfl⟩⟩
theorem ls_mem {r:Rn} (h:OkR r) (h0:r.tab.length≠0):lstR r∈tabS r.tab∧mstR r∈tabS r.tab:=by
 obtain ⟨o1,_⟩:=oneE_tab h.2 h0
 rw [lstR,mstR,if_neg h0,if_neg h0]
 have hne:r.tab≠[]:=fun e=>h0 (by rw [e];rfl)
 refine ⟨?_,?_⟩
 ·have hm:r.tab.headD (0,0)∈r.tab:=by
   cases ht:r.tab with
   | nil=>exact absurd ht hne
   | cons x t=>exact List.mem_cons_self ..
  exact mem_tabS hm (o1 _ hm).2.1
 ·have hm:r.tab.getLastD (0,0)∈r.tab:=by
   rw [List.getLastD_eq_getLast?,List.getLast?_eq_some_getLast hne]
   exact List.getLast_mem hne
  exact mem_tabS hm (o1 _ hm).2.1
theorem AgP.bnd {r:Rn}{A:List Int} (h:OkR r) (ha:AgP r A):∀ v∈A,lstR r≤v∧v≤mstR r:=by
 intro v hv
 by_cases h0:r.tab.length=0
 ·rw [AgP,if_pos h0] at ha
  rw [lstR,mstR,if_pos h0,if_pos h0];exact ha.2 v hv
 ·obtain ⟨_,o2,_⟩:=oneE_tab h.2 h0
  rw [AgP,if_neg h0] at ha
  obtain ⟨n,hn⟩:=tabS_mem (ha.mem_iff.1 hv)
  rw [lstR,mstR,if_neg h0,if_neg h0]
  refine ⟨?_,last_le _ none _ o2 _ hn⟩
  rw [stg]
  cases ht:r.tab with
  | nil=>exact absurd (by rw [ht];rfl) h0
  | cons x t =>
   rw [ht] at hn o2
   have h2:=(sorted_keys t (some x) (by have:=o2;exact (Bool.and_eq_true ..).mp this |>.2)).2 x rfl
   rcases List.mem_cons.1 hn with e|hn
   ·rw [← e];exact Int.le_refl _
   ·exact Int.le_of_lt (h2 _ hn)
theorem put_at {L:List Int}{v:Int} (hv:v∈L) {p q:Nat} (hq:0 < q) (hp:p < L.length):∃ A:List Int,A.Perm L∧v∈(A.drop p).take q:=by
 have h1:=List.perm_cons_erase hv
 have hl:=h1.length_eq
 rw [List.length_cons] at hl
 refine ⟨(L.erase v).take p++v::(L.erase v).drop p,?_,?_⟩
 ·refine List.perm_middle.trans ?_
  rw [List.take_append_drop];exact h1.symm
 ·rw [List.drop_left' (by rw [List.length_take];omega)]
  obtain ⟨q,rfl⟩:∃ k,q=k+1:=⟨q-1,by omega⟩
  rw [List.take_succ_cons];exact List.mem_cons_self ..
theorem nIn_cons (x y:Int) (l:List Int):nIn x (y::l)=(if y=x then 1 else 0)+nIn x l:=rfl
theorem two_at {L:List Int}{v w:Int} (hv:v∈L) (hw:w∈L) (hvw:w≠v) {p q:Nat} (hq:0 < q) (hpq:p+q≤L.length) (hl:q < L.length):∃ A A':List Int,A.Perm L∧A'.Perm L∧nIn v ((A.drop p).take q)=nIn v ((A'.drop p).take q)+1:=by
 have h1:=List.perm_cons_erase hv
 have h2:=List.perm_cons_erase ((List.mem_erase_of_ne hvw).2 hw)
 obtain ⟨R,hR⟩:∃ R,L.Perm (v::w::R):=⟨_,h1.trans (.cons v h2)⟩
 clear h1 h2
 have hn:=hR.length_eq
 rw [List.length_cons,List.length_cons] at hn
 obtain ⟨q,rfl⟩:∃ k,q=k+1:=⟨q-1,by omega⟩
 cases p with
 | succ p =>
  obtain ⟨R1,R2,R3,rfl,l1,l2⟩:∃ R1 R2 R3,R=R1++(R2++R3)∧R1.length=p∧R2.length=q:=⟨R.take p,(R.drop p).take q,(R.drop p).drop q,by rw [List.take_append_drop,List.take_append_drop],by rw [List.length_take];omega,by rw [List.length_take,List.length_drop];omega⟩
  refine ⟨(w::R1)++((v::R2)++R3),(v::R1)++((w::R2)++R3),?_,?_,?_⟩
  ·refine List.Perm.trans ?_ hR.symm
   refine List.Perm.trans ?_ (List.Perm.swap v w _)
   exact .cons w List.perm_middle
  ·refine List.Perm.trans ?_ hR.symm
   exact .cons v List.perm_middle
  ·rw [List.drop_left' (by rw [List.length_cons,l1]),List.drop_left' (by rw [List.length_cons,l1]),List.take_left' (by rw [List.length_cons,l2]),List.take_left' (by rw [List.length_cons,l2]),nIn_cons,nIn_cons,if_pos rfl,if_neg hvw]
   omega
 | zero =>
  obtain ⟨R2,R3,rfl,l2⟩:∃ R2 R3,R=R2++R3∧R2.length=q:=⟨R.take q,R.drop q,by rw [List.take_append_drop],by rw [List.length_take];omega⟩
  refine ⟨(v::R2)++(w::R3),(w::R2)++(v::R3),?_,?_,?_⟩
  ·refine List.Perm.trans ?_ hR.symm
   exact .cons v List.perm_middle
  ·refine List.Perm.trans ?_ hR.symm
   refine List.Perm.trans ?_ (List.Perm.swap v w _)
   exact .cons w List.perm_middle
  ·rw [List.drop_zero,List.drop_zero,List.take_left' (by rw [List.length_cons,l2]),List.take_left' (by rw [List.length_cons,l2]),nIn_cons,nIn_cons,if_pos rfl,if_neg hvw]
   omega
theorem ov_win {x y:Rn}{A:List Int} (hA:(A.length:Int)=x.to_-x.from_) (hx:x.from_ < x.to_) (h:ovF x y < ovT x y):sg x.from_ A y.from_ y.to_=(A.drop (ovF x y-x.from_).toNat).take (ovT x y-ovF x y).toNat:=by
 rw [ovF,ovT] at *
 rw [sg,show (y.from_-x.from_).toNat=(max x.from_ y.from_-x.from_).toNat by omega]
 by_cases h1:y.to_≤x.to_
 ·congr 1;omega
 ·rw [List.take_of_length_le (by rw [List.length_drop];omega),List.take_of_length_le (by rw [List.length_drop];omega)]
theorem ov_no {x y:Rn}{A:List Int} (hA:(A.length:Int)=x.to_-x.from_) (hx:x.from_ < x.to_) (hy:y.from_ < y.to_) (h:ovT x y≤ovF x y):sg x.from_ A y.from_ y.to_=[]:=by
 rw [ovF,ovT] at h
 exact sg_no (by omega)
theorem nIn_repl (s v:Int):∀ n:Nat,nIn s (List.replicate n v)=if v=s then (n:Int) else 0
 | 0=>by split<;>rfl
 | n+1=>by
  rw [List.replicate_succ,nIn_cons,nIn_repl s v n]
  split<;>omega
theorem cov_term {x y:Rn}{A:List Int} (hx:OkR x) (hy:y.from_ < y.to_) (h0:y.tab.length≠0) (hc:covOk y x=true) (ha:AgP x A) (s:Int) :
  nIn s (sg x.from_ A y.from_ y.to_)=if ovT x y≤ovF x y∨y.tab.length=0 then 0 else if lstR x=mstR x then (if lstR x=s then ovT x y-ovF x y else 0) else cnt s x.tab:=by
 have hl:=AgP.len hx ha
 have hr:=hx.rng
 by_cases h1:ovT x y≤ovF x y
 ·rw [if_pos (.inl h1),ov_no hl hr.2.1 hy h1];rfl
 rw [if_neg fun h=>h.elim h1 h0]
 have h2:ovF x y < ovT x y:=by omega
 by_cases h3:lstR x=mstR x
 ·rw [if_pos h3]
  have e:A=List.replicate A.length (lstR x):=List.eq_replicate_of_mem fun v hv=>by have:=AgP.bnd hx ha v hv;omega
  rw [ov_win hl hr.2.1 h2,e,List.drop_replicate,List.take_replicate,nIn_repl]
  congr 1
  rw [ovF,ovT] at *
  omega
 ·rw [if_neg h3]
  rw [covOk,if_neg h1,if_neg h0,decide_eq_false h3,Bool.false_or,decide_eq_true_eq] at hc
  obtain ⟨c1,c2,c3⟩:=hc
  rw [sg_all (by rw [ovF] at c2;omega) (by rw [ovT] at c3;omega)]
  rw [AgP,if_neg c1] at ha
  rw [nIn_perm ha,tab_cnt hx c1]
theorem sg_cnt {y:Rn} (hy:y.from_ < y.to_) (h0:y.tab.length≠0) (s:Int):∀ {a:List Rn}{f t:Int}{S:List Int},Cn f a t→(∀ r∈a,OkR r)→(∀ x∈a,covOk y x=true)→AgS a S→nIn s (sg f S y.from_ y.to_)=covN y s a
 | [],f,t,S,_,_,_,h=>by
  rw [AgS] at h
  subst h
  rw [sg,List.drop_nil,List.take_nil];rfl
 | x::a,f,t,S,hC,hO,hc,⟨A,B,e,h1,h2⟩=>by
  subst e
  have hx:=hO x (List.mem_cons_self ..)
  have hl:=AgP.len hx h1
  have hf:=hC.1
  have ih:=sg_cnt hy h0 s hC.2 (fun r hr=>hO r (List.mem_cons_of_mem _ hr)) (fun r hr=>hc r (List.mem_cons_of_mem _ hr)) h2
  rw [sg_app,nIn_app,show f+A.length=x.to_ by omega,ih,covN,← cov_term hx hy h0 (hc x (List.mem_cons_self ..)) h1 s,hf]
theorem sg_bnd {y:Rn} (hy:y.from_ < y.to_) (h0:y.tab.length=0):∀ {a:List Rn}{f t:Int}{S:List Int},Cn f a t→(∀ r∈a,OkR r)→(∀ x∈a,covOk y x=true)→AgS a S→∀ v∈sg f S y.from_ y.to_,y.lo≤v∧v≤y.hi
 | [],f,t,S,_,_,_,h,v,hv=>by
  rw [AgS] at h
  subst h
  rw [sg,List.drop_nil,List.take_nil] at hv;cases hv
 | x::a,f,t,S,hC,hO,hc,⟨A,B,e,h1,h2⟩,v,hv=>by
  subst e
  have hx:=hO x (List.mem_cons_self ..)
  have hl:=AgP.len hx h1
  have hf:=hC.1
  have hr:=hx.rng
  rw [sg_app,show f+A.length=x.to_ by omega,← hf] at hv
  rcases List.mem_append.1 hv with hv|hv
  ·by_cases q:ovT x y≤ovF x y
   ·rw [ov_no hl hr.2.1 hy q] at hv;cases hv
   ·have hb:=AgP.bnd hx h1 v (sg_mem hv)
    have:=hc x (List.mem_cons_self ..)
    rw [covOk,if_neg q,if_pos h0,decide_eq_true_eq] at this
    omega
  ·exact sg_bnd hy h0 hC.2 (fun r hr=>hO r (List.mem_cons_of_mem _ hr)) (fun r hr=>hc r (List.mem_cons_of_mem _ hr)) h2 v hv
theorem ag_mid {a1 a2:List Rn}{x:Rn}{f t:Int}{A:List Int} (hC:Cn f (a1++x::a2) t) (hO:∀ r∈a1++x::a2,OkR r) (ha:AgP x A) (u v:Int):AgS (a1++x::a2) (firstS a1++(A++firstS a2))∧sg f (firstS a1++(A++firstS a2)) u v=sg f (firstS a1) u v++(sg x.from_ A u v++sg x.to_ (firstS a2) u v):=by
 obtain ⟨m,c1,c2⟩:=Cn.app.1 hC
 have o1:=fun r hr=>hO r (List.mem_append_left _ hr)
 have o2:=fun r hr=>hO r (List.mem_append_right _ (List.mem_cons_of_mem x hr))
 have hx:=hO x (by simp)
 have hl:=AgP.len hx ha
 have l1:=AgS.len c1 o1 (AgS.first o1)
 have:=c2.1
 refine ⟨AgS_app.2 ⟨_,_,rfl,AgS.first o1,A,_,rfl,ha,AgS.first o2⟩,?_⟩
 rw [sg_app,sg_app,show f+(firstS a1).length=x.from_ by omega,show x.from_+A.length=x.to_ by omega]
theorem nIn_mem1 {v:Int}:∀ {l:List Int},v∈l→1≤nIn v l
 | x::l,h=>by
  have hn:0≤nIn v l:=by rw [nIn_count];omega
  rw [nIn_cons]
  rcases List.mem_cons.1 h with rfl|h
  ·rw [if_pos rfl];omega
  ·have:=nIn_mem1 h
   split<;>omega
theorem cov_iff {a:List Rn}{f t:Int}{y:Rn} (hC:Cn f a t) (hO:∀ r∈a,OkR r) (hy:OkR y) (h1:f≤y.from_) (h2:y.to_≤t):covB a y=true ↔ ∀ S,AgS a S→AgP y (sg f S y.from_ y.to_):=by
 have hyr:=hy.rng
 have hlen:∀ S,AgS a S→(sg f S y.from_ y.to_).length=(y.to_-y.from_).toNat:=fun S hS=>by
  have:=AgS.len hC hO hS
  rw [sg_len];omega
 rw [covB,Bool.and_eq_true,Bool.or_eq_true,decide_eq_true_eq,List.all_eq_true]
 constructor
 ·rintro ⟨c1,c2⟩ S hS
  by_cases h0:y.tab.length=0
  ·rw [AgP,if_pos h0]
   exact ⟨hlen S hS,sg_bnd hyr.2.1 h0 hC hO c1 hS⟩
  ·rw [AgP,if_neg h0,perm_nIn_iff]
   intro s
   rw [tab_cnt hy h0,sg_cnt hyr.2.1 h0 s hC hO c1 hS]
   by_cases hs:0≤s∧s≤1000
   ·have c3:=List.all_eq_true.1 (c2.resolve_left h0) s.toNat (List.mem_range.2 (by omega))
    rw [decide_eq_true_eq,show ((s.toNat:Nat):Int)=s by omega] at c3
    exact c3
   ·rw [← sg_cnt hyr.2.1 h0 s hC hO c1 hS,cnt_no fun hm=>hs ?_,nIn_count,List.count_eq_zero.2 fun hm=>hs (AgS.bd' hO hS s (sg_mem hm))]
    ·rfl
    ·obtain ⟨z,hz,rfl⟩:=List.mem_map.1 hm
     exact ((oneE_tab hy.2 h0).1 z hz).1
 ·intro H
  have hco:∀ x∈a,covOk y x=true:=fun x hxm=>by
   obtain ⟨a1,a2,rfl⟩:=List.append_of_mem hxm
   have hx:=hO x hxm
   have hxr:=hx.rng
   have mid:=fun A (hA:AgP x A)=>ag_mid hC hO hA y.from_ y.to_
   by_cases q:ovT x y≤ovF x y
   ·rw [covOk,if_pos q]
   have q':ovF x y < ovT x y:=by omega
   have q1:x.from_≤ovF x y∧ovT x y≤x.to_:=by rw [ovF,ovT];omega
   rw [covOk,if_neg q]
   by_cases h0:y.tab.length=0
   ·rw [if_pos h0,decide_eq_true_eq]
    have key:∀ A,AgP x A→∀ v∈(A.drop (ovF x y-x.from_).toNat).take (ovT x y-ovF x y).toNat,y.lo≤v∧v≤y.hi:=fun A hA v hv=>by
     obtain ⟨m1,m2⟩:=mid A hA
     have:=H _ m1
     rw [AgP,if_pos h0,m2,ov_win (AgP.len hx hA) hxr.2.1 q'] at this
     exact this.2 v (List.mem_append_right _ (List.mem_append_left _ hv))
    by_cases hg:x.tab.length=0
    ·have gb:=hx.gap hg
     have hrep:∀ z,x.lo≤z→z≤x.hi→AgP x (List.replicate (x.to_-x.from_).toNat z):=fun z z1 z2=>by
      rw [AgP,if_pos hg]
      exact ⟨List.length_replicate,fun v hv=>by rw [List.eq_of_mem_replicate hv];exact ⟨z1,z2⟩⟩
     have hm:∀ z:Int,z∈((List.replicate (x.to_-x.from_).toNat z).drop (ovF x y-x.from_).toNat).take (ovT x y-ovF x y).toNat:=fun z=>by
      rw [List.drop_replicate,List.take_replicate]
      exact List.mem_replicate.2 ⟨by omega,rfl⟩
     rw [lstR,mstR,if_pos hg,if_pos hg]
     exact ⟨(key _ (hrep x.lo (Int.le_refl _) gb.2.1) _ (hm _)).1,(key _ (hrep x.hi gb.2.1 (Int.le_refl _)) _ (hm _)).2⟩
    ·have tl:=AgP.len hx (AgP.first' hx)
     rw [stagesR,if_neg hg] at tl
     have arr:∀ v∈tabS x.tab,y.lo≤v∧v≤y.hi:=fun v hv=>by
      obtain ⟨A,hA,hm⟩:=put_at hv (p:=(ovF x y-x.from_).toNat) (q:=(ovT x y-ovF x y).toNat) (by omega) (by omega)
      exact key A (by rw [AgP,if_neg hg];exact hA) v hm
     exact ⟨(arr _ (ls_mem hx hg).1).1,(arr _ (ls_mem hx hg).2).2⟩
   ·rw [if_neg h0,Bool.or_eq_true,decide_eq_true_eq,decide_eq_true_eq]
    by_cases h3:lstR x=mstR x
    ·exact .inl h3
    right
    have key:∀ A A',AgP x A→AgP x A'→∀ s,nIn s ((A.drop (ovF x y-x.from_).toNat).take (ovT x y-ovF x y).toNat)=nIn s ((A'.drop (ovF x y-x.from_).toNat).take (ovT x y-ovF x y).toNat):=fun A A' hA hA' s=>by
     have e:∀ B,AgP x B→nIn s (sg f (firstS a1) y.from_ y.to_)+(nIn s ((B.drop (ovF x y-x.from_).toNat).take (ovT x y-ovF x y).toNat)+nIn s (sg x.to_ (firstS a2) y.from_ y.to_))=cnt s y.tab:=fun B hB=>by
      obtain ⟨m1,m2⟩:=mid B hB
      have:=H _ m1
      rw [AgP,if_neg h0,m2,ov_win (AgP.len hx hB) hxr.2.1 q',perm_nIn_iff] at this
      have:=this s
      rwa [nIn_app,nIn_app,tab_cnt hy h0] at this
     have e1:=e A hA
     have e2:=e A' hA'
     omega
    by_cases hg:x.tab.length=0
    ·exfalso
     have gb:=hx.gap hg
     rw [lstR,mstR,if_pos hg,if_pos hg] at h3
     obtain ⟨A,hA,hm⟩:=put_at (L:=x.hi::List.replicate ((x.to_-x.from_).toNat-1) x.lo) (v:=x.hi) (List.mem_cons_self ..) (p:=(ovF x y-x.from_).toNat) (q:=(ovT x y-ovF x y).toNat) (by omega) (by rw [List.length_cons,List.length_replicate];omega)
     have a1:AgP x A:=by
      rw [AgP,if_pos hg]
      refine ⟨by rw [hA.length_eq,List.length_cons,List.length_replicate];omega,fun v hv=>?_⟩
      rcases List.mem_cons.1 (hA.mem_iff.1 hv) with rfl|hv
      ·exact ⟨gb.2.1,Int.le_refl _⟩
      ·rw [List.eq_of_mem_replicate hv];exact ⟨Int.le_refl _,gb.2.1⟩
     have a2:=AgP.first' hx
     have:=key A _ a1 a2 x.hi
     rw [stagesR,if_pos hg,List.drop_replicate,List.take_replicate,nIn_repl,if_neg h3] at this
     have:=nIn_mem1 hm
     omega
    ·refine ⟨hg,?_⟩
     refine Decidable.byContradiction fun hno=>?_
     have tl:=AgP.len hx (AgP.first' hx)
     rw [stagesR,if_neg hg] at tl
     obtain ⟨m1,m2⟩:=ls_mem hx hg
     obtain ⟨A,A',p1,p2,p3⟩:=two_at m1 m2 (fun e=>h3 e.symm) (p:=(ovF x y-x.from_).toNat) (q:=(ovT x y-ovF x y).toNat) (by omega) (by omega) (by omega)
     have:=key A A' (by rw [AgP,if_neg hg];exact p1) (by rw [AgP,if_neg hg];exact p2) (lstR x)
     omega
  refine ⟨hco,?_⟩
  by_cases h0:y.tab.length=0
  ·exact .inl h0
  ·right
   rw [List.all_eq_true]
   intro s _
   rw [decide_eq_true_eq]
   have hS:=AgS.first hO
   have:=H _ hS
   rw [AgP,if_neg h0,perm_nIn_iff] at this
   rw [← sg_cnt hyr.2.1 h0 (s:Int) hC hO hco hS,this,tab_cnt hy h0]
theorem finE_iff {a b:List Rn} (ha:runsErr a=0) (hb:runsErr b=0) (a0:a≠[]) (b0:b≠[]):(finE a b).1=true ↔ (headD' a).from_=(headD' b).from_∧(lastD a).to_=(lastD b).to_∧∀ S,AgS a S→AgS b S:=by
 obtain ⟨oA,_,cA⟩:=runs_ok ha
 obtain ⟨oB,_,cB⟩:=runs_ok hb
 obtain ⟨cA,_⟩:=cA a0
 obtain ⟨cB,_⟩:=cB b0
 rw [finE,if_neg (fun e=>e ha),if_neg (fun e=>e hb),if_neg (by rintro (e|e);exact a0 (List.length_eq_zero_iff.1 e);exact b0 (List.length_eq_zero_iff.1 e))]
 by_cases hd:(headD' a).from_≠(headD' b).from_∨(lastD a).to_≠(lastD b).to_
 ·rw [if_pos hd]
  exact ⟨fun h=>(by cases h),fun h=>(hd.elim (fun q=>q h.1) fun q=>q h.2.1).elim⟩
 ·rw [if_neg hd]
  have e1:(headD' a).from_=(headD' b).from_:=Decidable.byContradiction fun q=>hd (.inl q)
  have e2:(lastD a).to_=(lastD b).to_:=Decidable.byContradiction fun q=>hd (.inr q)
  show b.all (covB a)=true ↔ _
  rw [List.all_eq_true]
  have hin:=cB.inn oB
  have key:∀ S,AgS a S→(AgS b S ↔ ∀ y∈b,AgP y (sg (headD' a).from_ S y.from_ y.to_)):=fun S hS=>by
   have:=AgS.len cA oA hS
   rw [e1]
   exact AgS_sg cB oB (by omega)
  constructor
  ·exact fun h=>⟨e1,e2,fun S hS=>(key S hS).2 fun y hy=>(cov_iff cA oA (oB y hy) (by have:=hin y hy;omega) (by have:=hin y hy;omega)).1 (h y hy) S hS⟩
  ·exact fun h y hy=>(cov_iff cA oA (oB y hy) (by have:=hin y hy;omega) (by have:=hin y hy;omega)).2 fun S hS=>(key S hS).1 (h.2.2 S hS) y hy
end Go.Proofs.YtcdgibkbbcekhaaGreatDoor
/-
 Plain: summaries of the parts of a history.
-/
namespace Go.Proofs.YtcdgibkbbcekhaaGreatDoor
open Go.RowKit Go.Sl Go.Num
def Sd (f:Int) (hs:List Int) (S:List Rn):Prop:=∃ X,Ds f hs X∧S.map rbare=(sumE X).1.map rbare
theorem Sd.ds {f:Int}{hs:List Int}{S:List Rn} (h:Sd f hs S) (hn:hs.length≤2000):Ds f hs S:=by
 obtain ⟨X,h1,h2⟩:=h
 exact (h1.sum hn).2.eqB h2
theorem cn_in:∀ {l:List Rn}{f t:Int},Cn f l t→(∀ r∈l,OkR r)→∀ r∈l,f≤r.from_∧r.to_≤t
 | x::l,f,t,h,ho,r,hr=>by
  have hx:=(ho x (List.mem_cons_self ..)).rng
  have ho':=fun y hy=>ho y (List.mem_cons_of_mem x hy)
  have h1:=h.2.le ho'
  have h2:=h.1
  rcases List.mem_cons.1 hr with rfl|hr
  ·omega
  ·have:=cn_in h.2 ho' r hr
   omega
theorem sumT_ge:∀ t:List (Int×Int),(∀ x∈t,1≤x.2)→(t.length:Int)≤sumT t
 | [],_=>Int.le_refl _
 | x::t,h=>by
  have h1:=sumT_ge t fun y hy=>h y (List.mem_cons_of_mem x hy)
  have h2:=h x (List.mem_cons_self ..)
  rw [sumT,List.length_cons];omega
theorem OkR.tlen {r:Rn} (h:OkR r):(r.tab.length:Int)≤r.to_-r.from_:=by
 have hr:=h.rng
 by_cases h0:r.tab.length=0
 ·omega
 ·obtain ⟨h2,_,h4,_⟩:=oneE_tab h.2 h0
  have:=sumT_ge r.tab fun x hx=>(h2 x hx).2.1
  omega
end Go.Proofs.YtcdgibkbbcekhaaGreatDoor
/-
 Calls of function values that make runs;lists of lists of runs;histories;zero arrays.
-/
namespace Go.Sl
open Go.RowKit
end Go.Sl
namespace Go.Proofs.YtcdgibkbbcekhaaGreatDoor
open Go.RowKit Go.Sl Go.Num
structure Lp where
 adr:Option Addr
 cap:Nat
 L:List Rn
structure Hst where
 f:Int
 adr:Option Addr
 n:Nat
 cap:Nat
 hs:List Int
def hstV (p:Hst):List Value:=[.int .i64 p.f,.slice p.adr p.n p.cap]
theorem hstV_len (p:Hst):(hstV p).length=2:=rfl
theorem hstV_one (p:Hst):(hstV p).all (·.oneCell')=true:=rfl
class TEqA (P:Program) (T:TypeId) (n:outParam Nat):Prop where
 h:∀ (xs:Array Value) w,(∀ i,i < n→∃ z,xs[i]?=some (.int .i64 z))→(Op.equal T (.agg xs) (.agg xs)).run P w=.ok true w
 g:P.eqGuardType P.depth T=false
section
variable {C:Ctx}{st:List (Nat×Value)}{M:List Row}{k:List Item}{q q':Md}{all rest:List Oper}{d:Nat}{ty:TypeId}{pos:String}{after:Array Edge}{gd:Option (Nat×Bool)}
end
end Go.Proofs.YtcdgibkbbcekhaaGreatDoor
/-
 Contract: the specification's follow and Histories,which try all histories.
-/
namespace Go.Sl
open Go.RowKit
section
variable {A:Type}{adr:A→Option Addr}{sz N:Nat}{L:A→List (List Value)}{o l o':List A}{M:List Row}{C:Ctx}{st:List (Nat×Value)}{k:List Item}
theorem Sat.famTo {w0 w:World} (hw:Sat w0 M w) (h1:famRow w0.heap.size adr sz L o∈M) (h2:famRow w0.heap.size adr sz L l∈M) (hs:∀ r∈o',r∈o∨r∈l):Sat w0 (famRow w0.heap.size adr sz L o'::M) w:=by
 refine hw.addFact (Nat.le_refl _) (fun r hr=>(hs r hr).elim (hw.fam h1 r) (hw.fam h2 r)) fun b hb=>?_
 obtain ⟨r,hr,h3⟩:=hb
 rcases hs r hr with h|h
 ·have h4:(famRow w0.heap.size adr sz L o).sup b:=⟨r,h,h3⟩
  have ho:=hw.old _ h1
  exact ⟨(ho.2 b h4).1,(ho.2 b h4).2,fun r' hr'=>hw.noLock h1 (fun _ h=>h) hr' h4⟩
 ·have h4:(famRow w0.heap.size adr sz L l).sup b:=⟨r,h,h3⟩
  have ho:=hw.old _ h2
  exact ⟨(ho.2 b h4).1,(ho.2 b h4).2,fun r' hr'=>hw.noLock h2 (fun _ h=>h) hr' h4⟩
theorem J.famTo (o':List A) (h1:famRow C.w0.heap.size adr sz L o∈M) (h2:famRow C.w0.heap.size adr sz L l∈M) (hs:∀ r∈o',r∈o∨r∈l) (hk:J C st (famRow C.w0.heap.size adr sz L o'::M) k):J C st M k:=.mk fun ac w hf hd hw=>hk.go ac w hf hd (Sat.famTo hw h1 h2 hs)
theorem Sat.ownSlR {f:A→List Value}{base n c E:Nat}{a:Option Addr}{w0 w:World} (hf:∀ x,(f x).length=sz) (hw:Sat w0 (.own base (.slice a n c) E sz n (flat f l)::M) w) (hn:l.length=n):Sat w0 (slRow w0.heap.size a sz (l.map f)::M) w:=by
 have h1:=SlAt.ofOwn hf (hw.hold _ (.head _)) hn
 refine (hw.forget (List.sublist_cons_self _ _)).addSl h1 fun p hp2 r hr hl=>?_
 subst hp2
 exact ((List.pairwise_cons.1 hw.apart).1 r hr p.block).1 rfl (Row.lock_sup hl)
end
end Go.Sl
namespace Go.Proofs.YtcdgibkbbcekhaaGreatDoor
open Go.RowKit Go.Sl Go.Num
abbrev hfam (N:Nat) (X:List Hst):Row:=famRow N Hst.adr 1 (fun p:Hst=>p.hs.map isV) X
def HstF (f:Int) (p:Hst):Prop:=p.f=f∧p.hs.length=p.n∧p.n≤p.cap
def RetH (P:List Hst→Prop) (b0:Option Addr) (hs0:List Int) (w:World) (e:Ending) (w':World):Prop :=
 ∃ X a' c',P X∧e=.returned (.slice a' X.length c')∧SlAt w' a' 2 (X.map hstV)∧(∀ p∈X,SlAt w' p.adr 1 (p.hs.map isV))∧(∀ p,a'=some p→w.heap.size≤p.block)∧(∀ p∈X,p.hs.length=0∨(∀ q,p.adr=some q→w.heap.size≤q.block)∨(p.adr=b0∧p.hs=hs0))∧Below w.heap.size w w'
structure RtH (P:List Hst→Prop) (w0:World) (b0:Option Addr) (hs0:List Int) (x:List Hst×Option Addr×Nat):Prop where
 p:P x.1
 a:∀ p,x.2.1=some p→w0.heap.size≤p.block
 f:0 < x.1.length→∃ b off,x.2.1=some ⟨b,off,none⟩
 n:∀ p∈x.1,p.hs.length=0∨(∀ q,p.adr=some q→w0.heap.size≤q.block)∨(p.adr=b0∧p.hs=hs0)
theorem Sat.retH {w0 w w':World}{M:List Row}{P:List Hst→Prop}{b0:Option Addr}{hs0:List Int}{e:Ending} (hw:Sat w0 M w) (h:RetH P b0 hs0 w e w') (h0:slRow w0.heap.size b0 1 (hs0.map isV)∈M):∃ x:{ x:List Hst×Option Addr×Nat // RtH P w0 b0 hs0 x },e=.returned (.slice x.1.2.1 x.1.1.length x.1.2.2)∧Sat w0 (slRow w0.heap.size x.1.2.1 2 (x.1.1.map hstV)::hfam w0.heap.size x.1.1::M) w':=by
 obtain ⟨X,a',c',hP,rfl,h1,h2,h3,h4,hb⟩:=h
 have hw':=hw.ext hb
 have hf:∀ b,w.heap.size≤b→w0.heap.size≤b→∀ r∈M,¬ r.lock b:=fun b hb _ r hr hl=>by have:=((hw.old r hr).2 b (Row.lock_sup hl)).2;omega
 have hw2:Sat w0 (hfam w0.heap.size X::M) w':=by
  refine hw'.addFact (Nat.le_refl _) h2 fun b hbb=>?_
  obtain ⟨r,hr,g1,p,g2,g3,g4⟩:=hbb
  dsimp only at g1 g2 g3 g4
  have hlt:=SlAt.lt (h2 r hr) g1 p g2
  rw [List.length_map] at g1
  rcases h4 r hr with g5|g5|⟨g5,g6⟩
  ·omega
  ·have:=g5 p g2
   subst g3
   exact ⟨g4,hlt,hf _ this g4⟩
  ·have g8:(slRow w0.heap.size b0 1 (hs0.map isV)).sup b:=⟨by rw [← g6,List.length_map];exact g1,p,g5 ▸ g2,g3,g4⟩
   have ho:=hw'.old _ h0
   exact ⟨(ho.2 b g8).1,(ho.2 b g8).2,fun r'' hr''=>hw'.noLock h0 (fun _ h=>h) hr'' g8⟩
 refine ⟨⟨(X,a',c'),hP,fun p hp=>Nat.le_trans hw.size (h3 p hp),fun h0=>(let ⟨b,off,e,_⟩:=h1 (by rw [List.length_map];exact h0);⟨b,off,e⟩),fun p hp=>(h4 p hp).imp id (Or.imp (fun h q hq=>Nat.le_trans hw.size (h q hq)) id)⟩,rfl,hw2.addFact (Nat.le_refl _) h1 fun b hbb=>?_⟩
 obtain ⟨h5,p,h6,h7,h8⟩:=hbb
 dsimp only at h5 h6
 have hlt:=SlAt.lt h1 h5 p h6
 have:=h3 p h6
 subst h7
 refine ⟨h8,hlt,fun r hr=>?_⟩
 rcases List.mem_cons.1 hr with rfl|hr
 ·exact fun h=>h
 ·exact hf _ this h8 r hr
def allE (l:List Rn) (f:Int):Nat→List Int→List (List Int)
 | 0,hs=>if agreeB l f hs=true then [hs] else []
 | m+1,hs=>st4.flatMap fun s=>allE l f m (hs++[s])
theorem allE_len (l:List Rn) (f:Int):∀ (m:Nat) (hs:List Int),(allE l f m hs).length≤4 ^ m
 | 0,hs=>by rw [allE];split<;>simp
 | m+1,hs=>by
  have h:=fun s=>allE_len l f m (hs++[s])
  have h0:=h 0
  have h1:=h 1
  have h2:=h 2
  have h3:=h 3
  rw [allE,st4,List.flatMap_cons,List.flatMap_cons,List.flatMap_cons,List.flatMap_cons,List.flatMap_nil,List.append_nil,List.length_append,List.length_append,List.length_append,Nat.pow_succ]
  omega
theorem allE_eq (l:List Rn) (f:Int):∀ (m:Nat) (hs:List Int),allE l f m hs=((seqs m).map (hs++·)).filter fun S=>agreeB l f S
 | 0,hs=>by
  rw [allE,seqs,List.map_cons,List.map_nil,List.append_nil,List.filter_cons]
  split<;>simp_all
 | m+1,hs=>by
  rw [allE,seqs,List.map_flatMap,List.filter_flatMap]
  congr 1
  funext s
  rw [allE_eq l f m,List.map_map]
  congr 1
  refine List.map_congr_left fun S _=>?_
  show hs++[s]++S=hs++(s::S)
  rw [List.append_assoc];rfl
theorem st4_at (s:Nat) (h:s < 4):(st4.take (s+1))=st4.take s++[(s:Int)]:=by
 match s,h with
 | 0,_=>rfl
 | 1,_=>rfl
 | 2,_=>rfl
 | 3,_=>rfl
theorem allE_hist {l:List Rn} (hE:runsErr l=0) (h0:l≠[]) (m:Nat):allE l (headD' l).from_ m []=hist l m:=by
 obtain ⟨hO,_,_⟩:=runs_ok hE
 rw [allE_eq,hist,show ((seqs m).map ([]++·))=seqs m from List.map_id' _]
 refine List.filter_congr fun S _=>?_
 rw [Bool.eq_iff_iff,agreeB_iff hE h0,agB_iff hO]
 exact ⟨fun h=>h.2,fun h=>⟨rfl,h⟩⟩
def FlP (l:List Rn) (f:Int) (m:Nat) (hs:List Int) (X:List Hst):Prop:=X.map Hst.hs=allE l f m hs∧∀ p∈X,HstF f p
theorem retH_nil {P:List Hst→Prop}{b0:Option Addr}{hs0:List Int}{w w':World} (hP:P []) (hb:Below w.heap.size w w'):RetH P b0 hs0 w (.returned (.slice none 0 0)) w':=⟨[],none,0,hP,rfl,fun h=>absurd h (Nat.lt_irrefl _),fun p hp=>(by cases hp),fun p hp=>(by cases hp),fun p hp=>(by cases hp),hb⟩
theorem retH_one {f:Int}{b:Option Addr}{hs:List Int}{d B:Nat}{tot:Nat}{M:List Row}{w w':World}{P:List Hst→Prop} (hP:P [⟨f,b,hs.length,d,hs⟩]) (hB:SlAt w b 1 (hs.map isV)) (hw:Sat w M w') (hm:Row.blk B 46 [.int .i64 f,.slice b hs.length d] tot∈M):RetH P b hs w (.returned (.slice (some ⟨B,0,none⟩) 1 1)) w' :=
 ⟨[⟨f,b,hs.length,d,hs⟩],some ⟨B,0,none⟩,1,hP,rfl,SlAt.ofBlk (f:=hstV) (l:=[⟨f,b,hs.length,d,hs⟩]) hstV_len hw hm,fun p hp=>by rw [List.mem_singleton.1 hp];exact hB.below hw.below,fun p hp=>by cases hp;exact ((hw.old _ hm).2 B rfl).1,fun p hp=>by rw [List.mem_singleton.1 hp];exact .inr (.inr ⟨rfl,rfl⟩),hw.below⟩
set_option maxHeartbeats 4000000 in
theorem follow0_holds (a:Option Addr) (l:List Rn) (c:Nat) (f:Int) (hl:l.length≤1000) (hta:∀ r∈l,r.tab.length≤64) (hf:0≤f∧f≤1402560) (hto:∀ r∈l,0≤r.to_∧r.to_≤1402560) (b:Option Addr) (hs:List Int) (d:Nat) (w:World) (hA:RunsAt w a l) (hB:SlAt w b 1 (hs.map isV)) (hd:hs.length≤d) (hlast:∀ h:l.length-1 < l.length,f+hs.length=l[l.length-1].to_) (hh:hs.length≤100) :
  Calls Tryz.prog 110 #[.slice a l.length c,.agg #[.int .i64 f,.slice b hs.length d],.int .i64 4] w (RetH (FlP l f 0 hs) b hs w):=by
 have hag:=fun w' (hb:Below w.heap.size w w')=>rAgree_holds a b l f hs c d w' (hA.below hb) (hB.below hb) hta hd (by omega)
 have hE:allE l f 0 hs=if agreeB l f hs=true then [hs] else []:=rfl
 have hP1:agreeB l f hs=true→FlP l f 0 hs [⟨f,b,hs.length,d,hs⟩]:=fun h=>⟨by rw [hE,if_pos h];rfl,fun p hp=>by rw [List.mem_singleton.1 hp];exact ⟨rfl,rfl,hd⟩⟩
 have hP0:agreeB l f hs=false→FlP l f 0 hs []:=fun h=>⟨by rw [hE,if_neg (by rw [h];decide)];rfl,fun p hp=>by cases hp⟩
 clear hE
 generalize agreeB l f hs=g at *
 by_cases h0:l.length=0
 case pos =>
  refine enterA [(0,.slice a l.length c),(1,.agg #[.int .i64 f,.slice b hs.length d]),(2,.int .i64 4)] Tryz.func110 Tryz.ntmps110 ?_
  cases g
  ·skip
   all_goals (refine go ?_;and_intros<;>(try exact trivial)<;>repeat (first|refine fun (Bk:Nat)=>?_|intro h))
   repeat' ((first|(apply G.cV (g:=31);rfl;rfl;exact fun w' hw'=>hag w' hw'.below))<;>(refine go ?_;and_intros<;>(try exact trivial)<;>repeat (first|refine fun (Bk:Nat)=>?_|intro h)))
   refine ret1 Tryz.func110 Tryz.results110 ?_
   intro w' hw'
   exact retH_nil (hP0 rfl) hw'.below
  ·skip
   all_goals (refine go ?_;and_intros<;>(try exact trivial)<;>repeat (first|refine fun (Bk:Nat)=>?_|intro h))
   repeat' ((first|(apply G.cV (g:=31);rfl;rfl;exact fun w' hw'=>hag w' hw'.below)|(apply G.sliceL;rfl;rfl;rfl;rfl;rfl;rfl;rfl;rfl;intro Bs))<;>(refine go ?_;and_intros<;>(try exact trivial)<;>repeat (first|refine fun (Bk:Nat)=>?_|intro h)))
   refine ret1 Tryz.func110 Tryz.results110 ?_
   intro w' hw'
   exact retH_one (hP1 rfl) hB hw' (.head _)
 have hlt:l.length-1 < l.length:=by omega
 have hz:(l.length:Int)-1=((l.length-1:Nat):Int):=by omega
 obtain ⟨ba,oa,rfl,hra⟩:=SlAt.all hA.1 (by omega)
 have r1:=hra (l.length-1) hlt
 have hx:=hlast hlt
 have hx2:=hto _ (List.getElem_mem hlt)
 clear hra hlast
 generalize l[l.length-1]=x at *
 obtain ⟨xf,xt,xtab,xa,xc,xlo,xhi⟩:=x
 dsimp only [rnV] at *
 refine enterA [(0,.slice (some ⟨ba,oa,none⟩) l.length c),(1,.agg #[.int .i64 f,.slice b hs.length d]),(2,.int .i64 4)] Tryz.func110 Tryz.ntmps110 ?_
 cases g
 ·skip
  all_goals (refine go ?_;and_intros<;>(try exact trivial)<;>repeat (first|refine fun (Bk:Nat)=>?_|intro h))
  repeat' ((first|(apply G.cV (g:=31);rfl;rfl;exact fun w' hw'=>hag w' hw'.below)|(apply G.ix (i:=l.length-1);rfl;rfl;exact hz;exact hlt;rfl))<;>(refine go ?_;and_intros<;>(try exact trivial)<;>repeat (first|refine fun (Bk:Nat)=>?_|intro h)))
  refine ret1 Tryz.func110 Tryz.results110 ?_
  intro w' hw'
  exact retH_nil (hP0 rfl) hw'.below
 ·skip
  all_goals (refine go ?_;and_intros<;>(try exact trivial)<;>repeat (first|refine fun (Bk:Nat)=>?_|intro h))
  repeat' ((first|(apply G.cV (g:=31);rfl;rfl;exact fun w' hw'=>hag w' hw'.below)|(apply G.sliceL;rfl;rfl;rfl;rfl;rfl;rfl;rfl;rfl;intro Bs)|(apply G.ix (i:=l.length-1);rfl;rfl;exact hz;exact hlt;rfl))<;>(refine go ?_;and_intros<;>(try exact trivial)<;>repeat (first|refine fun (Bk:Nat)=>?_|intro h)))
  refine ret1 Tryz.func110 Tryz.results110 ?_
  intro w' hw'
  exact retH_one (hP1 rfl) hB hw' (.head _)
structure FlX (w0:World) (P:List Hst→Prop) (x:List Hst×Option Addr×Nat):Prop where
 p:P x.1
 a:∀ p,x.2.1=some p→w0.heap.size≤p.block
 f:0 < x.1.length→∃ b off,x.2.1=some ⟨b,off,none⟩
 n:∀ p∈x.1,p.hs.length=0∨∀ q,p.adr=some q→w0.heap.size≤q.block
theorem Sat.retOwn {w0 w w':World}{M:List Row}{P:List Hst→Prop}{b0:Option Addr}{hs0:List Int}{c n E base:Nat}{e:Ending} (hw:Sat w0 (.own base (.slice b0 n c) E 1 n (flat isV hs0)::M) w) (hn:hs0.length=n) (h:RetH P b0 hs0 w e w'):∃ x:{ x:List Hst×Option Addr×Nat // FlX w0 P x },e=.returned (.slice x.1.2.1 x.1.1.length x.1.2.2)∧Sat w0 (slRow w0.heap.size x.1.2.1 2 (x.1.1.map hstV)::hfam w0.heap.size x.1.1::M) w':=by
 have hb:=fun p (hp:b0=some p)=>((hw.old _ (.head _)).2 p.block (by subst hp;rfl)).1
 obtain ⟨⟨x,hx⟩,h1,h2⟩:=Sat.retH (Sat.ownSlR isV_len hw hn) h (.head _)
 exact ⟨⟨x,hx.p,hx.a,hx.f,fun p hp=>(hx.n p hp).imp id fun h=>h.elim id fun ⟨h,_⟩ q hq=>hb q (h ▸ hq)⟩,h1,h2.forget (.cons_cons _ (.cons_cons _ (List.sublist_cons_self _ _)))⟩
set_option maxHeartbeats 4000000 in
theorem follow_holds (a:Option Addr) (l:List Rn) (c:Nat) (f:Int) (hl:l.length≤1000) (hta:∀ r∈l,r.tab.length≤64) (hf:0≤f∧f≤1402560) (hto:∀ r∈l,0≤r.to_∧r.to_≤1402560) (m:Nat):∀ (b:Option Addr) (hs:List Int) (d:Nat) (w:World),RunsAt w a l→SlAt w b 1 (hs.map isV)→hs.length≤d→(m≠0→l.length≠0)→(∀ h:l.length-1 < l.length,f+hs.length+m=l[l.length-1].to_)→m≤6→hs.length+m≤100 →
  Calls Tryz.prog 110 #[.slice a l.length c,.agg #[.int .i64 f,.slice b hs.length d],.int .i64 4] w (RetH (FlP l f m hs) b hs w):=by
 induction m with
 | zero=>exact fun b hs d w hA hB hd _ hlast _ hh=>follow0_holds a l c f hl hta hf hto b hs d w hA hB hd (fun h=>by have:=hlast h;omega) hh
 | succ m ihm =>
  intro b hs d w hA hB hd hm0 hlast hm6 hh
  have h0:=hm0 (by omega)
  have hlt:l.length-1 < l.length:=by omega
  have hz:(l.length:Int)-1=((l.length-1:Nat):Int):=by omega
  have hN:∀ (z:Int) (a3:Option Addr) (c3:Nat) (M1:List Row) (w':World),Sat w (.own 0 (.slice a3 (hs.length+1) c3) 3 1 (hs.length+1) (flat isV (hs++[z]))::M1) w'→Calls Tryz.prog 110 #[.slice a l.length c,.agg #[.int .i64 f,.slice a3 (hs.length+1) c3],.int .i64 4] w' fun e w2=>∃ x:{ x:List Hst×Option Addr×Nat // FlX w (FlP l f m (hs++[z])) x },e=.returned (.slice x.1.2.1 x.1.1.length x.1.2.2)∧Sat w ([slRow w.heap.size x.1.2.1 2 (x.1.1.map hstV),hfam w.heap.size x.1.1]++M1) w2:=fun z a3 c3 M1 w' hw'=>by
   have e1:(hs++[z]).length=hs.length+1:=by simp
   have h1:=ihm a3 (hs++[z]) c3 w' (hA.below hw'.below) (SlAt.ofOwn isV_len (hw'.hold _ (.head _)) e1) (by rw [e1];exact sat_ownCap hw' (.head _)) (fun _=>h0) (fun h=>by have:=hlast h;rw [e1];omega) (by omega) (by omega)
   rw [e1] at h1
   exact h1.mono fun e w2 h=>Sat.retOwn hw' e1 h
  have hlen:∀ z,(allE l f m (hs++[z])).length≤4096:=fun z=>Nat.le_trans (allE_len l f m _) (show 4 ^ m≤4 ^ 6 from Nat.pow_le_pow_right (by decide) (by omega))
  have hX:∀ {z:Int}{X:List Hst},FlP l f m (hs++[z]) X→X.length≤4096:=fun {z X} h=>by rw [← List.length_map (f:=Hst.hs),h.1];exact hlen z
  obtain ⟨ba,oa,rfl,hra⟩:=SlAt.all hA.1 (by omega)
  have r1:=hra (l.length-1) hlt
  have hx:=hlast hlt
  have hx2:=hto _ (List.getElem_mem hlt)
  clear hra hlast ihm
  generalize l[l.length-1]=x at *
  obtain ⟨xf,xt,xtab,xa,xc,xlo,xhi⟩:=x
  dsimp only [rnV] at *
  refine enterA [(0,.slice (some ⟨ba,oa,none⟩) l.length c),(1,.agg #[.int .i64 f,.slice b hs.length d]),(2,.int .i64 4)] Tryz.func110 Tryz.ntmps110 ?_
  all_goals (refine go ?_;and_intros<;>(try exact trivial)<;>repeat (first|refine fun (Bk:Nat)=>?_|intro h))
  repeat' ((first|(apply G.ix (i:=l.length-1);rfl;rfl;exact hz;exact hlt;rfl))<;>(refine go ?_;and_intros<;>(try exact trivial)<;>repeat (first|refine fun (Bk:Nat)=>?_|intro h)))
  apply J.nilOwn (E:=46) (size:=2)
  refine J.fam0 Hst.adr 1 (fun p:Hst=>p.hs.map isV) ?_
  refine J.loop (c:=_) ((0,none,0,0,[]):Nat×Option Addr×Nat×Nat×List Hst) (fun s=>4-s.1) (fun s=>[(0,.slice (some ⟨ba,oa,none⟩) l.length c),(2,.int .i64 4),(4,.pointer (some ⟨Bk,0,none⟩)),(8,.slice s.2.1 s.2.2.2.1 s.2.2.1),(9,.int .i64 s.1)]) (fun s=>[hfam w.heap.size s.2.2.2.2,.own 0 (.slice s.2.1 s.2.2.2.1 s.2.2.1) 46 2 s.2.2.2.1 (flat hstV s.2.2.2.2),.blk Bk 46 [.int .i64 f,.slice b hs.length d] 2]) (fun s=>s.1≤4∧s.2.2.2.2.length=s.2.2.2.1∧s.2.2.2.1≤s.1*4096∧s.2.2.2.2.map Hst.hs=(st4.take s.1).flatMap (fun z=>allE l f m (hs++[z]))∧(∀ p∈s.2.2.2.2,HstF f p)∧∀ p∈s.2.2.2.2,p.hs.length=0∨∀ q,p.adr=some q→w.heap.size≤q.block) ?_ sbT sbL ?_
  ·exact ⟨Nat.zero_le _,rfl,Nat.zero_le _,rfl,fun p hp=>(by cases hp),fun p hp=>(by cases hp)⟩
  intro ⟨k,ao,co,n,D⟩ ⟨e1,e2,e3,e4,e5,e6⟩ ih
  dsimp only at e1 e2 e3 e4 e5 e6 ⊢
  by_cases hk:k < 4
  ·have hst:=st4_at k hk
   have hap:flat isV hs++[.int .i64 (k:Int)]=flat isV (hs++[(k:Int)]):=flat1 isV hs (k:Int)
   have hNk:=hN (k:Int)
   have hXk:=fun X h=>hX (z:=(k:Int)) (X:=X) h
   clear hN hX hlen
   all_goals (refine goR ?_;and_intros<;>(try exact trivial)<;>repeat (first|refine fun (Bk:Nat)=>?_|intro h))
   repeat' ((first|(apply J.regS [.blk Bk _ _ _] (.q 0 <| .q 1 <| .q 2 <| .q 3 <| .q 5 <| .q 6 <| .q 8 <| .q 12 <| .f 4 (.f 7 (.e 9 <| .e 10 <| .q 11 <| .r 13 <| .r 14 <| .q 15 <| .nil) 9 (.e 7 <| .e 10 <| .q 11 <| .r 13 <| .r 14 <| .q 15 <| .nil)) 9 (.e 4 <| .e 7 <| .e 10 <| .q 11 <| .r 13 <| .r 14 <| .q 15 <| .nil));exact Tryz.mixed;decide +kernel;(repeat' (first|exact List.nil_sublist _|exact List.Sublist.refl _|apply List.Sublist.cons_cons|apply List.Sublist.cons)))|(apply G.forkS)|(apply G.slE;rfl;intro Be)|(apply G.sliceL;rfl;rfl;rfl;rfl;rfl;rfl;rfl;rfl;intro Bs)|(apply G.apSOF;rfl;rfl;rfl;(repeat (first|exact RAt.head|apply RAt.tail));exact SrcV.old isV_len isV_one hB;exact List.nil_append _;omega;omega;intro v';(repeat' (first|exact List.nil_sublist _|exact List.Sublist.refl _|apply List.Sublist.cons_cons|apply List.Sublist.cons));intro v';exact mm;rw [Nat.zero_add];intro a2 c2)|(apply G.apSF;rfl;rfl;rfl;(repeat (first|exact RAt.head|apply RAt.tail));exact SrcV.old isV_len isV_one hB;exact List.nil_append _;omega;omega;intro v';(repeat' (first|exact List.nil_sublist _|exact List.Sublist.refl _|apply List.Sublist.cons_cons|apply List.Sublist.cons));intro v';exact mm;rw [Nat.zero_add];intro a2 c2)|(apply G.apSF;rfl;rfl;rfl;(repeat (first|exact RAt.head|apply RAt.tail));exact SrcV.blk (by exact mm) rfl rfl;exact hap;omega;omega;intro v';(repeat' (first|exact List.nil_sublist _|exact List.Sublist.refl _|apply List.Sublist.cons_cons|apply List.Sublist.cons));intro v';exact mm;intro a3 c3)|(refine G.cP (g:=110) (X:={ x:List Hst×Option Addr×Nat // FlX w (FlP l f m (hs++[(k:Int)])) x }) (fun x=>.slice x.1.2.1 x.1.1.length x.1.2.2) [.own 0 (.slice a3 (hs.length+1) c3) 3 1 (hs.length+1) (flat isV (hs++[(k:Int)]))] (fun x=>[slRow w.heap.size x.1.2.1 2 (x.1.1.map hstV),hfam w.heap.size x.1.1]) rfl rfl (Pick.perm (by (repeat (first|exact Pick.head|apply Pick.tail)))) ?_ ?_;exact fun w' hw'=>hNk a3 c3 _ w' hw';intro ⟨⟨X,ax,cx⟩,hX1⟩;have hX3:=hXk X hX1.p;dsimp only)|(apply G.apV;rfl;rfl;rfl;(repeat (first|exact RAt.head|apply RAt.tail));exact SrcV.sl (l:=X) hstV_len hstV_one (fun h=>hX1.f (by rwa [List.length_map] at h)) mm;exact (flat_append hstV D X).symm;omega;omega;intro a5 c5))<;>(refine goR ?_;and_intros<;>(try exact trivial)<;>repeat (first|refine fun (Bk:Nat)=>?_|intro h)))
   all_goals
    refine J.famTo (D++X) mm mm (fun p hp=>List.mem_append.1 hp) ?_
    exact J.fin (ih (k+1,a5,c5,n+X.length,D++X) ⟨hk,by rw [List.length_append,e2],by dsimp only;omega,by rw [hst,List.flatMap_append,List.map_append,e4,hX1.p.1,List.flatMap_cons,List.flatMap_nil,List.append_nil],fun p hp=>(List.mem_append.1 hp).elim (e5 p) (hX1.p.2 p),fun p hp=>(List.mem_append.1 hp).elim (e6 p) (hX1.n p)⟩ (by dsimp only;omega))
  obtain rfl:k=4:=by omega
  clear ih
  all_goals (refine go ?_;and_intros<;>(try exact trivial)<;>repeat (first|refine fun (Bk:Nat)=>?_|intro h))
  refine ret1 Tryz.func110 Tryz.results110 ?_
  intro w' hw'
  have hm:Row.own 0 (.slice ao n co) 46 2 n (flat hstV D)∈([hfam w.heap.size D,.own 0 (.slice ao n co) 46 2 n (flat hstV D),.blk Bk 46 [.int .i64 f,.slice b hs.length d] 2]:List Row):=by exact mm
  have ho:=hw'.hold _ hm
  refine ⟨D,ao,co,⟨e4,e5⟩,by rw [e2],SlAt.ofOwn hstV_len ho e2,fun p hp=>hw'.fam (.head _) p hp,?_,fun p hp=>(e6 p hp).imp id .inl,hw'.below⟩
  rintro p rfl
  exact ((hw'.old _ hm).2 p.block rfl).1
theorem Sat.retH0 {w0 w w':World}{M:List Row}{P:List Hst→Prop}{e:Ending} (hw:Sat w0 M w) (h:RetH P none [] w e w'):∃ x:{ x:List Hst×Option Addr×Nat // FlX w0 P x },e=.returned (.slice x.1.2.1 x.1.1.length x.1.2.2)∧Sat w0 ([slRow w0.heap.size x.1.2.1 2 (x.1.1.map hstV),hfam w0.heap.size x.1.1]++M) w':=by
 have hw2:Sat w0 (slRow w0.heap.size none 1 (([]:List Int).map isV)::M) w:=hw.addSl SlAt.nil fun p hp=>(by cases hp)
 obtain ⟨⟨x,hx⟩,h1,h2⟩:=Sat.retH hw2 h (.head _)
 exact ⟨⟨x,hx.p,hx.a,hx.f,fun p hp=>(hx.n p hp).imp id fun h=>h.elim id fun ⟨h,_⟩ q hq=>by rw [h] at hq;cases hq⟩,h1,h2.forget (.cons_cons _ (.cons_cons _ (List.sublist_cons_self _ _)))⟩
def HiP (l:List Rn) (f:Int) (m:Nat) (X:List Hst):Prop:=X.map Hst.hs=hist l m∧∀ p∈X,HstF f p
theorem histories_holds (a:Option Addr) (l:List Rn) (c:Nat) (f:Int) (m:Nat) (w:World) (hA:RunsAt w a l) (hl:l.length≤1000) (hta:∀ r∈l,r.tab.length≤64) (hE:runsErr l=0) (h0:l=[]→f=0∧m=0) (h1:l≠[]→f=(headD' l).from_∧f+m=(lastD l).to_) (hm6:m≤6) :
  Calls Tryz.prog 45 #[.slice a l.length c,.int .i64 4] w (RetH (HiP l f m) none [] w):=by
 obtain ⟨hO,_,hC⟩:=runs_ok hE
 have hrng:=fun r hr=>(hO r hr).rng
 have hP:FlP l f m []=HiP l f m:=by
  by_cases hn:l=[]
  ·obtain ⟨rfl,rfl⟩:=h0 hn
   rw [hn];rfl
  ·obtain ⟨e1,_⟩:=h1 hn
   funext X
   rw [FlP,HiP,e1,allE_hist hE hn]
 have hfl:=fun w' (hb:Below w.heap.size w w') (h2:0≤f∧f≤1402560) h3 h4=>follow_holds a l c f hl hta h2 (fun r hr=>by have:=hrng r hr;omega) m none [] 0 w' (hA.below hb) SlAt.nil (Nat.le_refl _) h3 h4 hm6 (by rw [List.length_nil];omega)
 rw [hP] at hfl
 clear hP
 by_cases hn:l.length=0
 ·obtain ⟨rfl,rfl⟩:=h0 (List.length_eq_zero_iff.1 hn)
  have hfl:=fun w' hb=>hfl w' hb (by omega) (fun h=>absurd rfl h) (fun h=>by omega)
  refine enterA [(0,.slice a l.length c),(1,.int .i64 4)] Tryz.func45 Tryz.ntmps45 ?_
  all_goals (refine go ?_;and_intros<;>(try exact trivial)<;>repeat (first|refine fun (Bk:Nat)=>?_|intro h))
  repeat' ((first|(refine G.cR (g:=110) (X:={ x:List Hst×Option Addr×Nat // FlX w (HiP l 0 0) x }) (v:=fun x=>.slice x.1.2.1 x.1.1.length x.1.2.2) (Mn:=fun x=>[slRow w.heap.size x.1.2.1 2 (x.1.1.map hstV),hfam w.heap.size x.1.1]) rfl rfl ?_ ?_;exact fun w' hw'=>(hfl w' hw'.below).mono fun e w2 h=>Sat.retH0 hw' h;intro ⟨⟨X,ax,cx⟩,hX1⟩;dsimp only))<;>(refine go ?_;and_intros<;>(try exact trivial)<;>repeat (first|refine fun (Bk:Nat)=>?_|intro h)))
  refine ret1 Tryz.func45 Tryz.results45 ?_
  intro w' hw'
  exact ⟨X,ax,cx,hX1.p,rfl,hw'.sl (.head _),fun p hp=>hw'.fam (L:=fun p:Hst=>p.hs.map isV) (.tail _ (.head _)) p hp,hX1.a,fun p hp=>(hX1.n p hp).imp id .inl,hw'.below⟩
 ·obtain ⟨e1,e2⟩:=h1 fun h=>hn (by rw [h];rfl)
  have h00:0 < l.length:=by omega
  rw [lastD_at h00] at e2
  have hr0:=hrng _ (List.getElem_mem h00)
  rw [headD_at h00] at e1
  have hfl:=fun w' hb=>hfl w' hb (by omega) (fun _=>hn) (fun h=>by rw [List.length_nil];omega)
  obtain ⟨ba,oa,rfl,hra⟩:=SlAt.all hA.1 (by omega)
  have r0:=hra 0 h00
  clear hra hrng
  generalize l[0]=x at *
  obtain ⟨xf,xt,xtab,xa,xc,xlo,xhi⟩:=x
  dsimp only [rnV] at *
  subst e1
  refine enterA [(0,.slice (some ⟨ba,oa,none⟩) l.length c),(1,.int .i64 4)] Tryz.func45 Tryz.ntmps45 ?_
  all_goals (refine go ?_;and_intros<;>(try exact trivial)<;>repeat (first|refine fun (Bk:Nat)=>?_|intro h))
  repeat' ((first|(refine G.cR (g:=110) (X:={ x:List Hst×Option Addr×Nat // FlX w (HiP l f m) x }) (v:=fun x=>.slice x.1.2.1 x.1.1.length x.1.2.2) (Mn:=fun x=>[slRow w.heap.size x.1.2.1 2 (x.1.1.map hstV),hfam w.heap.size x.1.1]) rfl rfl ?_ ?_;exact fun w' hw'=>(hfl w' hw'.below).mono fun e w2 h=>Sat.retH0 hw' h;intro ⟨⟨X,ax,cx⟩,hX1⟩;dsimp only))<;>(refine go ?_;and_intros<;>(try exact trivial)<;>repeat (first|refine fun (Bk:Nat)=>?_|intro h)))
  refine ret1 Tryz.func45 Tryz.results45 ?_
  intro w' hw'
  exact ⟨X,ax,cx,hX1.p,rfl,hw'.sl (.head _),fun p hp=>hw'.fam (L:=fun p:Hst=>p.hs.map isV) (.tail _ (.head _)) p hp,hX1.a,fun p hp=>(hX1.n p hp).imp id .inl,hw'.below⟩
end Go.Proofs.YtcdgibkbbcekhaaGreatDoor
/-
 The law RunsCountHistories.
-/
namespace Go.Proofs.YtcdgibkbbcekhaaGreatDoor
open Go.RowKit Go.Sl Go.Num
theorem sorted_last:∀ (t:List (Int×Int)) (q:Option (Int×Int)),sortedT q t=true→∀ x∈t,x.1≤(t.getLastD (0,0)).1
 | [],_,_,x,hx=>by cases hx
 | [y],_,_,x,hx=>by rw [List.mem_singleton.1 hx];exact Int.le_refl _
 | y::z::t,q,h,x,hx=>by
  have h:((match q with|none=>true|some q=>decide (q.1 < y.1)) && sortedT (some y) (z::t))=true:=by cases q<;>exact h
  rw [Bool.and_eq_true] at h
  have ih:=sorted_last (z::t) (some y) h.2
  have e:(y::z::t).getLastD (0,0)=(z::t).getLastD (0,0):=by simp [List.getLastD]
  rw [e]
  rcases List.mem_cons.1 hx with rfl|hx
  ·have h2:=h.2
   rw [sortedT,Bool.and_eq_true,decide_eq_true_eq] at h2
   have:=ih z (List.mem_cons_self ..)
   omega
  ·exact ih x hx
def Bad4 (x:Rn):Prop:=3 < x.hi∨(x.tab.length≠0∧3 < (x.tab.getLastD (0,0)).1)
theorem sm4 {x:Rn} (h:OkR x) (hb:¬ Bad4 x):Sm4 x:=by
 refine ⟨fun _=>?_,fun y hy=>?_⟩
 ·exact Int.not_lt.1 fun e=>hb (.inl e)
 ·have h0:x.tab.length≠0:=fun e=>by rw [List.length_eq_zero_iff.1 e] at hy;cases hy
  have h1:¬ 3 < (x.tab.getLastD (0,0)).1:=fun e=>hb (.inr ⟨h0,e⟩)
  obtain ⟨_,h2,_⟩:=oneE_tab h.2 h0
  have:=sorted_last x.tab none h2 y hy
  omega
theorem seqs_len:∀ n,(seqs n).length=4 ^ n
 | 0=>rfl
 | n+1=>by rw [seqs,length_prod,seqs_len n,Nat.pow_succ,Nat.mul_comm];rfl
theorem first_hd {l:List Rn} (h:l≠[]):firstF l=(headD' l).from_:=by cases l with
 | nil=>exact absurd rfl h
 | cons x l=>rfl
set_option maxHeartbeats 4000000 in
theorem runs6_holds (w:World) (a:Option Addr) (l:List Rn) (c:Nat) (hA:RunsAt w a l) :
  Calls Tryz.prog 9 #[.slice a l.length c] w fun e w'=>e=.returned (.bool true)∧Below w.heap.size w w':=by
 have hfw:=fun w' (hb:Below w.heap.size w w')=>rFew_holds a l c 6 6 w' (hA.below hb) (by decide)
 by_cases hfe:fewR 6 6 l
 case neg =>
  rw [decide_eq_false hfe] at hfw
  clear hfe
  refine enterA [(0,.slice a l.length c)] Tryz.func9 Tryz.ntmps9 ?_
  all_goals (refine go ?_;and_intros<;>(try exact trivial)<;>repeat (first|refine fun (Bk:Nat)=>?_|intro h))
  repeat' ((first|(apply G.cV (g:=44);rfl;rfl;exact fun w' hw'=>hfw w' hw'.below)|(apply G.cV (g:=20);rfl;rfl;exact fun w' _=>sanity16_holds w'))<;>(refine go ?_;and_intros<;>(try exact trivial)<;>repeat (first|refine fun (Bk:Nat)=>?_|intro h)))
  all_goals refine ret1b Tryz.func9 Tryz.results9 ?_
  all_goals rfl
 rw [decide_eq_true hfe] at hfw
 have hl:=hfe.1
 have ht:∀ r∈l,r.tab.length≤64:=fun r hr=>Nat.le_trans (hfe.2.1 r hr) (by decide)
 have HK:=fun w' (hb:Below w.heap.size w w')=>vRuns_holds a l c w' (hA.below hb) ht
 by_cases hE:runsErr l=0
 case neg =>
  clear hfe
  generalize runsErr l=E at *
  refine enterA [(0,.slice a l.length c)] Tryz.func9 Tryz.ntmps9 ?_
  all_goals (refine go ?_;and_intros<;>(try exact trivial)<;>repeat (first|refine fun (Bk:Nat)=>?_|intro h))
  repeat' ((first|(apply G.cV (g:=44);rfl;rfl;exact fun w' hw'=>hfw w' hw'.below)|(apply G.cV (g:=20);rfl;rfl;exact fun w' _=>sanity16_holds w')|(apply G.cV (g:=27);rfl;rfl;exact fun w' hw'=>HK w' hw'.below))<;>(refine go ?_;and_intros<;>(try exact trivial)<;>repeat (first|refine fun (Bk:Nat)=>?_|intro h)))
  all_goals refine ret1b Tryz.func9 Tryz.results9 ?_
  all_goals rfl
 rw [hE] at HK
 obtain ⟨hO,_,hC⟩:=runs_ok hE
 obtain ⟨m,hm0,hm1,hm6⟩:∃ m:Nat,(l=[]→m=0)∧(l≠[]→(headD' l).from_+m=(lastD l).to_)∧m≤6:=by
  by_cases hn:l=[]
  ·exact ⟨0,fun _=>rfl,fun h=>absurd hn h,by decide⟩
  ·have h1:=(hC hn).1.le hO
   have h2:lenT l≤6:=hfe.2.2.elim (fun h=>absurd hE h) fun h=>h.elim (fun h=>absurd (List.length_eq_zero_iff.1 h) hn) id
   rw [lenT_eq hn] at h2
   exact ⟨((lastD l).to_-(headD' l).from_).toNat,fun h=>absurd h hn,fun _=>by omega,by omega⟩
 have hCn:Cn (firstF l) l (firstF l+m):=by
  by_cases hn:l=[]
  ·rw [hm0 hn,hn];exact (Int.add_zero _).symm
  ·rw [first_hd hn,hm1 hn];exact (hC hn).1
 have hcnt:=cntE_ok hCn hO (by omega)
 have HH:=fun w' (hb:Below w.heap.size w w')=>histories_holds a l c (firstF l) m w' (hA.below hb) (by omega) ht hE (fun h=>⟨by rw [h];rfl,hm0 h⟩) (fun h=>⟨first_hd h,by rw [first_hd h];exact hm1 h⟩) hm6
 have HC:=fun w' (hb:Below w.heap.size w w')=>vCount_holds a l c w' (hA.below hb) ht (by omega)
 rw [hcnt] at HC
 dsimp only at HC
 have HF:=fun w' (hb:Below w.heap.size w w')=>vFirst_holds a l c w' (hA.below hb) ht hE (by omega)
 have hall:(∀ r∈l,Sm4 r)→(hist l m).length=cntL l∧(hist l m).head?=some (firstS l):=fun h=>by
  have:=hist_all hCn hO h
  rwa [show (firstF l+m-firstF l).toNat=m by omega] at this
 have hcl:=cntL_le hCn hO (by omega)
 have hfl:(firstS l).length≤100:=by
  have:=AgS.len hCn hO (AgS.first hO)
  omega
 clear hcnt hfe hm0 hm1 hC
 refine enterA [(0,.slice a l.length c)] Tryz.func9 Tryz.ntmps9 ?_
 all_goals (refine go ?_;and_intros<;>(try exact trivial)<;>repeat (first|refine fun (Bk:Nat)=>?_|intro h))
 repeat' ((first|(apply G.cV (g:=44);rfl;rfl;exact fun w' hw'=>hfw w' hw'.below)|(apply G.cV (g:=27);rfl;rfl;exact fun w' hw'=>HK w' hw'.below))<;>(refine go ?_;and_intros<;>(try exact trivial)<;>repeat (first|refine fun (Bk:Nat)=>?_|intro h)))
 refine J.loop (c:=_) (0:Nat) (fun s=>l.length-s) (fun s=>[(0,.slice a l.length c),(23,.slice a l.length c),(24,.int .i64 l.length),(25,.int .i64 s)]) (fun s=>[]) (fun s=>s≤l.length∧∀ i (hi:i < l.length),i < s→¬ Bad4 l[i]) ?_ sbT sbL ?_
 ·exact ⟨Nat.zero_le _,fun i _ h=>absurd h (Nat.not_lt_zero _)⟩
 intro k ⟨h1,h2⟩ ih
 by_cases hk:k < l.length
 ·obtain ⟨ba,oa,rfl,hra⟩:=SlAt.all hA.1 (by omega)
  have rk:=hra k hk
  have hxm:=List.getElem_mem hk
  have hx:=hA.2 _ hxm
  have ht':=ht _ hxm
  have h3:¬ Bad4 l[k]→∀ i (hi:i < l.length),i < k+1→¬ Bad4 l[i]:=fun h i hi h4=>by
   rcases Nat.lt_or_ge i k with h5|h5
   ·exact h2 i hi h5
   ·obtain rfl:i=k:=by omega
    exact h
  have ih':=fun h=>ih (k+1) ⟨by omega,h3 h⟩ (by omega)
  clear ih h3 h2 hra hxm
  generalize l[k]=x at *
  obtain ⟨xf,xt,xtab,xa,xc,xlo,xhi⟩:=x
  dsimp only [rnV,TabAt,Bad4] at *
  by_cases c1:3 < xhi
  ·clear ih'
   all_goals (refine go ?_;and_intros<;>(try exact trivial)<;>repeat (first|refine fun (Bk:Nat)=>?_|intro h))
   repeat' ((first|(apply G.cV (g:=20);rfl;rfl;exact fun w' _=>sanity16_holds w'))<;>(refine go ?_;and_intros<;>(try exact trivial)<;>repeat (first|refine fun (Bk:Nat)=>?_|intro h)))
   all_goals refine ret1b Tryz.func9 Tryz.results9 ?_
   all_goals rfl
  by_cases c2:xtab.length=0
  ·have hin:=ih' fun h=>h.elim c1 fun h=>h.1 c2
   clear ih'
   all_goals (refine go ?_;and_intros<;>(try exact trivial)<;>repeat (first|refine fun (Bk:Nat)=>?_|intro h))
   exact J.fin hin
  have hlt:xtab.length-1 < xtab.length:=by omega
  have hz:(xtab.length:Int)-1=((xtab.length-1:Nat):Int):=by omega
  rw [getLastD_at c2] at ih'
  obtain ⟨bx,ox,rfl,hrx⟩:=SlAt.all hx (by omega)
  have rx:=hrx _ hlt
  clear hrx
  generalize xtab[xtab.length-1]=z at *
  obtain ⟨zs,zn⟩:=z
  dsimp only [hoV] at *
  by_cases c3:3 < zs
  ·clear ih'
   all_goals (refine go ?_;and_intros<;>(try exact trivial)<;>repeat (first|refine fun (Bk:Nat)=>?_|intro h))
   repeat' ((first|(apply G.cV (g:=20);rfl;rfl;exact fun w' _=>sanity16_holds w')|(apply G.ix (i:=xtab.length-1);rfl;rfl;exact hz;exact hlt;rfl))<;>(refine go ?_;and_intros<;>(try exact trivial)<;>repeat (first|refine fun (Bk:Nat)=>?_|intro h)))
   all_goals refine ret1b Tryz.func9 Tryz.results9 ?_
   all_goals rfl
  ·have hin:=ih' fun h=>h.elim c1 fun h=>c3 h.2
   clear ih'
   all_goals (refine go ?_;and_intros<;>(try exact trivial)<;>repeat (first|refine fun (Bk:Nat)=>?_|intro h))
   repeat' ((first|(apply G.ix (i:=xtab.length-1);rfl;rfl;exact hz;exact hlt;rfl))<;>(refine go ?_;and_intros<;>(try exact trivial)<;>repeat (first|refine fun (Bk:Nat)=>?_|intro h)))
   exact J.fin hin
 obtain rfl:k=l.length:=by omega
 clear ih
 obtain ⟨a1,a2⟩:=hall fun r hr=>by
  obtain ⟨i,hi,rfl⟩:=List.getElem_of_mem hr
  exact sm4 (hO _ hr) (h2 i hi hi)
 have hc4:cntL l≤4096:=by
  rw [← a1,hist]
  refine Nat.le_trans (List.length_filter_le _ _) ?_
  rw [seqs_len]
  exact show 4 ^ m≤4 ^ 6 from Nat.pow_le_pow_right (by decide) hm6
 have hV:=fun w'=>natValue_holds (nB (cntL l)) w' (by have:=cntL_len hCn hO (by omega);omega) (by rw [vB_nB];omega)
 rw [vB_nB] at hV
 have hsp:∀ X,HiP l (firstF l) m X→X.length=cntL l∧∃ pa pc X',X=⟨firstF l,pa,(firstS l).length,pc,firstS l⟩::X':=fun X ⟨x1,x2⟩=>by
  refine ⟨by rw [← a1,← x1,List.length_map],?_⟩
  cases X with
  | nil=>rw [← x1] at a2;cases a2
  | cons p X' =>
   obtain ⟨y1,y2,_⟩:=x2 p (List.mem_cons_self ..)
   rw [← x1] at a2
   have y3:p.hs=firstS l:=Option.some.inj a2
   obtain ⟨pf,pa,pn,pc,phs⟩:=p
   dsimp only at y1 y2 y3
   subst y1 y2 y3
   exact ⟨pa,pc,X',rfl⟩
 have hcp:0 < cntL l:=by
  rw [← a1]
  cases h:hist l m with
  | nil=>rw [h] at a2;cases a2
  | cons S r=>exact Nat.succ_pos _
 clear hall a1 a2 hcl hCn h2 h1
 generalize cntL l=cn at *
 generalize firstS l=fs at *
 generalize firstF l=ff at *
 have hsh:=fun a1 a2 c1 c2 w' (h1:SlAt w' a1 1 (fs.map isV)) (h2:SlAt w' a2 1 (fs.map isV))=>sameH_holds ff ff a1 a2 fs fs c1 c2 w' h1 h2 ⟨by omega,by omega⟩
 rw [decide_eq_true (⟨rfl,rfl⟩:fs=fs∧ff=ff)] at hsh
 all_goals (refine goR ?_;and_intros<;>(try exact trivial)<;>repeat (first|refine fun (Bk:Nat)=>?_|intro h))
 repeat' ((first|(refine G.cR (g:=45) (X:={ x:List Hst×Option Addr×Nat // FlX w (HiP l ff m) x }) (v:=fun x=>.slice x.1.2.1 cn x.1.2.2) (Mn:=fun x=>[slRow w.heap.size x.1.2.1 2 (x.1.1.map hstV),hfam w.heap.size x.1.1]) rfl rfl ?_ ?_;exact fun w' hw'=>(HH w' hw'.below).mono fun e w2 h=>(let ⟨x,g1,g2⟩:=Sat.retH0 hw' h;⟨x,by rw [g1,(hsp _ x.2.p).1],g2⟩);intro ⟨⟨X,ax,cx⟩,hX1⟩;obtain ⟨hXl,pa,pc,X',hX2⟩:=hsp X hX1.p;subst hX2;obtain ⟨bX,oX,hX3⟩:=hX1.f (Nat.succ_pos _);subst hX3;dsimp only [List.cons_append,List.nil_append])|(apply G.cV (g:=23);rfl;rfl;exact fun w' hw'=>HC w' hw'.below)|(apply G.cO (g:=22) (fun u=>.tuple #[.agg #[.int .i64 ff,u],.int .i64 0]);rfl;rfl;exact fun w' hw'=>HF w' hw'.below;intro u;refine G.ownForm' RAt.au ?_;intro aF cF hv;subst hv)|(apply G.cV (g:=47);rfl;rfl;exact fun w' _=>hV w')|(apply J.regQ (id:=14);exact Tryz.mixed;decide +kernel)|(apply G.cV (g:=20);rfl;rfl;exact fun w' _=>sanity16_holds w')|(apply G.ix (i:=0);rfl;rfl;exact rfl;exact hcp;rfl)|(apply G.ld;rfl;exact LdV.aggSl (f:=hstV) (l:=⟨ff,pa,fs.length,pc,fs⟩::X') (i:=0) (N:=w.heap.size) mm (Nat.succ_pos _) rfl;rfl)|(apply G.cV (g:=32) (vs:=[.agg #[.int .i64 ff,.slice aF fs.length cF],.agg #[.int .i64 ff,.slice pa fs.length pc]]);rfl;rfl;exact fun w' hw'=>hsh aF pa cF pc w' (SlAt.ofOwn isV_len (hw'.hold (.own 0 (.slice aF fs.length cF) 3 1 fs.length (flat isV fs)) mm) rfl) (hw'.fam (N:=w.heap.size) (adr:=Hst.adr) (L:=fun p:Hst=>p.hs.map isV) (o:=⟨ff,pa,fs.length,pc,fs⟩::X') mm _ (List.mem_cons_self ..))))<;>(refine goR ?_;and_intros<;>(try exact trivial)<;>repeat (first|refine fun (Bk:Nat)=>?_|intro h)))
 all_goals refine ret1b Tryz.func9 Tryz.results9 ?_
 all_goals rfl
end Go.Proofs.YtcdgibkbbcekhaaGreatDoor
/-
 Plain: what is finer,for runs of few ticks;a list is finer than its summary.
-/
namespace Go.Proofs.YtcdgibkbbcekhaaGreatDoor
open Go.RowKit Go.Sl Go.Num
theorem cn_lt {l:List Rn}{f t:Int} (hC:Cn f l t) (ho:∀ r∈l,OkR r) (h0:l≠[]):f < t:=by
 cases l with
 | nil=>exact absurd rfl h0
 | cons x l =>
  have h1:=(ho x (List.mem_cons_self ..)).rng
  have h2:=hC.2.le fun r hr=>ho r (List.mem_cons_of_mem x hr)
  have h3:=hC.1
  omega
theorem fin_err {a b:List Rn} (ha:runsErr a=0) (hb:runsErr b=0):(finE a b).2=0:=by
 rw [finE,if_neg (fun e=>e ha),if_neg (fun e=>e hb)]
 split
 ·rfl
 ·split<;>rfl
theorem fin_self {a:List Rn} (ha:runsErr a=0):finE a a=(true,0):=by
 refine Prod.ext ?_ (fin_err ha ha)
 by_cases h0:a=[]
 ·rw [finE,if_neg (fun e=>e ha),if_neg (fun e=>e ha),if_pos (.inl (by rw [h0];rfl))]
  exact decide_eq_true rfl
 ·exact (finE_iff ha ha h0 h0).2 ⟨rfl,rfl,fun S h=>h⟩
theorem fin_sum {a S:List Rn}{N:Nat} (ha:runsErr a=0) (hN:N≤2000) (hl:a≠[]→(lastD a).to_-(headD' a).from_≤N) (h:(sumE a).2=0) (hS:S.map rbare=(sumE a).1.map rbare):finE a S=(true,0)∧S.length≤N∧∀ r∈S,r.tab.length≤N:=by
 have hS2:S.length=(sumE a).1.length:=by rw [← List.length_map (f:=rbare),hS,List.length_map]
 suffices hh:finE a (sumE a).1=(true,0)∧(sumE a).1.length≤N∧∀ r∈(sumE a).1,r.tab.length≤N from ⟨by rw [← hh.1,← finE_bare,hS,finE_bare],by rw [hS2];exact hh.2.1,tabs_bare hS hh.2.2⟩
 rw [sumE,if_neg (fun e=>e ha)] at h ⊢
 cases hx:smF a.length [] a with
 | none=>rw [hx] at h;cases h
 | some o =>
  rw [hx] at h
  dsimp only
  obtain ⟨hO,_,hC⟩:=runs_ok ha
  by_cases h0:a=[]
  ·subst h0
   cases hx
   exact ⟨fin_self ha,Nat.zero_le _,fun r hr=>by cases hr⟩
  ·obtain ⟨hC,_⟩:=hC h0
   have h1:=hl h0
   obtain ⟨c1,o1,g1⟩:=smF_ok a.length (Nat.le_refl _) (show Cn (headD' a).from_ [] (headD' a).from_ from rfl) (fun r hr=>by cases hr) hC hO hx
   obtain ⟨c2,o2,g2,_⟩:=joinL_ok c1 o1
   have hj:=runs_of c2 o2 (by omega)
   have hlt:=hC.le hO
   have hne:a≠[]:=h0
   have hlt2:=cn_lt hC hO h0
   have hj0:joinL o≠[]:=c2.ne hlt2
   refine ⟨Prod.ext ?_ (fin_err ha hj),by have:=c2.le o2;omega,fun r hr=>by have:=cn_in c2 o2 r hr;have:=(o2 r hr).tlen;omega⟩
   exact (finE_iff ha hj h0 hj0).2 ⟨((c2.first hj0).1).symm,(c2.last hj0).symm,fun A hA=>g2 A (g1 [] A rfl hA)⟩
theorem AgS.le3:∀ {l:List Rn}{S:List Int},(∀ r∈l,OkR r)→(∀ r∈l,Sm4 r)→AgS l S→∀ x∈S,x≤3
 | [],S,_,_,h,x,hx=>by
  rw [AgS] at h
  subst h;cases hx
 | r::l,S,ho,hs,⟨A,B,e,h1,h2⟩,x,hx=>by
  subst e
  have hr:=ho r (List.mem_cons_self ..)
  have sr:=hs r (List.mem_cons_self ..)
  rcases List.mem_append.1 hx with hx|hx
  ·have h3:=(AgP.bnd hr h1 x hx).2
   rw [mstR] at h3
   split at h3
   ·rename_i h0
    have:=sr.1 h0
    omega
   ·rename_i h0
    have hm:r.tab.getLastD (0,0)∈r.tab:=by
     rw [getLastD_at h0];exact List.getElem_mem _
    have:=sr.2 _ hm
    omega
  ·exact AgS.le3 (fun y hy=>ho y (List.mem_cons_of_mem r hy)) (fun y hy=>hs y (List.mem_cons_of_mem r hy)) h2 x hx
theorem hist_mem {l:List Rn}{f:Int}{n:Nat} (hC:Cn f l (f+n)) (ho:∀ r∈l,OkR r) (hs:∀ r∈l,Sm4 r) {S:List Int}:S∈hist l n ↔ AgS l S:=by
 rw [hist,List.mem_filter,agB_iff ho]
 refine ⟨fun h=>h.2,fun h=>⟨seqs_mem.2 ⟨?_,fun x hx=>?_⟩,h⟩⟩
 ·have:=AgS.len hC ho h;omega
 ·exact st4_mem (AgS.bd' ho h x hx).1 (AgS.le3 ho hs h x hx)
theorem first_hd' {l:List Rn} (h:l≠[]):firstF l=(headD' l).from_:=by cases l with
 | nil=>exact absurd rfl h
 | cons x l=>rfl
theorem fin_every {a b:List Rn}{m n:Nat} (ha:runsErr a=0) (hb:runsErr b=0) (sa:∀ r∈a,Sm4 r) (sb:∀ r∈b,Sm4 r) (cA:Cn (firstF a) a (firstF a+m)) (cB:Cn (firstF b) b (firstF b+n)) :
  (finE a b).1=((hist a m).all fun S=>agreeB b (firstF a) S)∧((finE a b).1=true→cntL a≤cntL b):=by
 obtain ⟨oA,_,_⟩:=runs_ok ha
 obtain ⟨oB,_,_⟩:=runs_ok hb
 obtain ⟨k1,k2⟩:=hist_all cA oA sa
 obtain ⟨k3,_⟩:=hist_all cB oB sb
 rw [show (firstF a+m-firstF a).toNat=m by omega] at k1 k2
 rw [show (firstF b+n-firstF b).toNat=n by omega] at k3
 have hfst:firstS a∈hist a m:=List.mem_of_mem_head? (by rw [k2];rfl)
 have hF:=(hist_mem cA oA sa).1 hfst
 have lF:=AgS.len cA oA hF
 by_cases a0:a=[]
 ·by_cases b0:b=[]
  ·subst a0 b0
   have hm:m=0:=by
    have:firstF []=firstF []+(m:Int):=cA
    omega
   subst hm
   exact ⟨by decide +kernel,fun _=>Nat.le_refl _⟩
  ·have hf:(finE a b).1=false:=by
    rw [finE,if_neg (fun e=>e ha),if_neg (fun e=>e hb),if_pos (.inl (by rw [a0];rfl))]
    exact decide_eq_false fun e=>b0 (List.length_eq_zero_iff.1 (by rw [← e,a0];rfl))
   rw [hf]
   refine ⟨(Bool.eq_false_iff.2 fun h=>?_).symm,fun h=>by cases h⟩
   have h1:=(agreeB_iff hb b0).1 (List.all_eq_true.1 h _ hfst)
   have h2:=AgS.len cB oB h1.2
   have h3:=cn_lt cB oB b0
   have h4:(firstS a).length=0:=by rw [a0];rfl
   omega
 ·have hlt:=cn_lt cA oA a0
  by_cases b0:b=[]
  ·have hf:(finE a b).1=false:=by
    rw [finE,if_neg (fun e=>e ha),if_neg (fun e=>e hb),if_pos (.inr (by rw [b0];rfl))]
    exact decide_eq_false fun e=>a0 (List.length_eq_zero_iff.1 (by rw [e,b0];rfl))
   rw [hf]
   refine ⟨(Bool.eq_false_iff.2 fun h=>?_).symm,fun h=>by cases h⟩
   have h1:=List.all_eq_true.1 h _ hfst
   rw [b0,agreeB_nil,Bool.and_eq_true,decide_eq_true_eq] at h1
   omega
  ·have key:=finE_iff ha hb a0 b0
   have eA:=(cA.first a0).1
   have eB:=(cB.first b0).1
   have tA:=cA.last a0
   have tB:=cB.last b0
   constructor
   ·rw [Bool.eq_iff_iff,key,List.all_eq_true]
    constructor
    ·rintro ⟨e1,e2,e3⟩ S hS
     exact (agreeB_iff hb b0).2 ⟨by omega,e3 S ((hist_mem cA oA sa).1 hS)⟩
    ·intro h
     have h1:=(agreeB_iff hb b0).1 (h _ hfst)
     have h2:=AgS.len cB oB h1.2
     refine ⟨by omega,by omega,fun S hS=>((agreeB_iff hb b0).1 (h S ((hist_mem cA oA sa).2 hS))).2⟩
   ·intro h
    obtain ⟨e1,e2,e3⟩:=key.1 h
    have hmn:m=n:=by omega
    subst hmn
    rw [← k1,← k3,hist,hist,← List.countP_eq_length_filter,← List.countP_eq_length_filter]
    refine List.countP_mono_left fun S _ hS=>?_
    exact (agB_iff oB).2 (e3 S ((agB_iff oA).1 hS))
end Go.Proofs.YtcdgibkbbcekhaaGreatDoor
/-
 The law RunsFinerIsExact.
-/
namespace Go.Sl
open Go.RowKit
theorem LdV.slAt {C:Ctx}{M:List Row}{A:Type}{f:A→List Value}{T n sz N:Nat} [hT:TAgg C.P T n] {l:List A}{p:A}{b off i:Nat} (v:Value) (hp:l[i]?=some p) (hm:slRow N (some ⟨b,off,none⟩) sz (l.map f)∈M) (hl:(f p).length=n) (hv:Value.agg (f p).toArray=v):LdV C M T ⟨b,off+i*sz,none⟩ v:=by
 obtain ⟨hi,rfl⟩:=List.getElem?_eq_some_iff.1 hp
 exact hv ▸ LdV.aggSl hm hi hl
end Go.Sl
namespace Go.Proofs.YtcdgibkbbcekhaaGreatDoor
open Go.RowKit Go.Sl Go.Num
theorem few_tk {l:List Rn} (hfe:fewR 6 6 l) (hE:runsErr l=0):∃ m:Nat,(l=[]→m=0)∧(l≠[]→(headD' l).from_+m=(lastD l).to_)∧m≤6∧Cn (firstF l) l (firstF l+m):=by
 obtain ⟨hO,_,hC⟩:=runs_ok hE
 by_cases hn:l=[]
 ·exact ⟨0,fun _=>rfl,fun h=>absurd hn h,by decide,by rw [hn];exact (Int.add_zero _).symm⟩
 ·have h1:=(hC hn).1.le hO
  have h2:lenT l≤6:=hfe.2.2.elim (fun h=>absurd hE h) fun h=>h.elim (fun h=>absurd (List.length_eq_zero_iff.1 h) hn) id
  rw [lenT_eq hn] at h2
  have h3:(headD' l).from_+(((lastD l).to_-(headD' l).from_).toNat:Nat)=(lastD l).to_:=by omega
  exact ⟨((lastD l).to_-(headD' l).from_).toNat,fun h=>absurd h hn,fun _=>h3,by omega,by rw [first_hd' hn,h3];exact (hC hn).1⟩
theorem cmp_le {x y:Nat} (h:x≤y):cmpI x y≤0:=by
 rw [cmpI]
 split
 ·decide
 ·split
  ·omega
  ·decide
set_option maxHeartbeats 4000000 in
theorem runs7_holds (w:World) (a:Option Addr) (la:List Rn) (ca:Nat) (b:Option Addr) (lb:List Rn) (cb:Nat) (hA:RunsAt w a la) (hca:la.length≤ca) (hB:RunsAt w b lb) :
  Calls Tryz.prog 8 #[.slice a la.length ca,.slice b lb.length cb] w fun e w'=>e=.returned (.bool true)∧Below w.heap.size w w':=by
 have hfa:=fun w' (hb:Below w.heap.size w w')=>rFew_holds a la ca 6 6 w' (hA.below hb) (by decide)
 have hfb:=fun w' (hb:Below w.heap.size w w')=>rFew_holds b lb cb 6 6 w' (hB.below hb) (by decide)
 by_cases ha:fewR 6 6 la
 case neg =>
  rw [decide_eq_false ha] at hfa
  clear ha
  generalize decide (fewR 6 6 lb)=F at *
  refine enterA [(0,.slice a la.length ca),(1,.slice b lb.length cb)] Tryz.func8 Tryz.ntmps8 ?_
  cases F
  all_goals
   all_goals (refine go ?_;and_intros<;>(try exact trivial)<;>repeat (first|refine fun (Bk:Nat)=>?_|intro h))
   repeat' ((first|(apply G.cV (g:=44) (d:=26);rfl;rfl;exact fun w' hw'=>hfa w' hw'.below)|(apply G.cV (g:=44) (d:=28);rfl;rfl;exact fun w' hw'=>hfb w' hw'.below)|(apply G.cV (g:=20);rfl;rfl;exact fun w' _=>sanity16_holds w'))<;>(refine go ?_;and_intros<;>(try exact trivial)<;>repeat (first|refine fun (Bk:Nat)=>?_|intro h)))
   all_goals refine ret1b Tryz.func8 Tryz.results8 ?_
   all_goals rfl
 rw [decide_eq_true ha] at hfa
 by_cases hb:fewR 6 6 lb
 case neg =>
  rw [decide_eq_false hb] at hfb
  clear hb ha
  refine enterA [(0,.slice a la.length ca),(1,.slice b lb.length cb)] Tryz.func8 Tryz.ntmps8 ?_
  all_goals (refine go ?_;and_intros<;>(try exact trivial)<;>repeat (first|refine fun (Bk:Nat)=>?_|intro h))
  repeat' ((first|(apply G.cV (g:=44) (d:=26);rfl;rfl;exact fun w' hw'=>hfa w' hw'.below)|(apply G.cV (g:=44) (d:=28);rfl;rfl;exact fun w' hw'=>hfb w' hw'.below)|(apply G.cV (g:=20);rfl;rfl;exact fun w' _=>sanity16_holds w'))<;>(refine go ?_;and_intros<;>(try exact trivial)<;>repeat (first|refine fun (Bk:Nat)=>?_|intro h)))
  all_goals refine ret1b Tryz.func8 Tryz.results8 ?_
  all_goals rfl
 rw [decide_eq_true hb] at hfb
 have ta:∀ r∈la,r.tab.length≤64:=fun r hr=>Nat.le_trans (ha.2.1 r hr) (by decide)
 have tb:∀ r∈lb,r.tab.length≤64:=fun r hr=>Nat.le_trans (hb.2.1 r hr) (by decide)
 have HKa:=fun w' (hb:Below w.heap.size w w')=>vRuns_holds a la ca w' (hA.below hb) ta
 have HKb:=fun w' (hb:Below w.heap.size w w')=>vRuns_holds b lb cb w' (hB.below hb) tb
 by_cases Ea:runsErr la=0
 case neg =>
  clear ha hb
  generalize runsErr la=E at *
  refine enterA [(0,.slice a la.length ca),(1,.slice b lb.length cb)] Tryz.func8 Tryz.ntmps8 ?_
  all_goals (refine go ?_;and_intros<;>(try exact trivial)<;>repeat (first|refine fun (Bk:Nat)=>?_|intro h))
  repeat' ((first|(apply G.cV (g:=44) (d:=26);rfl;rfl;exact fun w' hw'=>hfa w' hw'.below)|(apply G.cV (g:=44) (d:=28);rfl;rfl;exact fun w' hw'=>hfb w' hw'.below)|(apply G.cV (g:=20);rfl;rfl;exact fun w' _=>sanity16_holds w')|(apply G.cV (g:=27) (d:=37);rfl;rfl;exact fun w' hw'=>HKa w' hw'.below))<;>(refine go ?_;and_intros<;>(try exact trivial)<;>repeat (first|refine fun (Bk:Nat)=>?_|intro h)))
  all_goals refine ret1b Tryz.func8 Tryz.results8 ?_
  all_goals rfl
 rw [Ea] at HKa
 by_cases Eb:runsErr lb=0
 case neg =>
  clear ha hb
  generalize runsErr lb=E at *
  refine enterA [(0,.slice a la.length ca),(1,.slice b lb.length cb)] Tryz.func8 Tryz.ntmps8 ?_
  all_goals (refine go ?_;and_intros<;>(try exact trivial)<;>repeat (first|refine fun (Bk:Nat)=>?_|intro h))
  repeat' ((first|(apply G.cV (g:=44) (d:=26);rfl;rfl;exact fun w' hw'=>hfa w' hw'.below)|(apply G.cV (g:=44) (d:=28);rfl;rfl;exact fun w' hw'=>hfb w' hw'.below)|(apply G.cV (g:=20);rfl;rfl;exact fun w' _=>sanity16_holds w')|(apply G.cV (g:=27) (d:=37);rfl;rfl;exact fun w' hw'=>HKa w' hw'.below)|(apply G.cV (g:=27) (d:=42);rfl;rfl;exact fun w' hw'=>HKb w' hw'.below))<;>(refine go ?_;and_intros<;>(try exact trivial)<;>repeat (first|refine fun (Bk:Nat)=>?_|intro h)))
  all_goals refine ret1b Tryz.func8 Tryz.results8 ?_
  all_goals rfl
 rw [Eb] at HKb
 have hla:=ha.1
 have hlb:=hb.1
 obtain ⟨oA,_,qA⟩:=runs_ok Ea
 obtain ⟨oB,_,_⟩:=runs_ok Eb
 obtain ⟨m,m0,m1,m6,cA⟩:=few_tk ha Ea
 obtain ⟨n,_,_,n6,cB⟩:=few_tk hb Eb
 clear ha hb
 have HCa:=fun w' (hb:Below w.heap.size w w')=>vCount_holds a la ca w' (hA.below hb) ta (by omega)
 have HCb:=fun w' (hb:Below w.heap.size w w')=>vCount_holds b lb cb w' (hB.below hb) tb (by omega)
 rw [cntE_ok cA oA (by omega)] at HCa
 rw [cntE_ok cB oB (by omega)] at HCb
 have hCmp:=fun w'=>natCmp_holds (nB (cntL la)) (nB (cntL lb)) w' (by have:=cntL_len cA oA (by omega);omega) (by have:=cntL_len cB oB (by omega);omega)
 rw [vB_nB,vB_nB] at hCmp
 have HH:=fun w' (hb:Below w.heap.size w w')=>histories_holds a la ca (firstF la) m w' (hA.below hb) (by omega) ta Ea (fun h=>⟨by rw [h];rfl,m0 h⟩) (fun h=>⟨first_hd' h,by rw [first_hd' h];exact m1 h⟩) m6
 have HF:=fun w' (hb:Below w.heap.size w w')=>vFin_holds a la ca b lb cb w' (hA.below hb) (hB.below hb) ta tb (by omega) (by omega)
 have HS:=fun w' (hb:Below w.heap.size w w')=>vFin_holds a la ca a la ca w' (hA.below hb) (hA.below hb) ta ta (by omega) (by omega)
 rw [fin_err Ea Eb] at HF
 rw [fin_self Ea] at HS
 dsimp only at HS HF HCa HCb
 have hsum:=fun (h:(sumE la).2=0) (S:List Rn) (hS:S.map rbare=(sumE la).1.map rbare)=>fin_sum (N:=6) Ea (by decide) (fun h0=>by have:=m1 h0;omega) h hS
 have HG:∀ (aS:Option Addr) (S:List Rn) (cS:Nat),(sumE la).2=0→S.map rbare=(sumE la).1.map rbare→∀ w',Below w.heap.size w w'→RunsAt w' aS S→Calls Tryz.prog 36 #[.slice a la.length ca,.slice aS S.length cS] w' fun e w2=>e=.returned (.tuple #[.bool true,.int .i64 0])∧Below w'.heap.size w' w2:=fun aS S cS h0 hS w' hb hS2=>by
  obtain ⟨h1,h2,h3⟩:=hsum h0 S hS
  have h4:=vFin_holds a la ca aS S cS w' (hA.below hb) hS2 ta (fun r hr=>Nat.le_trans (h3 r hr) (by decide)) (by omega) (by omega)
  rw [h1] at h4
  exact h4
 have HSm:=fun w' (hb:Below w.heap.size w w')=>vSum_holds a la ca w' (hA.below hb) ta (by omega) hca
 have hj:(sumE la).2=0∨(sumE la).2=29:=by
  rw [sumE,if_neg (fun e=>e Ea)]
  split
  ·exact .inr rfl
  ·exact .inl rfl
 have hev:=fun sa sb=>fin_every Ea Eb sa sb cA cB
 have HAg:∀ (p:Hst),HstF (firstF la) p→p.hs.length≤6→∀ w',Below w.heap.size w w'→SlAt w' p.adr 1 (p.hs.map isV)→Calls Tryz.prog 30 #[.slice b lb.length cb,.agg #[.int .i64 p.f,.slice p.adr p.n p.cap]] w' fun e w2=>e=.returned (.bool (agreeB lb (firstF la) p.hs))∧Below w'.heap.size w' w2:=fun p ⟨p1,p2,p3⟩ h6 w' hb hp=>by
  have h1:=agree_holds b p.adr lb (firstF la) p.hs cb p.cap w' (hB.below hb) hp tb (by omega) (by omega)
  rw [p2] at h1
  rw [p1]
  exact h1
 have hml:∀ S∈hist la m,S.length≤6:=fun S hS=>by
  have:=(seqs_mem.1 (List.mem_filter.1 hS).1).1
  omega
 clear hsum Ea Eb m0 m1 qA
 refine enterA [(0,.slice a la.length ca),(1,.slice b lb.length cb)] Tryz.func8 Tryz.ntmps8 ?_
 all_goals (refine go ?_;and_intros<;>(try exact trivial)<;>repeat (first|refine fun (Bk:Nat)=>?_|intro h))
 repeat' ((first|(apply G.cV (g:=44) (d:=26);rfl;rfl;exact fun w' hw'=>hfa w' hw'.below)|(apply G.cV (g:=44) (d:=28);rfl;rfl;exact fun w' hw'=>hfb w' hw'.below)|(apply G.cV (g:=27) (d:=37);rfl;rfl;exact fun w' hw'=>HKa w' hw'.below)|(apply G.cV (g:=27) (d:=42);rfl;rfl;exact fun w' hw'=>HKb w' hw'.below)|(apply G.slE;rfl;intro Be)|(apply G.apV;rfl;rfl;rfl;(repeat (first|exact RAt.head|apply RAt.tail));exact SrcV.old rnV_len rnV_one hA.1;exact List.nil_append _;omega;omega;rw [Nat.zero_add];intro a2 c2)|(apply G.apV;rfl;rfl;rfl;(repeat (first|exact RAt.head|apply RAt.tail));exact SrcV.old rnV_len rnV_one hB.1;exact (flat_append rnV la lb).symm;omega;omega;intro a3 c3))<;>(refine go ?_;and_intros<;>(try exact trivial)<;>repeat (first|refine fun (Bk:Nat)=>?_|intro h)))
 have hLl:(la++lb).length=la.length+lb.length:=List.length_append
 refine J.ownSlR (l:=la++lb) rnV_len (by (repeat (first|exact Pick.head|apply Pick.tail))) hLl ?_
 refine J.slForm mm ?_
 intro hfm
 have hLT:∀ r∈la++lb,TabAt w r:=fun r hr=>(List.mem_append.1 hr).elim (hA.2 r) (hB.2 r)
 have hLt:∀ r∈la++lb,r.tab.length≤64:=fun r hr=>(List.mem_append.1 hr).elim (ta r) (tb r)
 have hLb:(∀ i (hi:i < (la++lb).length),¬ Bad4 (la++lb)[i])→(∀ r∈la,Sm4 r)∧∀ r∈lb,Sm4 r:=fun h=>by
  have h1:∀ r∈la++lb,¬ Bad4 r:=fun r hr=>by
   obtain ⟨i,hi,rfl⟩:=List.getElem_of_mem hr
   exact h i hi
  exact ⟨fun r hr=>sm4 (oA r hr) (h1 r (List.mem_append_left _ hr)),fun r hr=>sm4 (oB r hr) (h1 r (List.mem_append_right _ hr))⟩
 generalize la++lb=L at *
 refine J.loop (c:=_) (0:Nat) (fun s=>L.length-s) (fun s=>[(0,.slice a la.length ca),(1,.slice b lb.length cb),(50,.slice a3 (la.length+lb.length) c3),(51,.int .i64 ((la.length+lb.length:Nat):Int)),(52,.int .i64 s)]) (fun s=>[slRow w.heap.size a3 5 (L.map rnV)]) (fun s=>s≤L.length∧∀ i (hi:i < L.length),i < s→¬ Bad4 L[i]) ?_ sbT sbL ?_
 ·exact ⟨Nat.zero_le _,fun i _ h=>absurd h (Nat.not_lt_zero _)⟩
 intro k ⟨h1,h2⟩ ih
 by_cases hk:k < L.length
 ·obtain ⟨b3,o3,rfl⟩:=hfm (by rw [List.length_map];omega)
  have hxm:=List.getElem_mem hk
  have hx:=hLT _ hxm
  have ht':=hLt _ hxm
  have h3:¬ Bad4 L[k]→∀ i (hi:i < L.length),i < k+1→¬ Bad4 L[i]:=fun h i hi h4=>by
   rcases Nat.lt_or_ge i k with h5|h5
   ·exact h2 i hi h5
   ·obtain rfl:i=k:=by omega
    exact h
  have ih':=fun h=>ih (k+1) ⟨by omega,h3 h⟩ (by omega)
  obtain ⟨x,hx0⟩:∃ x,L[k]=x:=⟨_,rfl⟩
  have hxk:L[k]?=some x:=by rw [List.getElem?_eq_getElem hk,hx0]
  rw [hx0] at hx ht' ih'
  clear ih h3 h2 hxm hx0 hLb hLT hLt hfm hev HAg HG HSm HH HF HS HCa HCb hCmp hml hj
  obtain ⟨xf,xt,xtab,xa,xc,xlo,xhi⟩:=x
  dsimp only [TabAt,Bad4] at *
  by_cases c1:3 < xhi
  ·clear ih'
   all_goals (refine go ?_;and_intros<;>(try exact trivial)<;>repeat (first|refine fun (Bk:Nat)=>?_|intro h))
   repeat' ((first|(apply G.cV (g:=20);rfl;rfl;exact fun w' _=>sanity16_holds w')|(apply G.ld;rfl;exact LdV.slAt (f:=rnV) (N:=w.heap.size) (.agg #[.int .i64 xf,.int .i64 xt,.slice _ xtab.length xc,.int .i64 xlo,.int .i64 xhi]) hxk mm rfl rfl;rfl))<;>(refine go ?_;and_intros<;>(try exact trivial)<;>repeat (first|refine fun (Bk:Nat)=>?_|intro h)))
   all_goals refine ret1b Tryz.func8 Tryz.results8 ?_
   all_goals rfl
  by_cases c2:xtab.length=0
  ·have hin:=ih' fun h=>h.elim c1 fun h=>h.1 c2
   clear ih'
   all_goals (refine go ?_;and_intros<;>(try exact trivial)<;>repeat (first|refine fun (Bk:Nat)=>?_|intro h))
   repeat' ((first|(apply G.ld;rfl;exact LdV.slAt (f:=rnV) (N:=w.heap.size) (.agg #[.int .i64 xf,.int .i64 xt,.slice _ xtab.length xc,.int .i64 xlo,.int .i64 xhi]) hxk mm rfl rfl;rfl))<;>(refine go ?_;and_intros<;>(try exact trivial)<;>repeat (first|refine fun (Bk:Nat)=>?_|intro h)))
   exact J.fin hin
  have hlt:xtab.length-1 < xtab.length:=by omega
  have hz:(xtab.length:Int)-1=((xtab.length-1:Nat):Int):=by omega
  rw [getLastD_at c2] at ih'
  obtain ⟨bx,ox,rfl,hrx⟩:=SlAt.all hx (by omega)
  have rx:=hrx _ hlt
  clear hrx
  generalize xtab[xtab.length-1]=z at *
  obtain ⟨zs,zn⟩:=z
  dsimp only [hoV] at *
  by_cases c3:3 < zs
  ·clear ih'
   all_goals (refine go ?_;and_intros<;>(try exact trivial)<;>repeat (first|refine fun (Bk:Nat)=>?_|intro h))
   repeat' ((first|(apply G.cV (g:=20);rfl;rfl;exact fun w' _=>sanity16_holds w')|(apply G.ld;rfl;exact LdV.slAt (f:=rnV) (N:=w.heap.size) (.agg #[.int .i64 xf,.int .i64 xt,.slice _ xtab.length xc,.int .i64 xlo,.int .i64 xhi]) hxk mm rfl rfl;rfl)|(apply G.ix (i:=xtab.length-1);rfl;rfl;exact hz;exact hlt;rfl))<;>(refine go ?_;and_intros<;>(try exact trivial)<;>repeat (first|refine fun (Bk:Nat)=>?_|intro h)))
   all_goals refine ret1b Tryz.func8 Tryz.results8 ?_
   all_goals rfl
  ·have hin:=ih' fun h=>h.elim c1 fun h=>c3 h.2
   clear ih'
   all_goals (refine go ?_;and_intros<;>(try exact trivial)<;>repeat (first|refine fun (Bk:Nat)=>?_|intro h))
   repeat' ((first|(apply G.ld;rfl;exact LdV.slAt (f:=rnV) (N:=w.heap.size) (.agg #[.int .i64 xf,.int .i64 xt,.slice _ xtab.length xc,.int .i64 xlo,.int .i64 xhi]) hxk mm rfl rfl;rfl)|(apply G.ix (i:=xtab.length-1);rfl;rfl;exact hz;exact hlt;rfl))<;>(refine go ?_;and_intros<;>(try exact trivial)<;>repeat (first|refine fun (Bk:Nat)=>?_|intro h)))
   exact J.fin hin
 obtain rfl:k=L.length:=by omega
 clear ih
 obtain ⟨sA,sB⟩:=hLb fun i hi=>h2 i hi hi
 obtain ⟨he,hcnt⟩:=hev sA sB
 have hcmp:cmpI (cntL la) (cntL lb)≤0∨(finE la lb).1=false:=by
  cases h:(finE la lb).1
  ·exact .inr rfl
  ·exact .inl (cmp_le (hcnt h))
 clear hcnt hLb hLT hLt h2 h1 hev sA sB hfm
 generalize cmpI (cntL la) (cntL lb)=cm at *
 generalize cntL la=na at *
 generalize cntL lb=nb at *
 generalize firstF la=ff at *
 generalize (finE la lb).1=is at *
 all_goals (refine goR ?_;and_intros<;>(try exact trivial)<;>repeat (first|refine fun (Bk:Nat)=>?_|intro h))
 repeat' ((first|(apply G.cV (g:=36) (d:=82);rfl;rfl;exact fun w' hw'=>HF w' hw'.below)|(refine G.cR (g:=45) (X:={ x:List Hst×Option Addr×Nat // FlX w (HiP la ff m) x }) (v:=fun x=>.slice x.1.2.1 x.1.1.length x.1.2.2) (Mn:=fun x=>[slRow w.heap.size x.1.2.1 2 (x.1.1.map hstV),hfam w.heap.size x.1.1]) rfl rfl ?_ ?_;exact fun w' hw'=>(HH w' hw'.below).mono fun e w2 h=>Sat.retH0 hw' h;intro ⟨⟨X,ax,cx⟩,hX1⟩;dsimp only [List.cons_append,List.nil_append]))<;>(refine goR ?_;and_intros<;>(try exact trivial)<;>repeat (first|refine fun (Bk:Nat)=>?_|intro h)))
 obtain ⟨hX,hXF⟩:=hX1.p
 have hXf:=hX1.f
 dsimp only at hX hXF hXf
 have hX6:∀ p∈X,p.hs.length≤6:=fun p hp=>hml _ (by rw [← hX];exact List.mem_map_of_mem hp)
 have hXl:X.length≤4096:=by
  rw [← List.length_map (f:=Hst.hs),hX,hist]
  refine Nat.le_trans (List.length_filter_le _ _) ?_
  rw [seqs_len]
  exact show 4 ^ m≤4 ^ 6 from Nat.pow_le_pow_right (by decide) m6
 have hev:is=X.all fun p=>agreeB lb ff p.hs:=by rw [he,← hX,List.all_map];rfl
 clear hX hX1 HH hml he
 refine J.loop (c:=_) ((0,true):Nat×Bool) (fun s=>X.length-s.1) (fun s=>[(0,.slice a la.length ca),(1,.slice b lb.length cb),(9,.bool is),(10,.int .i64 0),(12,.bool s.2),(87,.slice ax X.length cx),(88,.int .i64 X.length),(89,.int .i64 s.1)]) (fun s=>[slRow w.heap.size ax 2 (X.map hstV),hfam w.heap.size X]) (fun s=>s.1≤X.length∧s.2=(X.take s.1).all fun p=>agreeB lb ff p.hs) ?_ sbT sbL ?_
 ·exact ⟨Nat.zero_le _,rfl⟩
 intro ⟨k,ev⟩ ⟨h1,h2⟩ ih
 dsimp only at h1 h2 ⊢
 by_cases hk:k < X.length
 ·obtain ⟨bX,oX,rfl⟩:=hXf (by omega)
  obtain ⟨p,hp0⟩:∃ p,X[k]=p:=⟨_,rfl⟩
  have hpk:X[k]?=some p:=by rw [List.getElem?_eq_getElem hk,hp0]
  have hpm:p∈X:=List.mem_of_getElem? hpk
  have hA':=HAg p (hXF p hpm) (hX6 p hpm)
  have ih':=ih (k+1,ev && agreeB lb ff p.hs) ⟨hk,by dsimp only;rw [List.take_add_one,hpk,List.all_append,← h2];simp⟩ (by dsimp only;omega)
  clear ih h2 hXF hX6 HAg HG HSm HF HS HCa HCb hCmp hj hp0 hev
  generalize agreeB lb ff p.hs=ag at *
  have hfm:=fun w' (hw':Sat w [hfam w.heap.size X] w')=>hw'.fam (N:=w.heap.size) (adr:=Hst.adr) (L:=fun p:Hst=>p.hs.map isV) (.head _) p hpm
  obtain ⟨pf,pa,pn,pc,phs⟩:=p
  dsimp only at hA' hfm
  cases ev
  all_goals
   dsimp only [Bool.false_and,Bool.true_and] at ih'
   all_goals (refine go ?_;and_intros<;>(try exact trivial)<;>repeat (first|refine fun (Bk:Nat)=>?_|intro h))
   repeat' ((first|(apply G.ld;rfl;exact LdV.slAt (f:=hstV) (N:=w.heap.size) (.agg #[.int .i64 pf,.slice pa pn pc]) hpk mm rfl rfl;rfl)|(apply G.cV (g:=30);rfl;rfl;exact fun w' hw'=>hA' w' hw'.below (hw'.fam (N:=w.heap.size) (adr:=Hst.adr) (L:=fun p:Hst=>p.hs.map isV) (o:=X) mm _ hpm)))<;>(refine go ?_;and_intros<;>(try exact trivial)<;>repeat (first|refine fun (Bk:Nat)=>?_|intro h)))
   exact J.fin ih'
 obtain rfl:k=X.length:=by omega
 rw [List.take_length,← hev] at h2
 subst h2
 clear ih hev hXF hX6 hXf HAg
 rcases hj with h0|h0
 ·skip
  rw [h0] at HSm
  cases ev
  all_goals
   try have hcm:=hcmp.resolve_right (by decide)
   all_goals (refine goR ?_;and_intros<;>(try exact trivial)<;>repeat (first|refine fun (Bk:Nat)=>?_|intro h))
   repeat' ((first|(apply G.cV (g:=36) (d:=103);rfl;rfl;exact fun w' hw'=>HS w' hw'.below)|(apply G.cV (g:=23) (d:=108);rfl;rfl;exact fun w' hw'=>HCa w' hw'.below)|(apply G.cV (g:=23) (d:=113);rfl;rfl;exact fun w' hw'=>HCb w' hw'.below)|(apply G.cV (g:=46);rfl;rfl;exact fun w' _=>hCmp w')|(refine G.cU (g:=35) (d:=150) (fun a' n c'=>.tuple #[.slice a' n c',.int .i64 0]) (fun S=>S.map rbare=(sumE la).1.map rbare) [] (.inl rfl) rfl rfl ?_ ?_;exact fun w' hw'=>HSm w' hw'.below;intro S aS cS hS hS2 _)|(apply G.cV (g:=36) (d:=163);rfl;rfl;exact fun w' hw'=>HG aS S cS h0 hS w' hw'.below (RunsAt.of hw'))|(apply G.cV (g:=20);rfl;rfl;exact fun w' _=>sanity16_holds w'))<;>(refine goR ?_;and_intros<;>(try exact trivial)<;>repeat (first|refine fun (Bk:Nat)=>?_|intro h)))
   all_goals refine ret1b Tryz.func8 Tryz.results8 ?_
   all_goals rfl
 ·skip
  rw [h0] at HSm
  cases ev
  all_goals
   try have hcm:=hcmp.resolve_right (by decide)
   all_goals (refine goR ?_;and_intros<;>(try exact trivial)<;>repeat (first|refine fun (Bk:Nat)=>?_|intro h))
   repeat' ((first|(apply G.cV (g:=36) (d:=103);rfl;rfl;exact fun w' hw'=>HS w' hw'.below)|(apply G.cV (g:=23) (d:=108);rfl;rfl;exact fun w' hw'=>HCa w' hw'.below)|(apply G.cV (g:=23) (d:=113);rfl;rfl;exact fun w' hw'=>HCb w' hw'.below)|(apply G.cV (g:=46);rfl;rfl;exact fun w' _=>hCmp w')|(refine G.cU (g:=35) (d:=150) (fun a' n c'=>.tuple #[.slice a' n c',.int .i64 29]) (fun S=>S.map rbare=(sumE la).1.map rbare) [] (.inl rfl) rfl rfl ?_ ?_;exact fun w' hw'=>HSm w' hw'.below;intro S aS cS hS hS2 _)|(apply G.cV (g:=36) (d:=163);rfl;rfl;exact fun w' hw'=>HG aS S cS h0 hS w' hw'.below (RunsAt.of hw'))|(apply G.cV (g:=20);rfl;rfl;exact fun w' _=>sanity16_holds w'))<;>(refine goR ?_;and_intros<;>(try exact trivial)<;>repeat (first|refine fun (Bk:Nat)=>?_|intro h)))
   all_goals refine ret1b Tryz.func8 Tryz.results8 ?_
   all_goals rfl
end Go.Proofs.YtcdgibkbbcekhaaGreatDoor
