/-
  Plain: what Finer reckons of one run; contract: run.bounds.
-/
import Derived.Test.YtcdgibkbbcekhaaGreatDoorRA28
set_option linter.unusedVariables false
set_option linter.unusedSimpArgs false
set_option linter.unusedSectionVars false
namespace Go.Proofs.YtcdgibkbbcekhaaGreatDoor
open Go.RowKit Go.Sl Go.Num
theorem getLastD_at {t:List (Int×Int)} (h:t.length≠0) (d:Int×Int):t.getLastD d=t[t.length-1]'(by omega):=by
 rw [List.getLastD_eq_getLast?,List.getLast?_eq_getElem?,List.getElem?_eq_getElem (by omega)];rfl
theorem headD_at0 {t:List (Int×Int)} (h:0 < t.length) (d:Int×Int):t.headD d=t[0]:=by cases t with
 | nil=>exact absurd h (Nat.lt_irrefl _)
 | cons x t=>rfl
theorem bnds16_holds (r:Rn) (w:World) (hr:TabAt w r) (hl:r.tab.length≤1000000):Calls Tryz.prog 103 #[rnA r] w fun e w'=>e=.returned (.tuple #[.int .i64 (lstR r),.int .i64 (mstR r)])∧Below w.heap.size w w':=by
 have hg:=fun w'=>gap_holds r w'
 by_cases h0:r.tab.length=0
 ·rw [decide_eq_true h0] at hg
  rw [lstR,mstR,if_pos h0,if_pos h0]
  obtain ⟨f,t,tab,adr,cap,lo,hi⟩:=r
  dsimp only [rnA] at *
  refine enterA [(0,.agg #[.int .i64 f,.int .i64 t,.slice adr tab.length cap,.int .i64 lo,.int .i64 hi])] Tryz.func103 Tryz.ntmps103 ?_
  all_goals (refine go ?_;and_intros<;>(try exact trivial)<;>repeat (first|refine fun (Bk:Nat)=>?_|intro h))
  repeat' ((first|(apply G.cV (g:=81);rfl;rfl;exact fun w' _=>hg w'))<;>(refine go ?_;and_intros<;>(try exact trivial)<;>repeat (first|refine fun (Bk:Nat)=>?_|intro h)))
  all_goals refine ret2b Tryz.func103 Tryz.results103 ?_
  all_goals rfl
 ·rw [decide_eq_false h0] at hg
  rw [lstR,mstR,if_neg h0,if_neg h0,stg,headD_at0 (by omega),getLastD_at h0]
  obtain ⟨b,o,e,hra⟩:=SlAt.all hr (by omega)
  have r0:=hra 0 (by omega)
  have r1:=hra (r.tab.length-1) (by omega)
  have hz:(r.tab.length:Int)-1=((r.tab.length-1:Nat):Int):=by omega
  have h00:0 < r.tab.length:=by omega
  have h01:r.tab.length-1 < r.tab.length:=by omega
  clear hra hr
  obtain ⟨f,t,tab,adr,cap,lo,hi⟩:=r
  dsimp only [rnA] at *
  subst e
  generalize tab[0]=x at *
  generalize tab[tab.length-1]=y at *
  obtain ⟨xs,xn⟩:=x
  obtain ⟨ys,yn⟩:=y
  dsimp only [hoV] at *
  refine enterA [(0,.agg #[.int .i64 f,.int .i64 t,.slice (some ⟨b,o,none⟩) tab.length cap,.int .i64 lo,.int .i64 hi])] Tryz.func103 Tryz.ntmps103 ?_
  all_goals (refine go ?_;and_intros<;>(try exact trivial)<;>repeat (first|refine fun (Bk:Nat)=>?_|intro h))
  repeat' ((first|(apply G.cV (g:=81);rfl;rfl;exact fun w' _=>hg w')|(apply G.ix (i:=0);rfl;rfl;exact rfl;exact h00;rfl)|(apply G.ix (i:=tab.length-1);rfl;rfl;exact hz;exact h01;rfl))<;>(refine go ?_;and_intros<;>(try exact trivial)<;>repeat (first|refine fun (Bk:Nat)=>?_|intro h)))
  all_goals refine ret2b Tryz.func103 Tryz.results103 ?_
  all_goals rfl
theorem last_le':∀ (t:List (Int×Int)) (q:Option (Int×Int)) (d:Int×Int),sortedT q t=true→∀ x∈t,x.1≤(t.getLastD d).1
 | y::t,q,d,h,x,hx=>by
  have h:((match q with|none=>true|some q=>decide (q.1 < y.1)) && sortedT (some y) t)=true:=by cases q<;>exact h
  rw [Bool.and_eq_true] at h
  rw [List.getLastD_cons]
  cases t with
  | nil=>rw [List.mem_singleton.1 hx];exact Int.le_refl _
  | cons z t =>
   have ih:=last_le' (z::t) (some y) y h.2
   have h2:=(sorted_keys (z::t) (some y) h.2).2 y rfl
   rcases List.mem_cons.1 hx with rfl|hx
   ·have:=ih z (List.mem_cons_self ..)
    have:=h2 z (List.mem_cons_self ..)
    omega
   ·exact ih x hx
theorem ls_le' {r:Rn} (h:OkR r):0≤lstR r∧lstR r≤mstR r∧mstR r≤1000:=by
 by_cases h0:r.tab.length=0
 ·rw [lstR,mstR,if_pos h0,if_pos h0];exact h.gap h0
 ·obtain ⟨o1,o2,_⟩:=oneE_tab h.2 h0
  rw [lstR,mstR,if_neg h0,if_neg h0,stg,headD_at0 (by omega)]
  have m0:=List.getElem_mem (l:=r.tab) (n:=0) (by omega)
  have m1:=List.getElem_mem (l:=r.tab) (n:=r.tab.length-1) (by omega)
  have q1:=o1 _ m0
  have q2:=o1 _ m1
  have q3:=last_le' _ none (0,0) o2 _ m0
  rw [getLastD_at h0] at q3 ⊢
  omega
def covT (y:Rn) (s:Int) (x:Rn):Int:=if ovT x y≤ovF x y∨y.tab.length=0 then 0 else if lstR x=mstR x then (if lstR x=s then ovT x y-ovF x y else 0) else cnt s x.tab
theorem covN_app (y:Rn) (s:Int):∀ a b:List Rn,covN y s (a++b)=covN y s a+covN y s b
 | [],b=>by rw [List.nil_append,covN,Int.zero_add]
 | x::a,b=>by rw [List.cons_append,covN,covN,covN_app y s a b,Int.add_assoc]
theorem covN_take {y:Rn}{a:List Rn}{k:Nat} (h:k < a.length) (s:Int):covN y s (a.take (k+1))=covN y s (a.take k)+covT y s a[k]:=by
 rw [List.take_succ_eq_append_getElem h,covN_app]
 show _+(covT y s a[k]+0)=_
 rw [Int.add_zero]
theorem covT_bd {x y:Rn} (hx:OkR x) (s:Int):0≤covT y s x∧covT y s x≤1402560:=by
 have h1:=hx.rng
 have h2:=cnt_bd16 hx s
 rw [covT]
 split
 ·omega
 ·rename_i h
  have h3:ovF x y < ovT x y:=by
   rcases Int.lt_or_le (ovF x y) (ovT x y) with q|q
   ·exact q
   ·exact absurd (.inl q) h
  rw [ovF,ovT] at *
  split
  ·split<;>omega
  ·exact h2
theorem covN_bd {y:Rn} (s:Int):∀ {a:List Rn},(∀ r∈a,OkR r)→0≤covN y s a∧covN y s a≤1402560*a.length
 | [],_=>⟨Int.le_refl _,Int.le_refl _⟩
 | x::a,h=>by
  have h1:=covT_bd (y:=y) (h x (List.mem_cons_self ..)) s
  have h2:=covN_bd (y:=y) s fun r hr=>h r (List.mem_cons_of_mem x hr)
  show 0≤covT y s x+covN y s a∧covT y s x+covN y s a≤1402560*((x::a).length:Nat)
  rw [List.length_cons];omega
theorem covN_gap {y:Rn} (h:y.tab.length=0) (s:Int):∀ a:List Rn,covN y s a=0
 | []=>rfl
 | x::a=>by rw [covN,if_pos (.inr h),covN_gap h s a];rfl
theorem cov_no {a:List Rn}{y:Rn}{k:Nat} (hk:k < a.length) (h:covOk y a[k]=false):covB a y=false:=by
 rw [covB,Bool.and_eq_false_iff]
 left
 rw [List.all_eq_false]
 exact ⟨_,List.getElem_mem hk,by rw [h];decide⟩
theorem cov_ne {a:List Rn}{y:Rn}{s:Int} (hs:0≤s∧s≤1000) (h:cnt s y.tab-covN y s a≠0):covB a y=false:=by
 by_cases h0:y.tab.length=0
 ·rw [covN_gap h0,List.length_eq_zero_iff.1 h0] at h
  exact absurd rfl h
 rw [covB,Bool.and_eq_false_iff]
 right
 rw [decide_eq_false h0,Bool.false_or,List.all_eq_false]
 refine ⟨s.toNat,List.mem_range.2 (by omega),?_⟩
 rw [decide_eq_true_eq,show ((s.toNat:Nat):Int)=s by omega]
 omega
theorem cov_yes {a:List Rn}{y:Rn} (h1:∀ x∈a,covOk y x=true) (h2:∀ s,cnt s y.tab-covN y s a=0):covB a y=true:=by
 rw [covB,Bool.and_eq_true,List.all_eq_true,Bool.or_eq_true,List.all_eq_true]
 refine ⟨h1,.inr fun s _=>?_⟩
 have:=h2 (s:Int)
 rw [decide_eq_true_eq];omega
theorem cnt_mem {y n:Int}:∀ {L:List (Int×Int)},(L.map (·.1)).Nodup→(y,n)∈L→cnt y L=n
 | (z,m)::r,h,hm=>by
  obtain ⟨h1,h2⟩:=List.nodup_cons.1 h
  rw [cnt]
  rcases List.mem_cons.1 hm with e|hm
  ·cases e;rw [if_pos rfl]
  ·rw [if_neg fun e=>h1 (by dsimp only;rw [← e];exact List.mem_map_of_mem (f:=Prod.fst) hm)]
   exact cnt_mem h2 hm
theorem iv_keys (L:List (Int×Int)):(L.map iv).map (·.1)=L.map (·.1):=by rw [List.map_map];rfl
theorem cnt_zero {L:List (Int×Int)} (h:∀ p∈L,p.2=0) (s:Int):cnt s L=0:=by
 induction L with
 | nil=>rfl
 | cons p r ih =>
  rw [cnt.eq_2]
  have:=h p (List.mem_cons_self ..)
  rw [ih fun q hq=>h q (List.mem_cons_of_mem _ hq)]
  split<;>omega
theorem sumAt_new {T:List (Int×Int)} (h:(T.map (·.1)).Nodup) {j:Nat} (hj:j < T.length):sumAt T[j].1 (T.take j)=0:=by
 refine sumAt_no fun hm=>?_
 obtain ⟨x,hx,e⟩:=List.mem_map.1 hm
 obtain ⟨i,hi,e2⟩:=List.mem_iff_getElem.1 hx
 rw [List.length_take] at hi
 rw [List.getElem_take] at e2
 have h1:i < (T.map (·.1)).length:=by rw [List.length_map];omega
 have h2:j < (T.map (·.1)).length:=by rw [List.length_map];omega
 have h3:(T.map (·.1))[i]=(T.map (·.1))[j]:=by rw [List.getElem_map,List.getElem_map,e2];exact e
 have:=(List.getElem_inj h).1 h3
 omega
theorem fin_no {a b:List Rn} (ha:runsErr a=0) (hb:runsErr b=0) (a0:a.length≠0) (b0:b.length≠0) {n:Nat} (hn:n < b.length) (h:covB a b[n]=false):finE a b=(false,0):=by
 rw [finE,if_neg (fun e=>e ha),if_neg (fun e=>e hb),if_neg (by rintro (e|e);exact a0 e;exact b0 e)]
 split
 ·rfl
 ·have:b.all (covB a)=false:=List.all_eq_false.2 ⟨_,List.getElem_mem hn,by rw [h];decide⟩
  rw [this]
theorem fin_yes {a b:List Rn} (ha:runsErr a=0) (hb:runsErr b=0) (a0:a.length≠0) (b0:b.length≠0) (h1:(headD' a).from_=(headD' b).from_) (h2:(lastD a).to_=(lastD b).to_) (h:∀ y∈b,covB a y=true):finE a b=(true,0):=by
 rw [finE,if_neg (fun e=>e ha),if_neg (fun e=>e hb),if_neg (by rintro (e|e);exact a0 e;exact b0 e),if_neg (by rintro (e|e);exact e h1;exact e h2)]
 rw [List.all_eq_true.2 h]
theorem fin_end {a b:List Rn} (ha:runsErr a=0) (hb:runsErr b=0) (a0:a.length≠0) (b0:b.length≠0) (h:(headD' a).from_≠(headD' b).from_∨(lastD a).to_≠(lastD b).to_):finE a b=(false,0):=by
 rw [finE,if_neg (fun e=>e ha),if_neg (fun e=>e hb),if_neg (by rintro (e|e);exact a0 e;exact b0 e),if_pos h]
theorem fin_nil {a b:List Rn} (ha:runsErr a=0) (hb:runsErr b=0) (h:a.length=0∨b.length=0):finE a b=(decide (a.length=b.length),0):=by
 rw [finE,if_neg (fun e=>e ha),if_neg (fun e=>e hb),if_pos h]
end Go.Proofs.YtcdgibkbbcekhaaGreatDoor
