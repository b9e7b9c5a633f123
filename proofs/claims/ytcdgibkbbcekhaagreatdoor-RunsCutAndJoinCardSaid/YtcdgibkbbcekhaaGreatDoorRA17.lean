/-
  Contracts: the runs of a history, of the program and of the specification.
-/
import Derived.Test.YtcdgibkbbcekhaaGreatDoorRA16
set_option linter.unusedVariables false
set_option linter.unusedSimpArgs false
set_option linter.unusedSectionVars false
namespace Go.Proofs.YtcdgibkbbcekhaaGreatDoor
open Go.RowKit Go.Sl Go.Num
def raws:Int→List Int→List Rn
 | _,[]=>[]
 | f,s::r=>mkR f (f+1) s::raws (f+1) r
def ofE (f:Int) (hs:List Int):List Rn×Int:=if rightH f hs=false then ([],1) else (joinL (raws f hs),0)
theorem raws_len:∀ (hs:List Int) (f:Int),(raws f hs).length=hs.length
 | [],_=>rfl
 | s::r,f=>by rw [raws,List.length_cons,List.length_cons,raws_len r]
theorem raws_get:∀ (hs:List Int) (f:Int) (k:Nat) (h:k < hs.length),(raws f hs)[k]'(by rw [raws_len];exact h)=mkR (f+k) (f+k+1) hs[k]
 | s::r,f,0,h=>by simp only [raws,List.getElem_cons_zero];rw [Int.natCast_zero,Int.add_zero]
 | s::r,f,k+1,h=>by
  have:=raws_get r (f+1) k (by simpa using h)
  simp only [raws,List.getElem_cons_succ]
  rw [this]
  congr 1<;>omega
theorem raws_bare (hs:List Int) (f:Int):(raws f hs).map rbare=raws f hs:=by
 induction hs generalizing f with
 | nil=>rfl
 | cons s r ih=>rw [raws,List.map_cons,ih];rfl
theorem mkR_ok {f t s:Int} (h1:0≤f∧f < t∧t≤1402560) (h2:0≤s∧s≤1000):OkR (mkR f t s) :=
 ⟨by rw [inT,decide_eq_true_eq];exact h1,oneE_raw (r:=mkR f t s) ⟨rfl,rfl,rfl⟩ h2 h1⟩
theorem raws_cn:∀ (hs:List Int) (f:Int),Cn f (raws f hs) (f+hs.length)
 | [],f=>by rw [raws,Cn,List.length_nil];omega
 | s::r,f=>by
  refine ⟨rfl,?_⟩
  have:=raws_cn r (f+1)
  rw [List.length_cons]
  rw [show f+((r.length+1:Nat):Int)=f+1+r.length by omega]
  exact this
theorem raws_ok {hs:List Int}{f:Int} (h:rightH f hs=true):∀ r∈raws f hs,OkR r:=fun r hr=>by
 obtain ⟨h1,h2⟩:=rightH_ok h
 obtain ⟨k,hk,rfl⟩:=List.getElem_of_mem hr
 have hk2:k < hs.length:=by rw [raws_len] at hk;exact hk
 rw [raws_get hs f k hk2]
 have:=h2 k hk2
 exact mkR_ok (by omega) this
theorem raws_ag:∀ (hs:List Int) (f:Int),AgS (raws f hs) hs
 | [],_=>rfl
 | s::r,f=>⟨[s],r,rfl,(AgP.raw (r:=mkR f (f+1) s) (s:=s) ⟨rfl,rfl,rfl⟩).2 (by show [s]=List.replicate (f+1-f).toNat s;rw [show (f+1-f:Int).toNat=1 by omega];rfl),raws_ag r (f+1)⟩
def unk (k:Int×Int×Int):Rn:=mkR k.1 k.2.1 k.2.2
theorem raw_unk {r:Rn} (h:rawR r (stg r)):rbare r=unk (key r):=by
 obtain ⟨f,t,tab,ad,cp,lo,hi⟩:=r
 obtain ⟨h1,h2,h3⟩:=h
 dsimp only at h1 h2 h3
 subst h2 h3
 show (⟨f,t,tab,none,0,0,0⟩:Rn)=⟨f,t,[(stg ⟨f,t,tab,ad,cp,0,0⟩,t-f)],none,0,0,0⟩
 rw [← h1]
theorem joinF_unk:∀ (hs:List Int) (f:Int) (o:List (Int×Int×Int)),joinF (o.map unk) (raws f hs)=(ofL f hs o).map unk
 | [],_,_=>rfl
 | s::r,f,o=>by
  rw [raws,joinF_cons,ofL,← joinF_unk r (f+1)]
  congr 1
  rcases nil_or_snoc o with rfl|⟨o,p,rfl⟩
  ·rfl
  ·obtain ⟨a,b,c⟩:=p
   rw [List.map_append,List.map_cons,List.map_nil,putL_snoc,ofStep,List.getLast?_concat]
   dsimp only
   have hj:jblB (unk (a,b,c)) (mkR f (f+1) s)=decide (c=s):=by
    rw [jblB,if_pos ⟨rfl,rfl⟩];rfl
   rw [hj]
   by_cases hc:c=s
   ·rw [decide_eq_true hc,if_pos rfl,if_pos hc,List.dropLast_concat,List.map_append];rfl
   ·rw [decide_eq_false hc,if_neg (by decide),if_neg hc,List.map_append,List.map_append];rfl
theorem rawsOf_bare {L:List Rn}{f:Int}{hs:List Int} (h:RawsOf L (ofL f hs [])):L.map rbare=joinL (raws f hs):=by
 have h1:=joinF_unk hs f []
 rw [List.map_nil] at h1
 rw [joinL,h1,← h.1,List.map_map]
 exact List.map_congr_left fun r hr=>raw_unk (h.2 r hr)
theorem vOf_holds (f:Int) (a:Option Addr) (hs:List Int) (c:Nat) (w:World) (hA:SlAt w a 1 (hs.map isV)) (hl:hs.length≤1000) :
  Calls Tryz.prog 21 #[.agg #[.int .i64 f,.slice a hs.length c]] w (RetU [] (fun L=>L.map rbare=(ofE f hs).1.map rbare) (fun a' n c'=>.tuple #[.slice a' n c',.int .i64 (ofE f hs).2]) w):=by
 cases hr:rightH f hs
 ·refine (ofBad_holds f a hs c w hA (by omega) hr).mono fun e w' ⟨h1,h2⟩=>?_
  rw [ofE,if_pos hr,h1]
  exact RetU.nil (fun a' n c'=>.tuple #[.slice a' n c',.int .i64 1]) h2 rfl
 ·refine (ofRuns_holds f a hs c w hA hl hr).mono fun e w' ⟨L,a',c',h1,h2,hcc,_,h5,h6,h7,h8⟩=>?_
  rw [ofE,if_neg (by rw [hr];decide)]
  refine ⟨L,a',c',?_,h2,h5,⟨h6,hcc⟩,fun r hr=>.inr (.inl (h7 r hr)),h8⟩
  show L.map rbare=(joinL (raws f hs)).map rbare
  rw [rawsOf_bare h1,← joinL_bare,raws_bare]
theorem satNewT {C:Ctx}{w w':World}{M:List Row} (hw:Sat C.w0 M w) (hb:Below w.heap.size w w') (x:Rn) (hx:TabAt w' x) (hn:∀ p,x.adr=some p→w.heap.size≤p.block):Sat C.w0 (tfam C.w0.heap.size [x]::M) w' :=
 Sat.tfamNew (L0:=[]) (n:=w.heap.size) (hw.ext hb) (fun r hr=>by rw [List.mem_singleton.1 hr];exact hx) (srcR.one (.inr (.inl hn))) (.inl rfl) fun b hb2 h7=>hw.free (.inr (.inl hb2)) h7
theorem raws_tk:∀ (hs:List Int) (f:Int) (n:Nat),raws f (hs.take n)=(raws f hs).take n
 | [],f,n=>by rw [List.take_nil,raws,List.take_nil]
 | s::r,f,0=>rfl
 | s::r,f,n+1=>by rw [List.take_succ_cons,raws,raws,List.take_succ_cons,raws_tk r]
theorem raws_take {hs:List Int}{f:Int}{k:Nat} (hk:k < hs.length):joinL (raws f (hs.take (k+1)))=putL (joinL (raws f (hs.take k))) (mkR (f+k) (f+k+1) hs[k]):=by
 rw [raws_tk,raws_tk,List.take_add_one,List.getElem?_eq_getElem (by rw [raws_len];exact hk),raws_get hs f k hk,joinL,joinF_app];rfl
set_option maxHeartbeats 4000000 in
theorem rOf_holds (f:Int) (a:Option Addr) (hs:List Int) (c:Nat) (w:World) (hA:SlAt w a 1 (hs.map isV)) (hl:hs.length≤1000) :
  Calls Tryz.prog 24 #[.agg #[.int .i64 f,.slice a hs.length c]] w (RetU [] (fun L=>L.map rbare=(ofE f hs).1.map rbare) (fun a' n c'=>.agg #[.slice a' n c',.int .i64 (ofE f hs).2]) w):=by
 have hri:=fun w' (hb:Below w.heap.size w w')=>rRight_holds f a hs c w' (hA.below hb) (by omega)
 cases hr:rightH f hs
 ·rw [hr] at hri
  have hE:ofE f hs=([],1):=by rw [ofE,if_pos hr]
  rw [hE]
  refine enterA [(0,.agg #[.int .i64 f,.slice a hs.length c])] Tryz.func24 Tryz.ntmps24 ?_
  all_goals (refine go ?_;and_intros<;>(try exact trivial)<;>repeat (first|refine fun (Bk:Nat)=>?_|intro h))
  repeat' ((first|(apply G.cV (g:=41);rfl;rfl;exact fun w' hw'=>hri w' hw'.below))<;>(refine go ?_;and_intros<;>(try exact trivial)<;>repeat (first|refine fun (Bk:Nat)=>?_|intro h)))
  refine ret1 Tryz.func24 Tryz.results24 ?_
  exact fun w' hw'=>RetU.nil (fun a' n c'=>.agg #[.slice a' n c',.int .i64 1]) hw'.below rfl
 have hE:ofE f hs=(joinL (raws f hs),0):=by rw [ofE,if_neg (by rw [hr];decide)]
 rw [hE]
 rw [hr] at hri
 obtain ⟨k3,k4⟩:=rightH_ok hr
 refine enterA [(0,.agg #[.int .i64 f,.slice a hs.length c])] Tryz.func24 Tryz.ntmps24 ?_
 all_goals (refine go ?_;and_intros<;>(try exact trivial)<;>repeat (first|refine fun (Bk:Nat)=>?_|intro h))
 repeat' ((first|(apply G.cV (g:=41);rfl;rfl;exact fun w' hw'=>hri w' hw'.below))<;>(refine go ?_;and_intros<;>(try exact trivial)<;>repeat (first|refine fun (Bk:Nat)=>?_|intro h)))
 clear hri
 apply J.nilOwn (E:=90) (size:=5)
 apply J.fam0 Rn.adr 2 (fun r=>r.tab.map hoV)
 refine J.loop (c:=_) ((0,none,0,[]):Nat×Option Addr×Nat×List Rn) (fun s=>hs.length-s.1) (fun s=>[(1,.pointer (some ⟨_,0,none⟩)),(2,.pointer (some ⟨_,0,none⟩)),(4,.slice s.2.1 s.2.2.2.length s.2.2.1),(5,.int .i64 s.1)]) (fun s=>[tfam w.heap.size s.2.2.2,.own 0 (.slice s.2.1 s.2.2.2.length s.2.2.1) 90 5 s.2.2.2.length (flat rnV s.2.2.2),.blk _ 55 [.slice none 0 0,.int .i64 0] 2,.blk _ 46 [.int .i64 f,.slice a hs.length c] 2]) (fun s=>s.1≤hs.length∧s.2.2.2.map rbare=joinL (raws f (hs.take s.1))∧srcR w.heap.size [] s.2.2.2) ?_ sbT sbL ?_
 ·exact ⟨Nat.zero_le _,rfl,srcR.nil⟩
 intro ⟨n,au,cu,o⟩ ⟨h1,h2,h3⟩ ih
 dsimp only at h1 h2 h3 ⊢
 have hrt:rightH f (hs.take n)=true:=by
  rw [rightH,Bool.and_eq_true,decide_eq_true_eq,Bool.not_eq_true']
  rw [rightH,Bool.and_eq_true,decide_eq_true_eq,Bool.not_eq_true'] at hr
  refine ⟨by rw [List.length_take];omega,List.any_eq_false.2 fun x hx=>(List.any_eq_false.1 hr.2 x (List.mem_of_mem_take hx))⟩
 obtain ⟨q1,q2,_⟩:=joinL_ok (raws_cn (hs.take n) f) (raws_ok hrt)
 rw [← h2] at q1 q2
 have hoo:∀ r∈o,0≤r.from_∧r.from_≤1402560:=fun r hr=>by have:=(q2 _ (List.mem_map_of_mem hr)).rng;dsimp only [rbare] at this;omega
 have hol:o.length≤n:=by
  have:=congrArg List.length h2
  rw [List.length_map] at this
  have:=joinL_len (raws f (hs.take n))
  rw [raws_len,List.length_take] at this;omega
 clear q1 q2 hrt
 by_cases hn:n < hs.length
 ·obtain ⟨ba,oa,rfl,hra⟩:=SlAt.all hA (by omega)
  have hrn:=hra n hn
  have hst:=k4 n hn
  have htk:=raws_take (f:=f) hn
  have ih1:=fun (o':List Rn) a' c' (q:o'.map rbare=putL (o.map rbare) (mkR (f+n) (f+n+1) hs[n])) (q2:srcR w.heap.size [] o')=>ih (n+1,a',c',o') ⟨hn,by dsimp only;rw [htk,q,h2],q2⟩ (by dsimp only;omega)
  dsimp only at ih1
  clear ih hra htk k4
  generalize hs[n]=s at *
  dsimp only [isV] at hrn
  have hmk:=fun w'=>rMk_holds (f+n) (f+n+1) s w' (by omega) (by omega)
  have hpu:=fun M w' a1 c1 hw'=>put_holds w w' M au cu o [⟨f+n,f+n+1,[(s,f+n+1-(f+n))],a1,c1,0,0⟩] ⟨f+n,f+n+1,[(s,f+n+1-(f+n))],a1,c1,0,0⟩ hw' (List.mem_singleton.2 rfl) (by dsimp only;omega) hoo (by omega)
  all_goals (refine goR ?_;and_intros<;>(try exact trivial)<;>repeat (first|refine fun (Bk:Nat)=>?_|intro h))
  repeat' ((first|(apply J.regA (.q 0 <| .q 1 <| .q 2 <| .q 3 <| .q 4 <| .q 5 <| .q 6 <| .q 7 <| .q 8 <| .q 9 <| .q 10 <| .q 11 <| .q 12 <| .q 13 <| .q 14 <| .e 15 <| .r 16 <| .q 17 <| .nil);exact Tryz.mixed;decide +kernel)|(refine G.cR (g:=87) (v:=fun x:{ x:Option Addr×Nat // ∀ p,x.1=some p→w.heap.size≤p.block }=>.agg #[.int .i64 (f+n),.int .i64 (f+n+1),.slice x.1.1 1 x.1.2,.int .i64 0,.int .i64 0]) (Mn:=fun x=>[tfam w.heap.size [⟨f+n,f+n+1,[(s,f+n+1-(f+n))],x.1.1,x.1.2,0,0⟩]]) rfl rfl (fun w' hw'=>(hmk w').mono fun e w2 ⟨a1,c1,e1,e2,e3,e4⟩=>⟨⟨(a1,c1),fun p hp=>Nat.le_trans hw'.size (e3 p hp)⟩,e1,satNewT hw' e4 ⟨f+n,f+n+1,[(s,f+n+1-(f+n))],a1,c1,0,0⟩ e2 e3⟩) ?_;intro ⟨⟨a1,c1⟩,hnw⟩;dsimp only [List.cons_append,List.nil_append] at hnw ⊢)|(refine G.cP (g:=86) (X:={ y:List Rn×Option Addr×Nat // y.1.map rbare=putL (o.map rbare) (rbare ⟨f+n,f+n+1,[(s,f+n+1-(f+n))],a1,c1,0,0⟩)∧srcR w.heap.size (o++[⟨f+n,f+n+1,[(s,f+n+1-(f+n))],a1,c1,0,0⟩]) y.1 }) (fun y=>.slice y.1.2.1 y.1.1.length y.1.2.2) [.own 0 (.slice au o.length cu) 90 5 o.length (flat rnV o),tfam w.heap.size o,tfam w.heap.size [⟨f+n,f+n+1,[(s,f+n+1-(f+n))],a1,c1,0,0⟩]] (fun y=>[.own 0 (.slice y.1.2.1 y.1.1.length y.1.2.2) 90 5 y.1.1.length (flat rnV y.1.1),tfam w.heap.size y.1.1,tfam w.heap.size [⟨f+n,f+n+1,[(s,f+n+1-(f+n))],a1,c1,0,0⟩]]) rfl rfl (by (repeat (first|exact List.Perm.refl _|(refine pickT (by (repeat (first|exact Pick.head|apply Pick.tail))) ?_)))) (fun w' hw'=>by exact hpu _ w' a1 c1 hw') ?_;rintro ⟨⟨o2,a2,c2⟩,ho2,ho3⟩;dsimp only at ho2 ho3 ⊢)|(apply J.regQ;exact Tryz.mixed;decide +kernel)|(apply J.regL';exact Tryz.mixed;decide +kernel))<;>(refine goR ?_;and_intros<;>(try exact trivial)<;>repeat (first|refine fun (Bk:Nat)=>?_|intro h)))
  exact J.finS (ih1 o2 a2 c2 ho2 (ho3.comp (h3.app (srcR.one (.inr (.inl hnw))))))
 ·obtain rfl:n=hs.length:=by omega
  rw [List.take_length] at h2
  clear ih
  have hj:o.length≤1000:=by omega
  all_goals (refine go ?_;and_intros<;>(try exact trivial)<;>repeat (first|refine fun (Bk:Nat)=>?_|intro h))
  refine ret1 Tryz.func24 Tryz.results24 ?_
  exact fun w' hw'=>Sat.retU (fun a' n c'=>.agg #[.slice a' n c',.int .i64 0]) hw' (by rw [h2,← joinL_bare,raws_bare]) rfl h3
end Go.Proofs.YtcdgibkbbcekhaaGreatDoor
