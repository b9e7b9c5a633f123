/-
  The law RunsSummarizeTogether holds, and its tied card: for every input the call returns true, and the arguments read afterwards as they read before.
-/
import Derived.Test.YtcdgibkbbcekhaaGreatDoorRH11
import Derived.Test.YtcdgibkbbcekhaaGreatDoorRS1
import Derived.Test.YtcdgibkbbcekhaaGreatDoorTie
import Derived.Test.YtcdgibkbbcekhaaGreatDoorCards
import Derived.ProofKit
import Derived.OpenShut
import Derived.LaidMore
import Derived.Lay
import Derived.Stop.Joined
import Derived.SevenTiedAt
set_option linter.unusedVariables false
set_option linter.unusedSimpArgs false
set_option linter.unusedSectionVars false
namespace Go.Proofs.YtcdgibkbbcekhaaGreatDoor
open Go Go.RowKit Go.Sl Go.ChangeShapes Go.WideShapes Go.ChangeAt
set_option maxRecDepth 100000 in
theorem liftedRunsSummarizeTogether (os:Os) (started:os.Started) (H:Type) (enc:TypeId×Value→H) :
  ReturnsInHanded {} Tryz.checked os 6 .any (fun w args=>(Rows.runsSummarizeTogetherSpec.pre enc Tryz.prog Tryz.f6 [] false w args∧laidMetH Tryz.prog laidL w)∧sizedMet enc Tryz.prog Tryz.f6 (OpenSpec.ofChange Rows.runsSummarizeTogetherSpec) false w args)
   (Rows.runsSummarizeTogetherSpec.post enc Tryz.prog Tryz.f6 false true false false):=by
 refine returnsInHanded_of_change_and (C:=Tryz.checked) (X:=fun w _=>laidMetH Tryz.prog laidL w) (fun _ _ _ hh h=>h.of_heap hh) own started (by kernel_rfl) Tryz.func6
  (ChangeSpec.witness_shaped (enc:=enc) (C:=Tryz.checked) (os:=os) (X:=fun w _=>laidMetH Tryz.prog laidL w) false (World.laidAll Tryz.prog os laidL) #[.agg #[.int .i64 0,.slice none 0 0],.agg #[.int .u8 0,.int .u8 0]] 8 (World.laidAll_os _ _ _)
   (World.shaped_of_ZipB (by kernel_rfl) (by kernel_rfl)) (by kernel_rfl) (by kernel_rfl) (by kernel_rfl)
   (by rw [MakeChecks.laidMetH_plain _ _ _ (by kernel_rfl)];exact laidMet_laidAll _ (by kernel_rfl) (by kernel_rfl))) ?_
 intro W base args ds gs before hval0 hW _ _ hL _
 have hval:∀ (j:Nat) t v,Tryz.f6.params[j]?=some t→args[j]?=some v→Value.okWide Tryz.prog W .any base t v:=hval0
 have hW':=hW
 obtain ⟨p,q,hA0,hV,rfl,hfz,hnd⟩:=hW
 have hA:DataW.TrodAll enc Tryz.prog W 0 (fun _=>true) true Tryz.f6.params.toList args.toList ds p:=hA0
 rw [Tryz.params6] at hA hval
 obtain ⟨v0,vs0,d0,ds0,p0,q0,hargs,rfl,rfl,h0,r0⟩:=trodAll_cons hA
 obtain ⟨v1,vs1,d1,ds1,p1,q1,rfl,rfl,rfl,h1,r1⟩:=trodAll_cons r0
 obtain ⟨rfl,rfl,rfl⟩:=trodAll_nil r1
 obtain rfl:args=#[v0,v1]:=by cases args;simp_all
 obtain ⟨rfl,rfl⟩:=trodVars_none hV
 have lt:∀ {t v d ps},DataW.Trod enc Tryz.prog W 0 (fun _=>true) true t v d ps→∀ x∈ps,x.block < W.heap.size:=fun h=>by obtain ⟨m,hm⟩:=h;exact DataW.trod_lt m _ _ _ hm
 obtain ⟨⟨n0,s0⟩,rfl,g0⟩:=rHistM.argAgg (let ⟨cs,h,_⟩:=okWide_struct Tryz.underlying46 (hval 0 46 v0 rfl rfl);⟨cs,h⟩) h0
 obtain ⟨⟨n1,n2⟩,rfl,g1⟩:=rB16.argAgg (okWide_array Tryz.underlying27 (hval 1 27 v1 rfl rfl)) h1
 clear hA0 hval0
 refine (runs4_holds W n0 s0.ad s0.l s0.cap n1 n2 g0.1 g0.2.1 (Nat.le_trans g0.2.1 g0.2.2) g1.1 g1.2).mono fun e W' ⟨he,bel⟩=>?_
 subst he
 have back:∀ {t v d ps},Tryz.prog.readableRec t=true→t < Tryz.prog.types.size→DataW.Trod enc Tryz.prog W 0 (fun _=>true) true t v d ps→DataW.Trod enc Tryz.prog W' 0 (fun b=>decide (b < W.heap.size)) true t v d ps:=fun hr ht h=>Below.trod laidOut hr ht h bel (lt h)
 exact ⟨_,rfl,_,_,_,[],_,[],hW',trodAll_mk1 (shut_bool Tryz.underlying4 _),(trodAll_cons_mk (back (by kernel_rfl) (of_decide_eq_true (by kernel_rfl)) h0) (trodAll_cons_mk (back (by kernel_rfl) (of_decide_eq_true (by kernel_rfl)) h1) trodAll_mk0)),rfl,bel.frame _,fun h=>by cases h⟩
theorem RunsSummarizeTogether_said:Rows.RunsSummarizeTogetherSaid :=
 OpenClaim.holds_of_wide 6 Tryz.f6 rfl rfl rfl rfl rfl rfl rfl ⟨rfl,rfl,rfl,rfl,rfl⟩ rfl rfl rfl rfl rfl (by kernel_rfl) Tryz.func6 (by kernel_rfl)
  (of_decide_eq_true (by kernel_rfl)) (by unfold Func.isWrapper;first|(rw [if_pos (by decide +kernel)];kernel_rfl)|(rw [if_neg (by decide +kernel)];exact ⟨rfl,rfl⟩))
  (fun os started H enc _=>liftedRunsSummarizeTogether os started H enc)
theorem RunsSummarizeTogether_holds:Rows.RunsSummarizeTogetherCardSaid :=
 Claim7.holds_tied_plain_at .later [] [.data,.pinned] true (true, "3901c5b8a4853387eace064f7960cbcb512eceb44dabd10b061f6c169b50ef85") false
  RunsSummarizeTogether_said (fun _ h=>by cases h) (by kernel_rfl) (fun _ h=>by cases h) runsSummarizeTogether_row_tie rfl ⟨rfl,rfl⟩ (by kernel_rfl) rfl
  (fun f fn hf hfn=>by
   obtain rfl:f=6:=Option.some.inj ((show Tryz.prog.funcNamed "rivermark/rivermarklaw16.RunsSummarizeTogether"=some 6 by kernel_rfl).symm.trans hf) |>.symm
   obtain rfl:fn=Tryz.f6:=(Option.some.inj (Tryz.func6.symm.trans hfn)).symm
   exact ⟨by kernel_rfl,fun j t ht=>by
    rw [Tryz.params6] at ht
    have hm:t∈[46,27]:=by simpa using Array.mem_of_getElem? ht
    have hall:([46,27].all fun u=>!Tryz.prog.wantsStandIn u)=true:=by kernel_rfl
    exact (show Tryz.prog.wantsStandIn t=false by simpa using List.all_eq_true.1 hall t hm)⟩)
  (by kernel_rfl)
#print axioms RunsSummarizeTogether_holds
end Go.Proofs.YtcdgibkbbcekhaaGreatDoor
