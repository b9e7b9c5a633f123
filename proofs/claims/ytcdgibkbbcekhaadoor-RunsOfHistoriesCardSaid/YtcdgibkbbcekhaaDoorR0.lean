/-
  The law RunsOfHistories holds, and its tied card: for every input the call returns true, and the arguments read afterwards as they read before.
-/
import Derived.Test.YtcdgibkbbcekhaaDoorRD11
import Derived.Test.YtcdgibkbbcekhaaDoorTie
import Derived.Test.YtcdgibkbbcekhaaDoorCards
import Derived.ProofKit
import Derived.OpenShut
import Derived.LaidMore
import Derived.Lay
import Derived.Stop.Joined
import Derived.SevenTiedAt
set_option linter.unusedVariables false
set_option linter.unusedSimpArgs false
set_option linter.unusedSectionVars false
namespace Go.Proofs.YtcdgibkbbcekhaaDoor
open Go Go.RowKit Go.Sl Go.ChangeShapes Go.WideShapes Go.ChangeAt
set_option maxRecDepth 100000 in
theorem liftedRunsOfHistories (os:Os) (started:os.Started) (H:Type) (enc:TypeId×Value→H) :
  ReturnsInHanded {} Tryd.checked os 3 .any (fun w args=>(Rows.runsOfHistoriesSpec.pre enc Tryd.prog Tryd.f3 [] false w args∧laidMetH Tryd.prog laidL w)∧sizedMet enc Tryd.prog Tryd.f3 (OpenSpec.ofChange Rows.runsOfHistoriesSpec) false w args)
   (Rows.runsOfHistoriesSpec.post enc Tryd.prog Tryd.f3 false true false false):=by
 refine returnsInHanded_of_change_and (C:=Tryd.checked) (X:=fun w _=>laidMetH Tryd.prog laidL w) (fun _ _ _ hh h=>h.of_heap hh) own started (by kernel_rfl) Tryd.func3
  (ChangeSpec.witness_shaped (enc:=enc) (C:=Tryd.checked) (os:=os) (X:=fun w _=>laidMetH Tryd.prog laidL w) false (World.laidAll Tryd.prog os laidL) #[.agg #[.int .i64 0,.slice none 0 0],.agg #[.int .i64 0,.slice none 0 0]] 8 (World.laidAll_os _ _ _)
   (World.shaped_of_ZipB (by kernel_rfl) (by kernel_rfl)) (by kernel_rfl) (by kernel_rfl) (by kernel_rfl)
   (by rw [MakeChecks.laidMetH_plain _ _ _ (by kernel_rfl)];exact laidMet_laidAll _ (by kernel_rfl) (by kernel_rfl))) ?_
 intro W base args ds gs before hval0 hW _ _ hL _
 have hval:∀ (j:Nat) t v,Tryd.f3.params[j]?=some t→args[j]?=some v→Value.okWide Tryd.prog W .any base t v:=hval0
 have hW':=hW
 obtain ⟨p,q,hA0,hV,rfl,hfz,hnd⟩:=hW
 have hA:DataW.TrodAll enc Tryd.prog W 0 (fun _=>true) true Tryd.f3.params.toList args.toList ds p:=hA0
 rw [Tryd.params3] at hA hval
 obtain ⟨v0,vs0,d0,ds0,p0,q0,hargs,rfl,rfl,h0,r0⟩:=trodAll_cons hA
 obtain ⟨v1,vs1,d1,ds1,p1,q1,rfl,rfl,rfl,h1,r1⟩:=trodAll_cons r0
 obtain ⟨rfl,rfl,rfl⟩:=trodAll_nil r1
 obtain rfl:args=#[v0,v1]:=by cases args;simp_all
 obtain ⟨rfl,rfl⟩:=trodVars_none hV
 have lt:∀ {t v d ps},DataW.Trod enc Tryd.prog W 0 (fun _=>true) true t v d ps→∀ x∈ps,x.block < W.heap.size:=fun h=>by obtain ⟨m,hm⟩:=h;exact DataW.trod_lt m _ _ _ hm
 obtain ⟨⟨n0,s0⟩,rfl,g0⟩:=rHistM.argAgg (let ⟨cs,h,_⟩:=okWide_struct Tryd.underlying24 (hval 0 24 v0 rfl rfl);⟨cs,h⟩) h0
 obtain ⟨⟨n1,s1⟩,rfl,g1⟩:=rHistM.argAgg (let ⟨cs,h,_⟩:=okWide_struct Tryd.underlying24 (hval 1 24 v1 rfl rfl);⟨cs,h⟩) h1
 clear hA0 hval0
 refine (runs3_holds W n0 s0.ad s0.l s0.cap n1 s1.ad s1.l s1.cap g0.1 g0.2.1 (Nat.le_trans g0.2.1 g0.2.2) g1.1 g1.2.1).mono fun e W' ⟨he,bel⟩=>?_
 subst he
 have back:∀ {t v d ps},Tryd.prog.readableRec t=true→t < Tryd.prog.types.size→DataW.Trod enc Tryd.prog W 0 (fun _=>true) true t v d ps→DataW.Trod enc Tryd.prog W' 0 (fun b=>decide (b < W.heap.size)) true t v d ps:=fun hr ht h=>Below.trod laidOut hr ht h bel (lt h)
 exact ⟨_,rfl,_,_,_,[],_,[],hW',trodAll_mk1 (shut_bool Tryd.underlying4 _),(trodAll_cons_mk (back (by kernel_rfl) (of_decide_eq_true (by kernel_rfl)) h0) (trodAll_cons_mk (back (by kernel_rfl) (of_decide_eq_true (by kernel_rfl)) h1) trodAll_mk0)),rfl,bel.frame _,fun h=>by cases h⟩
theorem RunsOfHistories_said:Rows.RunsOfHistoriesSaid :=
 OpenClaim.holds_of_wide 3 Tryd.f3 rfl rfl rfl rfl rfl rfl rfl ⟨rfl,rfl,rfl,rfl,rfl⟩ rfl rfl rfl rfl rfl (by kernel_rfl) Tryd.func3 (by kernel_rfl)
  (of_decide_eq_true (by kernel_rfl)) (by unfold Func.isWrapper;first|(rw [if_pos (by decide +kernel)];kernel_rfl)|(rw [if_neg (by decide +kernel)];exact ⟨rfl,rfl⟩))
  (fun os started H enc _=>liftedRunsOfHistories os started H enc)
theorem RunsOfHistories_holds:Rows.RunsOfHistoriesCardSaid :=
 Claim7.holds_tied_plain_at .later [] [.data,.pinned] true (true, "85a4a39871f23d9412d9f04fb0de4b94b35a6e8bff7b5bd4f1bd79113e27782c") false
  RunsOfHistories_said (fun _ h=>by cases h) (by kernel_rfl) (fun _ h=>by cases h) runsOfHistories_row_tie rfl ⟨rfl,rfl⟩ (by kernel_rfl) rfl
  (fun f fn hf hfn=>by
   obtain rfl:f=3:=Option.some.inj ((show Tryd.prog.funcNamed "rivermark/rivermarklaw16.RunsOfHistories"=some 3 by kernel_rfl).symm.trans hf) |>.symm
   obtain rfl:fn=Tryd.f3:=(Option.some.inj (Tryd.func3.symm.trans hfn)).symm
   exact ⟨by kernel_rfl,fun j t ht=>by
    rw [Tryd.params3] at ht
    have hm:t∈[24,24]:=by simpa using Array.mem_of_getElem? ht
    have hall:([24,24].all fun u=>!Tryd.prog.wantsStandIn u)=true:=by kernel_rfl
    exact (show Tryd.prog.wantsStandIn t=false by simpa using List.all_eq_true.1 hall t hm)⟩)
  (by kernel_rfl)
#print axioms RunsOfHistories_holds
end Go.Proofs.YtcdgibkbbcekhaaDoor
