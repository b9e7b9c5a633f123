/-
  The law ProofsAreComplete holds, and its tied card: for every input the call returns true, and the arguments read afterwards as they read before.
-/
import Derived.Test.YtjcecdmbfmccoaaGreatDoorVC13
import Derived.Test.YtjcecdmbfmccoaaGreatDoorTie
import Derived.Test.YtjcecdmbfmccoaaGreatDoorCards
import Derived.ProofKit
import Derived.OpenShut
import Derived.LaidMore
import Derived.Lay
import Derived.Stop.Joined
import Derived.SevenTiedAt
set_option linter.unusedVariables false
set_option linter.unusedSimpArgs false
set_option linter.unusedSectionVars false
namespace Go.Proofs.YtjcecdmbfmccoaaGreatDoor
open Go Go.RowKit Go.Sl Go.ChangeShapes Go.WideShapes Go.ChangeAt
set_option maxRecDepth 100000 in
theorem liftedProofsAreComplete (os:Os) (started:os.Started) (H:Type) (enc:TypeId×Value->H) :
  ReturnsInHanded {} Tryz.checked os 5 .any (fun w args=>(Rows.proofsAreCompleteSpec.pre enc Tryz.prog Tryz.f5 [] false w args/\laidMetH Tryz.prog laidL w)/\sizedMet enc Tryz.prog Tryz.f5 (OpenSpec.ofChange Rows.proofsAreCompleteSpec) false w args)
   (Rows.proofsAreCompleteSpec.post enc Tryz.prog Tryz.f5 false true false false):=by
 refine returnsInHanded_of_change_and (C:=Tryz.checked) (X:=fun w _=>laidMetH Tryz.prog laidL w) (fun _ _ _ hh h=>h.of_heap hh) own started (by kernel_rfl) Tryz.func5
  (ChangeSpec.witness_shaped (enc:=enc) (C:=Tryz.checked) (os:=os) (X:=fun w _=>laidMetH Tryz.prog laidL w) false (World.laidAll Tryz.prog os laidL) #[.slice none 0 0,.slice none 0 0] 8 (World.laidAll_os _ _ _)
   (World.shaped_of_ZipB (by kernel_rfl) (by kernel_rfl)) (by kernel_rfl) (by kernel_rfl) (by kernel_rfl)
   (by rw [MakeChecks.laidMetH_plain _ _ _ (by kernel_rfl)];exact laidMet_laidAll _ (by kernel_rfl) (by kernel_rfl))) ?_
 intro W base args ds gs before hval0 hW _ _ hL _
 have hval:∀ (j:Nat) t v,Tryz.f5.params[j]?=some t->args[j]?=some v->Value.okWide Tryz.prog W .any base t v:=hval0
 have hW':=hW
 obtain ⟨p,q,hA0,hV,rfl,hfz,hnd⟩:=hW
 have hA:DataW.TrodAll enc Tryz.prog W 0 (fun _=>true) true Tryz.f5.params.toList args.toList ds p:=hA0
 rw [Tryz.params5] at hA hval
 obtain ⟨v0,vs0,d0,ds0,p0,q0,hargs,rfl,rfl,h0,r0⟩:=trodAll_cons hA
 obtain ⟨v1,vs1,d1,ds1,p1,q1,rfl,rfl,rfl,h1,r1⟩:=trodAll_cons r0
 obtain ⟨rfl,rfl,rfl⟩:=trodAll_nil r1
 obtain rfl:args=#[v0,v1]:=by cases args;simp_all
 obtain ⟨rfl,rfl⟩:=trodVars_none hV
 have lt:∀ {t v d ps},DataW.Trod enc Tryz.prog W 0 (fun _=>true) true t v d ps->∀ x∈ps,x.block < W.heap.size:=fun h=>by obtain ⟨m,hm⟩:=h;exact DataW.trod_lt m _ _ _ hm
 obtain ⟨s0,rfl,g0⟩:=rRuns.argSlice Tryz.underlying22 (hval 0 22 v0 rfl rfl) h0
 obtain ⟨s1,rfl,g1⟩:=rSpans.argSlice Tryz.underlying23 (hval 1 23 v1 rfl rfl) h1
 clear hA0 hval0
 refine (law22c_holds W s0.ad s0.l s0.cap s1.ad s1.l s1.cap g0 g1).mono fun e W' ⟨he,bel⟩=>?_
 subst he
 have back:∀ {t v d ps},Tryz.prog.readableRec t=true->t < Tryz.prog.types.size->DataW.Trod enc Tryz.prog W 0 (fun _=>true) true t v d ps->DataW.Trod enc Tryz.prog W' 0 (fun b=>decide (b < W.heap.size)) true t v d ps:=fun hr ht h=>Below.trod laidOut hr ht h bel (lt h)
 exact ⟨_,rfl,_,_,_,[],_,[],hW',trodAll_mk1 (shut_bool Tryz.underlying4 _),(trodAll_cons_mk (back (by kernel_rfl) (of_decide_eq_true (by kernel_rfl)) h0) (trodAll_cons_mk (back (by kernel_rfl) (of_decide_eq_true (by kernel_rfl)) h1) trodAll_mk0)),rfl,bel.frame _,fun h=>by cases h⟩
theorem ProofsAreComplete_said:Rows.ProofsAreCompleteSaid :=
 OpenClaim.holds_of_wide 5 Tryz.f5 rfl rfl rfl rfl rfl rfl rfl ⟨rfl,rfl,rfl,rfl,rfl⟩ rfl rfl rfl rfl rfl (by kernel_rfl) Tryz.func5 (by kernel_rfl)
  (of_decide_eq_true (by kernel_rfl)) (by unfold Func.isWrapper;first|(rw [if_pos (by decide +kernel)];kernel_rfl)|(rw [if_neg (by decide +kernel)];exact ⟨rfl,rfl⟩))
  (fun os started H enc _=>liftedProofsAreComplete os started H enc)
theorem ProofsAreComplete_holds:Rows.ProofsAreCompleteCardSaid :=
 Claim7.holds_tied_plain_at .later [] [.data,.pinned] true (true, "0f995ed6265ad309ffbb61bd23bb41fd2b2b9e6ae9add80405d43d77db80ab73") false
  ProofsAreComplete_said (fun _ h=>by cases h) (by kernel_rfl) (fun _ h=>by cases h) proofsAreComplete_row_tie rfl ⟨rfl,rfl⟩ (by kernel_rfl) rfl
  (fun f fn hf hfn=>by
   obtain rfl:f=5:=Option.some.inj ((show Tryz.prog.funcNamed "rivermark/rivermarklaw22.ProofsAreComplete"=some 5 by kernel_rfl).symm.trans hf) |>.symm
   obtain rfl:fn=Tryz.f5:=(Option.some.inj (Tryz.func5.symm.trans hfn)).symm
   exact ⟨by kernel_rfl,fun j t ht=>by
    rw [Tryz.params5] at ht
    have hm:t∈[22,23]:=by simpa using Array.mem_of_getElem? ht
    have hall:([22,23].all fun u=>!Tryz.prog.wantsStandIn u)=true:=by kernel_rfl
    exact (show Tryz.prog.wantsStandIn t=false by simpa using List.all_eq_true.1 hall t hm)⟩)
  (by kernel_rfl)
#print axioms ProofsAreComplete_holds
end Go.Proofs.YtjcecdmbfmccoaaGreatDoor
