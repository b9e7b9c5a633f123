/-
  The law ProofsAreAsSpecified holds, and its tied card: for every input the call returns true, and the arguments read afterwards as they read before.
-/
import Derived.Test.YtjcecdmbfmccoaaGreatDoorCW
import Derived.Test.YtjcecdmbfmccoaaGreatDoorCK
import Derived.Test.YtjcecdmbfmccoaaGreatDoorCT
import Derived.Test.YtjcecdmbfmccoaaGreatDoorVB2
import Derived.Test.YtjcecdmbfmccoaaGreatDoorTie
import Derived.Test.YtjcecdmbfmccoaaGreatDoorCards
import Derived.ProofKit
import Derived.OpenShut
import Derived.LaidMore
import Derived.Lay
import Derived.Stop.Joined
import Derived.JoinedCond
import Derived.SevenTiedAt
set_option linter.unusedVariables false
set_option linter.unusedSimpArgs false
set_option linter.unusedSectionVars false
namespace Go.Proofs.YtjcecdmbfmccoaaGreatDoor
open Go Go.RowKit Go.Sl Go.ChangeShapes Go.WideShapes Go.ChangeAt
set_option maxRecDepth 100000 in
theorem mB (os:Os) (started:os.Started) (H:Type) (enc:TypeId×Value->H) (F:Stop.Interp) :
  ReturnsInHanded {} Tryz.checked os 3 .any (fun w args=>((Rows.OpenSpec.upto Rows.proofsAreAsSpecifiedSpec).pre enc Tryz.prog Tryz.f3 [] false w args/\laidMetH Tryz.prog vN w)/\sizedMet enc Tryz.prog Tryz.f3 (Rows.OpenSpec.upto Rows.proofsAreAsSpecifiedSpec) false w args)
   (((Rows.OpenSpec.upto Rows.proofsAreAsSpecifiedSpec).at F).post enc Tryz.prog Tryz.f3 false true false false):=by
 refine yD (C:=Tryz.checked) (k:=Rows.uptoSmall) rfl (X:=fun w _=>laidMetH Tryz.prog vN w) (fun _ _ _ hh h=>h.of_heap hh) own started (by kernel_rfl) Tryz.func3
  (yE (enc:=enc) (C:=Tryz.checked) (os:=os) (k:=Rows.uptoSmall) rfl (X:=fun w _=>laidMetH Tryz.prog vN w) false (World.laidAll Tryz.prog os vN) #[.slice none 0 0,.slice none 0 0,.agg #[.bool false,.string { data:=#[] },.string { data:=#[] },.bool false,.string { data:=#[] },.string { data:=#[] },.int .i64 0,.slice none 0 0,.int .i64 0,.slice none 0 0,.slice none 0 0,.slice none 0 0]] 8 (World.laidAll_os _ _ _)
   (World.shaped_of_ZipB (by kernel_rfl) (by kernel_rfl)) (by kernel_rfl) (by kernel_rfl) (by kernel_rfl)
   (by rw [MakeChecks.laidMetH_plain _ _ _ (by kernel_rfl)];exact laidMet_laidAll _ (by kernel_rfl) (by kernel_rfl))) ?_
 intro W base args ds gs before hval0 hW hk hL;have hval:∀ (j:Nat) t v,Tryz.f3.params[j]?=some t->args[j]?=some v->Value.okWide Tryz.prog W .any base t v:=hval0;have hW':=hW;obtain ⟨p,q,hA0,hV,rfl,hfz,hnd⟩:=hW;have hA:DataW.TrodAll enc Tryz.prog W 0 (fun _=>true) true Tryz.f3.params.toList args.toList ds p:=hA0
 rw [Tryz.params3] at hA hval;obtain ⟨v0,vs0,d0,ds0,p0,q0,hargs,rfl,rfl,h0,r0⟩:=trodAll_cons hA;obtain ⟨v1,vs1,d1,ds1,p1,q1,rfl,rfl,rfl,h1,r1⟩:=trodAll_cons r0;obtain ⟨v2,vs2,d2,ds2,p2,q2,rfl,rfl,rfl,h2,r2⟩:=trodAll_cons r1;obtain ⟨rfl,rfl,rfl⟩:=trodAll_nil r2;obtain rfl:args=#[v0,v1,v2]:=by cases args;simp_all
 obtain ⟨rfl,rfl⟩:=trodVars_none hV;have lt:∀ {t v d ps},DataW.Trod enc Tryz.prog W 0 (fun _=>true) true t v d ps->∀ x∈ps,x.block < W.heap.size:=fun h=>by obtain ⟨m,hm⟩:=h;exact DataW.trod_lt m _ _ _ hm
 have hb0:Rows.uptoBulk d0<=1048576:=Nat.le_trans (kD (by simp)) (of_decide_eq_true hk)
 have hb1:Rows.uptoBulk d1<=1048576:=Nat.le_trans (kD (by simp)) (of_decide_eq_true hk)
 have hb2:Rows.uptoBulk d2<=1048576:=Nat.le_trans (kD (by simp)) (of_decide_eq_true hk)
 obtain ⟨s0,rfl,g0⟩:=OW.argSlice Tryz.underlying22 (hval 0 22 v0 rfl rfl) h0;obtain ⟨s1,rfl,g1⟩:=G8.argSlice Tryz.underlying23 (hval 1 23 v1 rfl rfl) h1;obtain ⟨x2,rfl,g2⟩:=Ov.argAgg (let ⟨cs,h,_⟩:=okWide_struct Tryz.underlying33 (hval 2 33 v2 rfl rfl);⟨cs,h⟩) h2
 clear hA0 hval0;refine (DY W s0.ad s0.l s0.cap s1.ad s1.l s1.cap x2.1 x2.2 g0 g1 g2.1 (fun p hp=>Nat.le_trans (g2.2.1 p hp) (Nat.le_trans hb2 dc)) (fun p hp=>Nat.le_trans (g2.2.2 p hp) (Nat.le_trans hb2 dc))).mono fun e W' ⟨he,bel⟩=>?_
 subst he;have back:∀ {t v d ps},Tryz.prog.readableRec t=true->t < Tryz.prog.types.size->DataW.Trod enc Tryz.prog W 0 (fun _=>true) true t v d ps->DataW.Trod enc Tryz.prog W' 0 (fun b=>decide (b < W.heap.size)) true t v d ps:=fun hr ht h=>Below.trod DT hr ht h bel (lt h)
 exact ⟨_,rfl,_,_,_,[],_,[],hW',trodAll_mk1 (shut_bool Tryz.underlying4 _),(trodAll_cons_mk (back (by kernel_rfl) (of_decide_eq_true (by kernel_rfl)) h0) (trodAll_cons_mk (back (by kernel_rfl) (of_decide_eq_true (by kernel_rfl)) h1) (trodAll_cons_mk (back (by kernel_rfl) (of_decide_eq_true (by kernel_rfl)) h2) trodAll_mk0))),rfl,bel.frame _,fun h=>by cases h⟩
theorem mF:Rows.ProofsAreAsSpecifiedUptoSaid :=
 OpenClaim.holds_of_cond 3 Tryz.f3 rfl rfl rfl rfl rfl rfl rfl ⟨rfl,rfl,rfl,rfl,rfl⟩ rfl rfl rfl rfl rfl (by kernel_rfl) Tryz.func3 (by kernel_rfl)
  (of_decide_eq_true (by kernel_rfl)) (by unfold Func.isWrapper;first|(rw [if_pos (by decide +kernel)];kernel_rfl)|(rw [if_neg (by decide +kernel)];exact ⟨rfl,rfl⟩))
  (fun os started H enc _ F=>mB os started H enc F)
theorem ProofsAreAsSpecified_holds:Rows.ProofsAreAsSpecifiedUptoCardSaid :=
 Claim7.holds_tied_plain_at .later [] [.data,.pinned] true (true, "0f995ed6265ad309ffbb61bd23bb41fd2b2b9e6ae9add80405d43d77db80ab73") false
  mF (fun _ h=>by cases h) (by kernel_rfl) (fun _ h=>by cases h) proofsAreAsSpecifiedUpto_row_tie rfl ⟨rfl,rfl⟩ (by kernel_rfl) rfl
  (fun f fn hf hfn=>by
   obtain rfl:f=3:=Option.some.inj ((show Tryz.prog.funcNamed "rivermark/rivermarklaw22.ProofsAreAsSpecified"=some 3 by kernel_rfl).symm.trans hf) |>.symm
   obtain rfl:fn=Tryz.f3:=(Option.some.inj (Tryz.func3.symm.trans hfn)).symm;exact ⟨by kernel_rfl,fun j t ht=>by
    rw [Tryz.params3] at ht;have hm:t∈[22,23,33]:=by simpa using Array.mem_of_getElem? ht
    have hall:([22,23,33].all fun u=>!Tryz.prog.wantsStandIn u)=true:=by kernel_rfl
    exact (show Tryz.prog.wantsStandIn t=false by simpa using List.all_eq_true.1 hall t hm)⟩)
  (by kernel_rfl)
#print axioms ProofsAreAsSpecified_holds
end Go.Proofs.YtjcecdmbfmccoaaGreatDoor
