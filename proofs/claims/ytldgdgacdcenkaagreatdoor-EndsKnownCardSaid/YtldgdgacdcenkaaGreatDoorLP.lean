/-
  The law EndsKnown: for every input the call returns true, and its arguments read as they did.
-/
import Derived.Test.YtldgdgacdcenkaaGreatDoorMS
import Derived.Test.YtldgdgacdcenkaaGreatDoorEQ
set_option linter.unusedSimpArgs false
set_option linter.unusedVariables false
namespace Go.Proofs.YtldgdgacdcenkaaGreatDoor
open Go.ChangeShapes Go.WideShapes Go.ChangeAt Go.RowKit
namespace Vm
open Go Go.Vm Go.Vm.W Go.Vm.X
set_option maxRecDepth 100000
theorem endsKnown_lifted (os:Os) (started:os.Started) (H:Type) (enc:TypeId×Value→H):
  ReturnsInHanded {} Tryz.checked os 7 .any (fun w args=>(Rows.endsKnownSpec.pre enc Tryz.prog Tryz.f7 Rows.endsKnownRow.domain false w args∧laidMetH Tryz.prog Rows.endsKnownRow.laid w)∧sizedMet enc Tryz.prog Tryz.f7 (OpenSpec.ofChange Rows.endsKnownSpec) false w args)
   (Rows.endsKnownSpec.post enc Tryz.prog Tryz.f7 false true false false):=by
 refine jwx (C:=Tryz.checked) (X:=fun w _=>laidMetH Tryz.prog Rows.endsKnownRow.laid w) (fun _ _ _ hh h=>h.of_heap hh) own started (by kernel_rfl) Tryz.func7
  (ChangeSpec.witness_shaped (enc:=enc) (C:=Tryz.checked) (os:=os) (X:=fun w _=>laidMetH Tryz.prog Rows.endsKnownRow.laid w) false (wit os) #[] 8 (kb3 os)
    (World.shaped_of_RefB (by kernel_rfl) (by kernel_rfl)) (by kernel_rfl) (by kernel_rfl) (by kernel_rfl) (j7w os _)) ?_
 intro W base args ds gs before hsh hval0 hW hL
 refine j69 (C:=Tryz.checked) rfl (fun H ds h=>?_) rfl Tryz.underlying4 kad (by kernel_rfl) hW ?_
 ·rw[Tryz.params7] at h
  match ds,h with
  | [],_=>rfl
 have hval:∀(j:Nat) t v,Tryz.f7.params[j]?=some t→args[j]?=some v→Value.okWide Tryz.prog W .any base t v:=hval0
 obtain⟨p,q,hA0,_,rfl,hfz,_⟩:=hW
 have hA:DataW.TrodAll enc Tryz.prog W 0 (fun _=>true) true Tryz.f7.params.toList args.toList ds p:=hA0
 rw[Tryz.params7] at hA
 obtain⟨ha,rfl,rfl⟩:=trodAll_nil hA
 obtain rfl:args=#[]:=by cases args;simp_all
 exact kf6 jme jjl hsh hL
theorem endsKnown_holds:Rows.EndsKnownSaid:=
 OpenClaim.holds_of_wide 7 Tryz.f7 rfl rfl rfl rfl rfl rfl rfl ⟨rfl,rfl,rfl,rfl,rfl⟩ rfl rfl rfl rfl rfl (by kernel_rfl) Tryz.func7 (by kernel_rfl)
  (of_decide_eq_true (by kernel_rfl)) (by unfold Func.isWrapper;first | (rw[if_pos (by decide +kernel)];kernel_rfl) | (rw[if_neg (by decide +kernel)];exact⟨rfl,rfl⟩))
  (fun os started H enc _=>endsKnown_lifted os started H enc)
theorem endsKnown_card:Rows.EndsKnownCardSaid:=
 Claim7.holds_tied_plain_at .later [] [.data,.data,.data,.data,.sentinel,.sentinel,.widerDeep,.funcs,.pinned] true (true, "4aa0813aae93de2d68588b18db7e319da7df57e9cda0f4c3ddb3df7c8b01dbd8") true
  endsKnown_holds (fun _ h=>by cases h) (by kernel_rfl) (fun _ h=>by cases h) endsKnown_row_tie rfl ⟨rfl,rfl⟩ (by kernel_rfl) rfl
  (fun f fn hf hfn=>by
    obtain rfl:f=7:=Option.some.inj ((show Tryz.prog.funcNamed Rows.endsKnownRow.func=some 7 by kernel_rfl).symm.trans hf) |>.symm
    obtain rfl:fn=Tryz.f7:=(Option.some.inj (Tryz.func7.symm.trans hfn)).symm
    exact⟨by kernel_rfl,fun j t ht=>by
     rw[Tryz.params7] at ht
     simp at ht⟩)
  (by kernel_rfl)
end Vm
#print axioms Vm.endsKnown_card
end Go.Proofs.YtldgdgacdcenkaaGreatDoor
