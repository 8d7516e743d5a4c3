/-
  The law SegmentsKnown: for every input the call returns true, and its arguments read as they did.
-/
import Derived.Test.YtonohffniohehaaGreatDoorMS
import Derived.Test.YtonohffniohehaaGreatDoorTd
set_option linter.unusedSimpArgs false
set_option linter.unusedVariables false
set_option linter.unusedSectionVars false
set_option linter.unnecessarySimpa false
namespace Go.Proofs.YtonohffniohehaaGreatDoor
open Go.ChangeShapes Go.WideShapes Go.ChangeAt Go.RowKit
namespace Vm
open Go Go.Vm Go.Vm.W Go.Vm.X
set_option maxRecDepth 100000
theorem joa (os:Os) (started:os.Started) (H:Type) (enc:TypeId×Value→H):
  ReturnsInHanded {} Tryz.checked os 9 .any (fun w args=>(Rows.segmentsKnownSpec.pre enc Tryz.prog Tryz.f9 Rows.segmentsKnownRow.domain false w args∧laidMetH Tryz.prog Rows.segmentsKnownRow.laid w)∧sizedMet enc Tryz.prog Tryz.f9 (OpenSpec.ofChange Rows.segmentsKnownSpec) false w args)
   (Rows.segmentsKnownSpec.post enc Tryz.prog Tryz.f9 false true false false):=by
 refine j73 (C:=Tryz.checked) (X:=fun w _=>laidMetH Tryz.prog Rows.segmentsKnownRow.laid w) (fun _ _ _ hh h=>h.of_heap hh) own started (by kernel_rfl) Tryz.func9
  (ChangeSpec.witness_shaped (enc:=enc) (C:=Tryz.checked) (os:=os) (X:=fun w _=>laidMetH Tryz.prog Rows.segmentsKnownRow.laid w) false (wit os) #[] 8 (kj6 os)
    (World.shaped_of_RefB (by kernel_rfl) (by kernel_rfl)) (by kernel_rfl) (by kernel_rfl) (by kernel_rfl) (ke0 os _)) ?_
 intro W base args ds gs before hsh hval0 hW hL hwt0
 refine keb (C:=Tryz.checked) rfl (fun H ds h=>?_) rfl Tryz.underlying4 khz (by kernel_rfl) hW ?_
 ·rw[Tryz.params9] at h
  match ds,h with
  | [],_=>rfl
 have hval:∀(j:Nat) t v,Tryz.f9.params[j]?=some t→args[j]?=some v→Value.okWide Tryz.prog W .any base t v:=hval0
 obtain⟨p,q,hA0,hG0,rfl,hfz,_⟩:=hW
 have hA:DataW.TrodAll enc Tryz.prog W 0 (fun _=>true) true Tryz.f9.params.toList args.toList ds p:=hA0
 rw[Tryz.params9] at hA hval
 obtain⟨ha,rfl,rfl⟩:=trodAll_nil hA
 obtain rfl:args=#[]:=by cases args;simp_all
 exact kri jm0 hsh hL (jq8 kq4)
theorem jo5:Rows.SegmentsKnownSaid:=
 OpenClaim.holds_of_wide 9 Tryz.f9 rfl rfl rfl rfl rfl rfl rfl ⟨rfl,rfl,rfl,rfl,rfl⟩ rfl rfl rfl rfl rfl (by kernel_rfl) Tryz.func9 (by kernel_rfl)
  (of_decide_eq_true (by kernel_rfl)) (by unfold Func.isWrapper;first | (rw[if_pos (by decide +kernel)];kernel_rfl) | (rw[if_neg (by decide +kernel)];exact⟨rfl,rfl⟩))
  (fun os started H enc _=>joa os started H enc)
theorem segmentsKnown_card:Rows.SegmentsKnownCardSaid:=
 Claim7.holds_tied_plain_at .later [] [.data,.data,.data,.data,.sentinel,.sentinel,.data,.data,.pinned] true (true, "25f57dac7029fd92d5eecce142c132ba71e9a3aaa4ab11d9570bb44fe62bc80d") true
  jo5 (fun _ h=>by cases h) (by kernel_rfl) (fun _ h=>by cases h) segmentsKnown_row_tie rfl ⟨rfl,rfl⟩ (by kernel_rfl) rfl
  (fun f fn hf hfn=>by
    obtain rfl:f=9:=Option.some.inj ((show Tryz.prog.funcNamed Rows.segmentsKnownRow.func=some 9 by kernel_rfl).symm.trans hf) |>.symm
    obtain rfl:fn=Tryz.f9:=(Option.some.inj (Tryz.func9.symm.trans hfn)).symm
    exact⟨by kernel_rfl,fun j t ht=>by
     rw[Tryz.params9] at ht
     simp at ht⟩)
  (by kernel_rfl)
end Vm
#print axioms Vm.segmentsKnown_card
end Go.Proofs.YtonohffniohehaaGreatDoor
