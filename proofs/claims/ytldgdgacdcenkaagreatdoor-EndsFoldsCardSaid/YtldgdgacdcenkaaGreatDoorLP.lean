/-
  The law EndsFolds: for every input the call returns true, and its arguments read as they did.
-/
import Derived.Test.YtldgdgacdcenkaaGreatDoorMS
import Derived.Test.YtldgdgacdcenkaaGreatDoorEQ
set_option linter.unusedSimpArgs false
set_option linter.unusedVariables false
set_option linter.unusedSectionVars false
set_option linter.unnecessarySimpa false
namespace Go.Proofs.YtldgdgacdcenkaaGreatDoor
open Go.ChangeShapes Go.WideShapes Go.ChangeAt Go.RowKit
namespace Vm
open Go Go.Vm Go.Vm.W Go.Vm.X
set_option maxRecDepth 100000
theorem endsFolds_lifted (os:Os) (started:os.Started) (H:Type) (enc:TypeId×Value→H):
  ReturnsInHanded {} Tryz.checked os 5 .any (fun w args=>(Rows.endsFoldsSpec.pre enc Tryz.prog Tryz.f5 Rows.endsFoldsRow.domain false w args∧laidMetH Tryz.prog Rows.endsFoldsRow.laid w)∧sizedMet enc Tryz.prog Tryz.f5 (OpenSpec.ofChange Rows.endsFoldsSpec) false w args)
   (Rows.endsFoldsSpec.post enc Tryz.prog Tryz.f5 false true false false):=by
 refine rows_shaped (C:=Tryz.checked) (X:=fun w _=>laidMetH Tryz.prog Rows.endsFoldsRow.laid w) (fun _ _ _ hh h=>h.of_heap hh) own started (by kernel_rfl) Tryz.func5
  (ChangeSpec.witness_shaped (enc:=enc) (C:=Tryz.checked) (os:=os) (X:=fun w _=>laidMetH Tryz.prog Rows.endsFoldsRow.laid w) false (wit os) #[.agg #[.slice none 0 0,.slice none 0 0]] 8 (wit_os os)
    (World.shaped_of_RefB (by kernel_rfl) (by kernel_rfl)) (by kernel_rfl) (by kernel_rfl) (by kernel_rfl) (door_met os _)) ?_
 intro W base args ds gs before hsh hval0 hW hL
 refine law_post (C:=Tryz.checked) rfl (fun H ds h=>?_) rfl Tryz.underlying4 laidOut (by kernel_rfl) hW ?_
 ·rw[Tryz.params5] at h
  match ds,h with
  | [a],_=>rfl
 have hval:∀(j:Nat) t v,Tryz.f5.params[j]?=some t→args[j]?=some v→Value.okWide Tryz.prog W .any base t v:=hval0
 obtain⟨p,q,hA0,_,rfl,hfz,_⟩:=hW
 have hA:DataW.TrodAll enc Tryz.prog W 0 (fun _=>true) true Tryz.f5.params.toList args.toList ds p:=hA0
 rw[Tryz.params5] at hA hval
 obtain⟨v0,d0,rfl,rfl,h0⟩:=trodAll_one hA
 obtain⟨x0,x1,l0,l1,L0,L1,rfl,b0,b1,a0,a1⟩:=open_T (hval 0 24 v0 rfl rfl) h0 (noneFrozen_of hfz fun x hx=>by simp[hx])
 exact law_T o_law18_EndsFolds (fun L0 L1 h0 h1=>law18_EndsFolds_true h0 h1) hsh hL b0 b1 a0 a1
theorem endsFolds_holds:Rows.EndsFoldsSaid:=
 OpenClaim.holds_of_wide 5 Tryz.f5 rfl rfl rfl rfl rfl rfl rfl ⟨rfl,rfl,rfl,rfl,rfl⟩ rfl rfl rfl rfl rfl (by kernel_rfl) Tryz.func5 (by kernel_rfl)
  (of_decide_eq_true (by kernel_rfl)) (by unfold Func.isWrapper;first | (rw[if_pos (by decide +kernel)];kernel_rfl) | (rw[if_neg (by decide +kernel)];exact⟨rfl,rfl⟩))
  (fun os started H enc _=>endsFolds_lifted os started H enc)
theorem endsFolds_card:Rows.EndsFoldsCardSaid:=
 Claim7.holds_tied_plain_at .later [] [.data,.data,.data,.data,.sentinel,.sentinel,.widerDeep,.funcs,.pinned] true (true, "4aa0813aae93de2d68588b18db7e319da7df57e9cda0f4c3ddb3df7c8b01dbd8") true
  endsFolds_holds (fun _ h=>by cases h) (by kernel_rfl) (fun _ h=>by cases h) endsFolds_row_tie rfl ⟨rfl,rfl⟩ (by kernel_rfl) rfl
  (fun f fn hf hfn=>by
    obtain rfl:f=5:=Option.some.inj ((show Tryz.prog.funcNamed Rows.endsFoldsRow.func=some 5 by kernel_rfl).symm.trans hf) |>.symm
    obtain rfl:fn=Tryz.f5:=(Option.some.inj (Tryz.func5.symm.trans hfn)).symm
    exact⟨by kernel_rfl,fun j t ht=>by
     rw[Tryz.params5] at ht
     have hm:t∈[24]:=by simpa using Array.mem_of_getElem? ht
     have hall:(([24]:List TypeId).all fun u=> !Tryz.prog.wantsStandIn u)=true:=by kernel_rfl
     exact(show Tryz.prog.wantsStandIn t=false by simpa using List.all_eq_true.1 hall t hm)⟩)
  (by kernel_rfl)
end Vm
#print axioms Vm.endsFolds_card
end Go.Proofs.YtldgdgacdcenkaaGreatDoor
