/-
  The law FilesSum: for every input the call returns true, and its arguments read as they did.
-/
import Derived.Test.YtccefhabickfiaaGreatDoorMS
import Derived.Test.YtccefhabickfiaaGreatDoorTd
set_option linter.unusedSimpArgs false
set_option linter.unusedVariables false
set_option linter.unusedSectionVars false
set_option linter.unnecessarySimpa false
namespace Go.Proofs.YtccefhabickfiaaGreatDoor
open Go.ChangeShapes Go.WideShapes Go.ChangeAt Go.RowKit
namespace Vm
open Go Go.Vm Go.Vm.W Go.Vm.X
set_option maxRecDepth 100000
theorem filesSum_lifted (os:Os) (started:os.Started) (H:Type) (enc:TypeId×Value→H):
  ReturnsInHanded {} Tryz.checked os 3 .any (fun w args=>(Rows.filesSumSpec.pre enc Tryz.prog Tryz.f3 Rows.filesSumRow.domain false w args∧laidMetH Tryz.prog Rows.filesSumRow.laid w)∧sizedMet enc Tryz.prog Tryz.f3 (OpenSpec.ofChange Rows.filesSumSpec) false w args)
   (Rows.filesSumSpec.post enc Tryz.prog Tryz.f3 false true false false):=by
 refine rows_sized (C:=Tryz.checked) (X:=fun w _=>laidMetH Tryz.prog Rows.filesSumRow.laid w) (fun _ _ _ hh h=>h.of_heap hh) own started (by kernel_rfl) Tryz.func3
  (ChangeSpec.witness_shaped (enc:=enc) (C:=Tryz.checked) (os:=os) (X:=fun w _=>laidMetH Tryz.prog Rows.filesSumRow.laid w) false (wit os) #[.string ByteArray.empty] 8 (wit_os os)
    (World.shaped_of_RefB (by kernel_rfl) (by kernel_rfl)) (by kernel_rfl) (by kernel_rfl) (by kernel_rfl) (door_met os _)) ?_
 intro W base args ds gs before hsh hval0 hW hL hwt0
 refine law_post (C:=Tryz.checked) rfl (fun H ds h=>?_) rfl Tryz.underlying4 laidOut (by kernel_rfl) hW ?_
 ·rw[Tryz.params3] at h
  match ds,h with
  | [a],_=>rfl
 have hval:∀(j:Nat) t v,Tryz.f3.params[j]?=some t→args[j]?=some v→Value.okWide Tryz.prog W .any base t v:=hval0
 obtain⟨p,q,hA0,hG0,rfl,hfz,_⟩:=hW
 have hA:DataW.TrodAll enc Tryz.prog W 0 (fun _=>true) true Tryz.f3.params.toList args.toList ds p:=hA0
 rw[Tryz.params3] at hA hval
 obtain⟨v0,d0,rfl,rfl,h0⟩:=trodAll_one hA
 obtain⟨bs,rfl,rfl,rfl,_⟩:=Go.ChangeMaps.open_string Tryz.underlying9 (hval 0 9 v0 rfl rfl) h0
 exact law_S o_law11_FilesSum hsh hL bs (FilesSum_true fun x hx=>by obtain⟨b,_,rfl⟩:=List.mem_map.1 hx;exact b.toNat_lt)
theorem filesSum_holds:Rows.FilesSumSaid:=
 OpenClaim.holds_of_wide 3 Tryz.f3 rfl rfl rfl rfl rfl rfl rfl ⟨rfl,rfl,rfl,rfl,rfl⟩ rfl rfl rfl rfl rfl (by kernel_rfl) Tryz.func3 (by kernel_rfl)
  (of_decide_eq_true (by kernel_rfl)) (by unfold Func.isWrapper;first | (rw[if_pos (by decide +kernel)];kernel_rfl) | (rw[if_neg (by decide +kernel)];exact⟨rfl,rfl⟩))
  (fun os started H enc _=>filesSum_lifted os started H enc)
theorem filesSum_card:Rows.FilesSumCardSaid:=
 Claim7.holds_tied_plain_at .later [] [.data,.data,.data,.data,.sentinel,.sentinel,.data,.pinned] true (true, "b3bd05c67384c84474d8b746c2c0c7e015b146a8b61302400a5f99bcd9c704b5") true
  filesSum_holds (fun _ h=>by cases h) (by kernel_rfl) (fun _ h=>by cases h) filesSum_row_tie rfl ⟨rfl,rfl⟩ (by kernel_rfl) rfl
  (fun f fn hf hfn=>by
    obtain rfl:f=3:=Option.some.inj ((show Tryz.prog.funcNamed Rows.filesSumRow.func=some 3 by kernel_rfl).symm.trans hf) |>.symm
    obtain rfl:fn=Tryz.f3:=(Option.some.inj (Tryz.func3.symm.trans hfn)).symm
    exact⟨by kernel_rfl,fun j t ht=>by
     rw[Tryz.params3] at ht
     have hm:t∈[9]:=by simpa using Array.mem_of_getElem? ht
     have hall:(([9]:List TypeId).all fun u=> !Tryz.prog.wantsStandIn u)=true:=by kernel_rfl
     exact(show Tryz.prog.wantsStandIn t=false by simpa using List.all_eq_true.1 hall t hm)⟩)
  (by kernel_rfl)
end Vm
#print axioms Vm.filesSum_card
end Go.Proofs.YtccefhabickfiaaGreatDoor
