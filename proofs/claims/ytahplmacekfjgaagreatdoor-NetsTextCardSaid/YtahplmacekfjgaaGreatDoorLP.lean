/-
  Nets: the chapter's examples, run by the kernel.
  The law NetsText: for every input the call returns true, and its arguments read as they did.
-/
import Derived.Test.YtahplmacekfjgaaGreatDoorMS
set_option linter.unusedSimpArgs false
set_option linter.unusedVariables false
set_option linter.unusedSectionVars false
set_option linter.unnecessarySimpa false
namespace Go.Vm
namespace X
open W
theorem kcd:jdw fuel ()=some true:=by kernel_rfl
end X
end Go.Vm
namespace Go.Proofs.YtahplmacekfjgaaGreatDoor
open Go.ChangeShapes Go.WideShapes Go.ChangeAt Go.RowKit
namespace Vm
open Go Go.Vm Go.Vm.W Go.Vm.X
set_option maxRecDepth 100000
theorem jsm (os:Os) (started:os.Started) (H:Type) (enc:TypeId×Value→H):
  ReturnsInHanded {} Tryz.checked os 5 .any (fun w args=>(Rows.netsTextSpec.pre enc Tryz.prog Tryz.f5 Rows.netsTextRow.domain false w args∧laidMetH Tryz.prog Rows.netsTextRow.laid w)∧sizedMet enc Tryz.prog Tryz.f5 (OpenSpec.ofChange Rows.netsTextSpec) false w args)
   (Rows.netsTextSpec.post enc Tryz.prog Tryz.f5 false true false false):=by
 refine j3p (C:=Tryz.checked) (X:=fun w _=>laidMetH Tryz.prog Rows.netsTextRow.laid w) (fun _ _ _ hh h=>h.of_heap hh) own started (by kernel_rfl) Tryz.func5
  (ChangeSpec.witness_shaped (enc:=enc) (C:=Tryz.checked) (os:=os) (X:=fun w _=>laidMetH Tryz.prog Rows.netsTextRow.laid w) false (wit os) #[.agg #[.slice none 0 0,.int .u64 0,.int .u64 0],.string ByteArray.empty] 8 (keb os)
    (World.shaped_of_RefB (by kernel_rfl) (by kernel_rfl)) (by kernel_rfl) (by kernel_rfl) (by kernel_rfl) (j9u os _)) ?_
 intro W base args ds gs before hsh hval0 hW hL hwt0
 refine j86 (C:=Tryz.checked) rfl (fun H ds h=>?_) rfl Tryz.underlying4 kcg (by kernel_rfl) hW ?_
 ·rw[Tryz.params5] at h
  match ds,h with
  | [a,b],_=>rfl
 have hval:∀(j:Nat) t v,Tryz.f5.params[j]?=some t→args[j]?=some v→Value.okWide Tryz.prog W .any base t v:=hval0
 obtain⟨p,q,hA0,hG0,rfl,hfz,_⟩:=hW
 have hA:DataW.TrodAll enc Tryz.prog W 0 (fun _=>true) true Tryz.f5.params.toList args.toList ds p:=hA0
 have hwt:∀n∈DataW.weightsEach Tryz.prog (Tryz.f5.params.toList++[]) (ds++gs),n≤reachBytes:=fun n hn=>by simpa using List.all_eq_true.1 hwt0 n hn
 rw[Tryz.params5] at hA hval hwt
 obtain⟨v0,v1,d0,d1,p0,p1,rfl,rfl,rfl,h0,h1⟩:=trodAll_two hA
 obtain⟨x0,c0,b0,l0,L0,rfl,w0,g0,wc0,wb0,a0⟩:=ke9 (hval 0 25 v0 rfl rfl) h0 (jou hfz fun x hx=>by simp[hx]) (fun n hn=>hwt _ (DataW.weights_mem_each (j:=0) rfl rfl n hn))
 obtain⟨bs,rfl,rfl,rfl,_⟩:=Go.ChangeMaps.open_string Tryz.underlying9 (hval 1 9 v1 rfl rfl) h1
 exact kfk jq6 hsh hL bs (jnt (nn:=fuel-1000000) ⟨w0,Nat.le_trans g0 (by decide),g0,wc0,wb0⟩ _ kcd) a0
theorem jtr:Rows.NetsTextSaid:=
 OpenClaim.holds_of_wide 5 Tryz.f5 rfl rfl rfl rfl rfl rfl rfl ⟨rfl,rfl,rfl,rfl,rfl⟩ rfl rfl rfl rfl rfl (by kernel_rfl) Tryz.func5 (by kernel_rfl)
  (of_decide_eq_true (by kernel_rfl)) (by unfold Func.isWrapper;first | (rw[if_pos (by decide +kernel)];kernel_rfl) | (rw[if_neg (by decide +kernel)];exact⟨rfl,rfl⟩))
  (fun os started H enc _=>jsm os started H enc)
theorem netsText_card:Rows.NetsTextCardSaid:=
 Claim7.holds_tied_plain_at .later [] [.data,.data,.data,.data,.sentinel,.sentinel,.pinned] true (true, "b2ccb93f7ee1f08e47e4f2ff3d58f102192d641d4937c78bd7d0bd36fee08b35") true
  jtr (fun _ h=>by cases h) (by kernel_rfl) (fun _ h=>by cases h) netsText_row_tie rfl ⟨rfl,rfl⟩ (by kernel_rfl) rfl
  (fun f fn hf hfn=>by
    obtain rfl:f=5:=Option.some.inj ((show Tryz.prog.funcNamed Rows.netsTextRow.func=some 5 by kernel_rfl).symm.trans hf) |>.symm
    obtain rfl:fn=Tryz.f5:=(Option.some.inj (Tryz.func5.symm.trans hfn)).symm
    exact⟨by kernel_rfl,fun j t ht=>by
     rw[Tryz.params5] at ht
     have hm:t∈[25,9]:=by simpa using Array.mem_of_getElem? ht
     have hall:(([25,9]:List TypeId).all fun u=> !Tryz.prog.wantsStandIn u)=true:=by kernel_rfl
     exact(show Tryz.prog.wantsStandIn t=false by simpa using List.all_eq_true.1 hall t hm)⟩)
  (by kernel_rfl)
end Vm
#print axioms Vm.netsText_card
end Go.Proofs.YtahplmacekfjgaaGreatDoor
