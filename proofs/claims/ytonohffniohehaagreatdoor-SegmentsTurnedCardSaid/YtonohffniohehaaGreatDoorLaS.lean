/-
  The law SegmentsTurned: for every input the call returns true, and its arguments read as they did.
-/
import Derived.Test.YtonohffniohehaaGreatDoorMS
import Derived.Test.YtonohffniohehaaGreatDoorTd
import Derived.Test.YtonohffniohehaaGreatDoorTc
set_option linter.unusedSimpArgs false
set_option linter.unusedVariables false
set_option linter.unusedSectionVars false
set_option linter.unnecessarySimpa false
namespace Go.Proofs.YtonohffniohehaaGreatDoor
open Go.ChangeShapes Go.WideShapes Go.ChangeAt Go.RowKit
namespace Vm
open Go Go.Vm Go.Vm.W Go.Vm.X
set_option maxRecDepth 100000
theorem segmentsTurned_lifted (os:Os) (started:os.Started) (H:Type) (enc:TypeId×Value→H):
  ReturnsInHanded {} Tryz.checked os 8 .any (fun w args=>(Rows.segmentsTurnedSpec.pre enc Tryz.prog Tryz.f8 Rows.segmentsTurnedRow.domain false w args∧laidMetH Tryz.prog Rows.segmentsTurnedRow.laid w)∧sizedMet enc Tryz.prog Tryz.f8 (OpenSpec.ofChange Rows.segmentsTurnedSpec) false w args)
   (Rows.segmentsTurnedSpec.post enc Tryz.prog Tryz.f8 false true false false):=by
 refine rows_sized (C:=Tryz.checked) (X:=fun w _=>laidMetH Tryz.prog Rows.segmentsTurnedRow.laid w) (fun _ _ _ hh h=>h.of_heap hh) own started (by kernel_rfl) Tryz.func8
  (ChangeSpec.witness_shaped (enc:=enc) (C:=Tryz.checked) (os:=os) (X:=fun w _=>laidMetH Tryz.prog Rows.segmentsTurnedRow.laid w) false (wit os) #[.agg #[.int .u8 0,.int .u8 0,.slice none 0 0]] 8 (wit_os os)
    (World.shaped_of_RefB (by kernel_rfl) (by kernel_rfl)) (by kernel_rfl) (by kernel_rfl) (by kernel_rfl) (door_met os _)) ?_
 intro W base args ds gs before hsh hval0 hW hL hwt0
 refine law_post (C:=Tryz.checked) rfl (fun H ds h=>?_) rfl Tryz.underlying4 laidOut (by kernel_rfl) hW ?_
 ·rw[Tryz.params8] at h
  match ds,h with
  | [a],_=>rfl
 have hval:∀(j:Nat) t v,Tryz.f8.params[j]?=some t→args[j]?=some v→Value.okWide Tryz.prog W .any base t v:=hval0
 obtain⟨p,q,hA0,hG0,rfl,hfz,_⟩:=hW
 have hA:DataW.TrodAll enc Tryz.prog W 0 (fun _=>true) true Tryz.f8.params.toList args.toList ds p:=hA0
 rw[Tryz.params8] at hA hval
 obtain⟨v0,d0,rfl,rfl,h0⟩:=trodAll_one hA
 obtain⟨x,a,b,l0,L,M,rfl,wa,wb,hk,hrel,k0⟩:=open_P (hval 0 46 v0 rfl rfl) h0 (noneFrozen_of hfz fun x hx=>List.mem_append.2 (.inl hx))
 exact law_O o_law07_SegmentsTurned hsh hL (SegmentsTurned_true tab07 (a:=(a,(b,L))) wa.1 wb.1 hk) hrel k0
theorem segmentsTurned_holds:Rows.SegmentsTurnedSaid:=
 OpenClaim.holds_of_wide 8 Tryz.f8 rfl rfl rfl rfl rfl rfl rfl ⟨rfl,rfl,rfl,rfl,rfl⟩ rfl rfl rfl rfl rfl (by kernel_rfl) Tryz.func8 (by kernel_rfl)
  (of_decide_eq_true (by kernel_rfl)) (by unfold Func.isWrapper;first | (rw[if_pos (by decide +kernel)];kernel_rfl) | (rw[if_neg (by decide +kernel)];exact⟨rfl,rfl⟩))
  (fun os started H enc _=>segmentsTurned_lifted os started H enc)
theorem segmentsTurned_card:Rows.SegmentsTurnedCardSaid:=
 Claim7.holds_tied_plain_at .later [] [.data,.data,.data,.data,.sentinel,.sentinel,.data,.data,.pinned] true (true, "25f57dac7029fd92d5eecce142c132ba71e9a3aaa4ab11d9570bb44fe62bc80d") true
  segmentsTurned_holds (fun _ h=>by cases h) (by kernel_rfl) (fun _ h=>by cases h) segmentsTurned_row_tie rfl ⟨rfl,rfl⟩ (by kernel_rfl) rfl
  (fun f fn hf hfn=>by
    obtain rfl:f=8:=Option.some.inj ((show Tryz.prog.funcNamed Rows.segmentsTurnedRow.func=some 8 by kernel_rfl).symm.trans hf) |>.symm
    obtain rfl:fn=Tryz.f8:=(Option.some.inj (Tryz.func8.symm.trans hfn)).symm
    exact⟨by kernel_rfl,fun j t ht=>by
     rw[Tryz.params8] at ht
     have hm:t∈[46]:=by simpa using Array.mem_of_getElem? ht
     have hall:(([46]:List TypeId).all fun u=> !Tryz.prog.wantsStandIn u)=true:=by kernel_rfl
     exact(show Tryz.prog.wantsStandIn t=false by simpa using List.all_eq_true.1 hall t hm)⟩)
  (by kernel_rfl)
end Vm
#print axioms Vm.segmentsTurned_card
end Go.Proofs.YtonohffniohehaaGreatDoor
