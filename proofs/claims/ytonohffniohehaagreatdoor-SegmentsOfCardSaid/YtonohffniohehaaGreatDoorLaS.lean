/-
  The law SegmentsOf: for every input the call returns true, and its arguments read as they did.
-/
import Derived.Test.YtonohffniohehaaGreatDoorMS
import Derived.Test.YtonohffniohehaaGreatDoorTd
import Derived.Test.YtonohffniohehaaGreatDoorTc
set_option linter.unusedSimpArgs false
set_option linter.unusedVariables false
set_option linter.unusedSectionVars false
set_option linter.unnecessarySimpa false
namespace Go.Proofs.YtonohffniohehaaGreatDoor
open Go.ChangeShapes Go.WideShapes Go.ChangeAt Go.RowKit
namespace Vm
open Go Go.Vm Go.Vm.W Go.Vm.X
set_option maxRecDepth 100000
theorem segmentsOf_lifted (os:Os) (started:os.Started) (H:Type) (enc:TypeId×Value→H):
  ReturnsInHanded {} Tryz.checked os 4 .any (fun w args=>(Rows.segmentsOfSpec.pre enc Tryz.prog Tryz.f4 Rows.segmentsOfRow.domain false w args∧laidMetH Tryz.prog Rows.segmentsOfRow.laid w)∧sizedMet enc Tryz.prog Tryz.f4 (OpenSpec.ofChange Rows.segmentsOfSpec) false w args)
   (Rows.segmentsOfSpec.post enc Tryz.prog Tryz.f4 false true false false):=by
 refine rows_sized (C:=Tryz.checked) (X:=fun w _=>laidMetH Tryz.prog Rows.segmentsOfRow.laid w) (fun _ _ _ hh h=>h.of_heap hh) own started (by kernel_rfl) Tryz.func4
  (ChangeSpec.witness_shaped (enc:=enc) (C:=Tryz.checked) (os:=os) (X:=fun w _=>laidMetH Tryz.prog Rows.segmentsOfRow.laid w) false (wit os) #[.agg #[.int .u8 0,.int .u8 0,.slice none 0 0]] 8 (wit_os os)
    (World.shaped_of_RefB (by kernel_rfl) (by kernel_rfl)) (by kernel_rfl) (by kernel_rfl) (by kernel_rfl) (door_met os _)) ?_
 intro W base args ds gs before hsh hval0 hW hL hwt0
 refine law_post (C:=Tryz.checked) rfl (fun H ds h=>?_) rfl Tryz.underlying4 laidOut (by kernel_rfl) hW ?_
 ·rw[Tryz.params4] at h
  match ds,h with
  | [a],_=>rfl
 have hval:∀(j:Nat) t v,Tryz.f4.params[j]?=some t→args[j]?=some v→Value.okWide Tryz.prog W .any base t v:=hval0
 obtain⟨p,q,hA0,hG0,rfl,hfz,_⟩:=hW
 have hA:DataW.TrodAll enc Tryz.prog W 0 (fun _=>true) true Tryz.f4.params.toList args.toList ds p:=hA0
 rw[Tryz.params4] at hA hval
 obtain⟨v0,d0,rfl,rfl,h0⟩:=trodAll_one hA
 obtain⟨x,a,b,l0,L,M,rfl,wa,wb,hk,hrel,k0⟩:=open_P (hval 0 46 v0 rfl rfl) h0 (noneFrozen_of hfz fun x hx=>List.mem_append.2 (.inl hx))
 exact law_O o_law07_SegmentsOf hsh hL (SegmentsOf_true tab07 (a:=(a,(b,L))) wa.1 wb.1 hk) hrel k0
theorem segmentsOf_holds:Rows.SegmentsOfSaid:=
 OpenClaim.holds_of_wide 4 Tryz.f4 rfl rfl rfl rfl rfl rfl rfl ⟨rfl,rfl,rfl,rfl,rfl⟩ rfl rfl rfl rfl rfl (by kernel_rfl) Tryz.func4 (by kernel_rfl)
  (of_decide_eq_true (by kernel_rfl)) (by unfold Func.isWrapper;first | (rw[if_pos (by decide +kernel)];kernel_rfl) | (rw[if_neg (by decide +kernel)];exact⟨rfl,rfl⟩))
  (fun os started H enc _=>segmentsOf_lifted os started H enc)
theorem segmentsOf_card:Rows.SegmentsOfCardSaid:=
 Claim7.holds_tied_plain_at .later [] [.data,.data,.data,.data,.sentinel,.sentinel,.data,.pinned] true (true, "25f57dac7029fd92d5eecce142c132ba71e9a3aaa4ab11d9570bb44fe62bc80d") true
  segmentsOf_holds (fun _ h=>by cases h) (by kernel_rfl) (fun _ h=>by cases h) segmentsOf_row_tie rfl ⟨rfl,rfl⟩ (by kernel_rfl) rfl
  (fun f fn hf hfn=>by
    obtain rfl:f=4:=Option.some.inj ((show Tryz.prog.funcNamed Rows.segmentsOfRow.func=some 4 by kernel_rfl).symm.trans hf) |>.symm
    obtain rfl:fn=Tryz.f4:=(Option.some.inj (Tryz.func4.symm.trans hfn)).symm
    exact⟨by kernel_rfl,fun j t ht=>by
     rw[Tryz.params4] at ht
     have hm:t∈[46]:=by simpa using Array.mem_of_getElem? ht
     have hall:(([46]:List TypeId).all fun u=> !Tryz.prog.wantsStandIn u)=true:=by kernel_rfl
     exact(show Tryz.prog.wantsStandIn t=false by simpa using List.all_eq_true.1 hall t hm)⟩)
  (by kernel_rfl)
end Vm
#print axioms Vm.segmentsOf_card
end Go.Proofs.YtonohffniohehaaGreatDoor
