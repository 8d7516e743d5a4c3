/-
  The law SegmentsErrors: for every input the call returns true, and its arguments read as they did.
-/
import Derived.Test.YtonohffniohehaaGreatDoorMS
import Derived.Test.YtonohffniohehaaGreatDoorTd
import Derived.Test.YtonohffniohehaaGreatDoorTc
set_option linter.unusedSimpArgs false
set_option linter.unusedVariables false
set_option linter.unusedSectionVars false
set_option linter.unnecessarySimpa false
namespace Go.Proofs.YtonohffniohehaaGreatDoor
open Go.ChangeShapes Go.WideShapes Go.ChangeAt Go.RowKit
namespace Vm
open Go Go.Vm Go.Vm.W Go.Vm.X
set_option maxRecDepth 100000
theorem segmentsErrors_lifted (os:Os) (started:os.Started) (H:Type) (enc:TypeId×Value→H):
  ReturnsInHanded {} Tryz.checked os 6 .any (fun w args=>(Rows.segmentsErrorsSpec.pre enc Tryz.prog Tryz.f6 Rows.segmentsErrorsRow.domain false w args∧laidMetH Tryz.prog Rows.segmentsErrorsRow.laid w)∧sizedMet enc Tryz.prog Tryz.f6 (OpenSpec.ofChange Rows.segmentsErrorsSpec) false w args)
   (Rows.segmentsErrorsSpec.post enc Tryz.prog Tryz.f6 false true false false):=by
 refine rows_sized (C:=Tryz.checked) (X:=fun w _=>laidMetH Tryz.prog Rows.segmentsErrorsRow.laid w) (fun _ _ _ hh h=>h.of_heap hh) own started (by kernel_rfl) Tryz.func6
  (ChangeSpec.witness_shaped (enc:=enc) (C:=Tryz.checked) (os:=os) (X:=fun w _=>laidMetH Tryz.prog Rows.segmentsErrorsRow.laid w) false (wit os) #[.agg #[.int .i64 0,.int .i64 0,.slice none 0 0],.agg #[.int .u8 0,.int .u8 0,.int .i64 0,.int .i64 0,.int .i64 0]] 8 (wit_os os)
    (World.shaped_of_RefB (by kernel_rfl) (by kernel_rfl)) (by kernel_rfl) (by kernel_rfl) (by kernel_rfl) (door_met os _)) ?_
 intro W base args ds gs before hsh hval0 hW hL hwt0
 refine law_post (C:=Tryz.checked) rfl (fun H ds h=>?_) rfl Tryz.underlying4 laidOut (by kernel_rfl) hW ?_
 ·rw[Tryz.params6] at h
  match ds,h with
  | [a,b],_=>rfl
 have hval:∀(j:Nat) t v,Tryz.f6.params[j]?=some t→args[j]?=some v→Value.okWide Tryz.prog W .any base t v:=hval0
 obtain⟨p,q,hA0,hG0,rfl,hfz,_⟩:=hW
 have hA:DataW.TrodAll enc Tryz.prog W 0 (fun _=>true) true Tryz.f6.params.toList args.toList ds p:=hA0
 rw[Tryz.params6] at hA hval
 obtain⟨v0,v1,d0,d1,p0,p1,rfl,rfl,rfl,h0,h1⟩:=trodAll_two hA
 obtain⟨x,a,b,l0,L,M,rfl,hC,hrel,k0⟩:=open_Pat (hval 0 49 v0 rfl rfl) h0 (noneFrozen_of hfz fun x hx=>by simp[hx])
 obtain⟨k,l,c,s,t,rfl,hb⟩:=open_S (hval 1 29 v1 rfl rfl) h1
 exact law_E o_law07_SegmentsErrors hsh hL (SegmentsErrors_true tab07 (p:=(a,(b,L))) hC) hrel k0
theorem segmentsErrors_holds:Rows.SegmentsErrorsSaid:=
 OpenClaim.holds_of_wide 6 Tryz.f6 rfl rfl rfl rfl rfl rfl rfl ⟨rfl,rfl,rfl,rfl,rfl⟩ rfl rfl rfl rfl rfl (by kernel_rfl) Tryz.func6 (by kernel_rfl)
  (of_decide_eq_true (by kernel_rfl)) (by unfold Func.isWrapper;first | (rw[if_pos (by decide +kernel)];kernel_rfl) | (rw[if_neg (by decide +kernel)];exact⟨rfl,rfl⟩))
  (fun os started H enc _=>segmentsErrors_lifted os started H enc)
theorem segmentsErrors_card:Rows.SegmentsErrorsCardSaid:=
 Claim7.holds_tied_plain_at .later [] [.data,.data,.data,.data,.sentinel,.sentinel,.data,.pinned] true (true, "25f57dac7029fd92d5eecce142c132ba71e9a3aaa4ab11d9570bb44fe62bc80d") true
  segmentsErrors_holds (fun _ h=>by cases h) (by kernel_rfl) (fun _ h=>by cases h) segmentsErrors_row_tie rfl ⟨rfl,rfl⟩ (by kernel_rfl) rfl
  (fun f fn hf hfn=>by
    obtain rfl:f=6:=Option.some.inj ((show Tryz.prog.funcNamed Rows.segmentsErrorsRow.func=some 6 by kernel_rfl).symm.trans hf) |>.symm
    obtain rfl:fn=Tryz.f6:=(Option.some.inj (Tryz.func6.symm.trans hfn)).symm
    exact⟨by kernel_rfl,fun j t ht=>by
     rw[Tryz.params6] at ht
     have hm:t∈[49,29]:=by simpa using Array.mem_of_getElem? ht
     have hall:(([49,29]:List TypeId).all fun u=> !Tryz.prog.wantsStandIn u)=true:=by kernel_rfl
     exact(show Tryz.prog.wantsStandIn t=false by simpa using List.all_eq_true.1 hall t hm)⟩)
  (by kernel_rfl)
end Vm
#print axioms Vm.segmentsErrors_card
end Go.Proofs.YtonohffniohehaaGreatDoor
