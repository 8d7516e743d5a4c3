/-
  The law SegmentsText: for every input the call returns true, and its arguments read as they did.
-/
import Derived.Test.YtonohffniohehaaGreatDoorMS
import Derived.Test.YtonohffniohehaaGreatDoorTd
set_option linter.unusedSimpArgs false
set_option linter.unusedVariables false
set_option linter.unusedSectionVars false
set_option linter.unnecessarySimpa false
namespace Go.Proofs.YtonohffniohehaaGreatDoor
open Go.ChangeShapes Go.WideShapes Go.ChangeAt Go.RowKit
namespace Vm
open Go Go.Vm Go.Vm.W Go.Vm.X
set_option maxRecDepth 100000
theorem segmentsText_lifted (os:Os) (started:os.Started) (H:Type) (enc:TypeId×Value→H):
  ReturnsInHanded {} Tryz.checked os 7 .any (fun w args=>(Rows.segmentsTextSpec.pre enc Tryz.prog Tryz.f7 Rows.segmentsTextRow.domain false w args∧laidMetH Tryz.prog Rows.segmentsTextRow.laid w)∧sizedMet enc Tryz.prog Tryz.f7 (OpenSpec.ofChange Rows.segmentsTextSpec) false w args)
   (Rows.segmentsTextSpec.post enc Tryz.prog Tryz.f7 false true false false):=by
 refine rows_sized (C:=Tryz.checked) (X:=fun w _=>laidMetH Tryz.prog Rows.segmentsTextRow.laid w) (fun _ _ _ hh h=>h.of_heap hh) own started (by kernel_rfl) Tryz.func7
  (ChangeSpec.witness_shaped (enc:=enc) (C:=Tryz.checked) (os:=os) (X:=fun w _=>laidMetH Tryz.prog Rows.segmentsTextRow.laid w) false (wit os) #[.agg #[.int .u8 0,.int .u8 0,.int .i64 0,.int .i64 0,.int .i64 0],.string ByteArray.empty] 8 (wit_os os)
    (World.shaped_of_RefB (by kernel_rfl) (by kernel_rfl)) (by kernel_rfl) (by kernel_rfl) (by kernel_rfl) (door_met os _)) ?_
 intro W base args ds gs before hsh hval0 hW hL hwt0
 refine law_post (C:=Tryz.checked) rfl (fun H ds h=>?_) rfl Tryz.underlying4 laidOut (by kernel_rfl) hW ?_
 ·rw[Tryz.params7] at h
  match ds,h with
  | [a,b],_=>rfl
 have hval:∀(j:Nat) t v,Tryz.f7.params[j]?=some t→args[j]?=some v→Value.okWide Tryz.prog W .any base t v:=hval0
 obtain⟨p,q,hA0,hG0,rfl,hfz,_⟩:=hW
 have hA:DataW.TrodAll enc Tryz.prog W 0 (fun _=>true) true Tryz.f7.params.toList args.toList ds p:=hA0
 rw[Tryz.params7] at hA hval
 obtain⟨v0,v1,d0,d1,p0,p1,rfl,rfl,rfl,h0,h1⟩:=trodAll_two hA
 obtain⟨k,l,c,s,t,rfl,hb⟩:=open_S (hval 0 29 v0 rfl rfl) h0
 obtain⟨bs,rfl,rfl,rfl,_⟩:=Go.ChangeMaps.open_string Tryz.underlying9 (hval 1 9 v1 rfl rfl) h1
 exact law_T o_law07_SegmentsText hsh hL bs SegmentsText_true
theorem segmentsText_holds:Rows.SegmentsTextSaid:=
 OpenClaim.holds_of_wide 7 Tryz.f7 rfl rfl rfl rfl rfl rfl rfl ⟨rfl,rfl,rfl,rfl,rfl⟩ rfl rfl rfl rfl rfl (by kernel_rfl) Tryz.func7 (by kernel_rfl)
  (of_decide_eq_true (by kernel_rfl)) (by unfold Func.isWrapper;first | (rw[if_pos (by decide +kernel)];kernel_rfl) | (rw[if_neg (by decide +kernel)];exact⟨rfl,rfl⟩))
  (fun os started H enc _=>segmentsText_lifted os started H enc)
theorem segmentsText_card:Rows.SegmentsTextCardSaid:=
 Claim7.holds_tied_plain_at .later [] [.data,.data,.data,.data,.sentinel,.sentinel,.data,.pinned] true (true, "25f57dac7029fd92d5eecce142c132ba71e9a3aaa4ab11d9570bb44fe62bc80d") true
  segmentsText_holds (fun _ h=>by cases h) (by kernel_rfl) (fun _ h=>by cases h) segmentsText_row_tie rfl ⟨rfl,rfl⟩ (by kernel_rfl) rfl
  (fun f fn hf hfn=>by
    obtain rfl:f=7:=Option.some.inj ((show Tryz.prog.funcNamed Rows.segmentsTextRow.func=some 7 by kernel_rfl).symm.trans hf) |>.symm
    obtain rfl:fn=Tryz.f7:=(Option.some.inj (Tryz.func7.symm.trans hfn)).symm
    exact⟨by kernel_rfl,fun j t ht=>by
     rw[Tryz.params7] at ht
     have hm:t∈[29,9]:=by simpa using Array.mem_of_getElem? ht
     have hall:(([29,9]:List TypeId).all fun u=> !Tryz.prog.wantsStandIn u)=true:=by kernel_rfl
     exact(show Tryz.prog.wantsStandIn t=false by simpa using List.all_eq_true.1 hall t hm)⟩)
  (by kernel_rfl)
end Vm
#print axioms Vm.segmentsText_card
end Go.Proofs.YtonohffniohehaaGreatDoor
