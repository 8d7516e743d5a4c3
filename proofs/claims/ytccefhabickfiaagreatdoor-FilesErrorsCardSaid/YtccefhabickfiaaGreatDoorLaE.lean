/-
  The law FilesErrors: for every input the call returns true, and its arguments read as they did.
-/
import Derived.Test.YtccefhabickfiaaGreatDoorTdE
set_option linter.unusedSimpArgs false
set_option linter.unusedVariables false
set_option linter.unusedSectionVars false
set_option linter.unnecessarySimpa false
namespace Go.Proofs.YtccefhabickfiaaGreatDoor
open Go.ChangeShapes Go.WideShapes Go.ChangeAt Go.RowKit
namespace Vm
open Go Go.Vm Go.Vm.W Go.Vm.X
set_option maxRecDepth 100000
theorem kdt (os:Os) (started:os.Started) (H:Type) (enc:TypeId×Value->H):
  ReturnsInHanded {} Tryz.checked os 9 .any (λw args=>(Rows.filesErrorsSpec.pre enc Tryz.prog Tryz.f9 Rows.filesErrorsRow.domain false w args/\laidMetH Tryz.prog Rows.filesErrorsRow.laid w)/\sizedMet enc Tryz.prog Tryz.f9 (OpenSpec.ofChange Rows.filesErrorsSpec) false w args)
   (Rows.filesErrorsSpec.post enc Tryz.prog Tryz.f9 false true false false):=by
 refine jhd (C:=Tryz.checked) (X:=λw _=>laidMetH Tryz.prog Rows.filesErrorsRow.laid w) (λ_ _ _ hh h=>h.of_heap hh) own started (by kernel_rfl) Tryz.func9
  (ChangeSpec.witness_shaped (enc:=enc) (C:=Tryz.checked) (os:=os) (X:=λw _=>laidMetH Tryz.prog Rows.filesErrorsRow.laid w) false (wit os) #[.agg #[.int .i64 0,.int .i64 0,.slice none 0 0]] 8 (jin os)
    (World.shaped_of_RefB (by kernel_rfl) (by kernel_rfl)) (by kernel_rfl) (by kernel_rfl) (by kernel_rfl) (je8 os _)) ?_
 intro W base args ds gs before hsh hval0 hW hL hwt0;refine jfs (C:=Tryz.checked) rfl (λH ds h=>?_) rfl Tryz.underlying4 jfr (by kernel_rfl) hW ?_
 ·rw[Tryz.params9] at h
  match ds,h with
  | [a],_=>rfl
 have hval:∀(j:Nat) t v,Tryz.f9.params[j]?=some t->args[j]?=some v->Value.okWide Tryz.prog W .any base t v:=hval0;obtain⟨p,q,hA0,hG0,rfl,hfz,_⟩:=hW;have hA:DataW.TrodAll enc Tryz.prog W 0 (λ_=>true) true Tryz.f9.params.toList args.toList ds p:=hA0;rw[Tryz.params9] at hA hval;obtain⟨v0,d0,rfl,rfl,h0⟩:=trodAll_one hA;obtain⟨x,a,b,l0,L,M,rfl,hC,hrel,k0⟩:=kli (hval 0 34 v0 rfl rfl) h0 (jdm hfz λx hx=>by simp[hx]);exact kih kj8 hsh hL (j85 jm1 (p:=(a,(b,L))) hC) hrel k0
theorem kds:Rows.FilesErrorsSaid:=
 OpenClaim.holds_of_wide 9 Tryz.f9 rfl rfl rfl rfl rfl rfl rfl ⟨rfl,rfl,rfl,rfl,rfl⟩ rfl rfl rfl rfl rfl (by kernel_rfl) Tryz.func9 (by kernel_rfl)
  (of_decide_eq_true (by kernel_rfl)) (by unfold Func.isWrapper;first | (rw[aK (by decide +kernel)];kernel_rfl) | (rw[aF (by decide +kernel)];exact⟨rfl,rfl⟩))
  (λos started H enc _=>kdt os started H enc)
theorem filesErrors_card:Rows.FilesErrorsCardSaid:=
 Claim7.holds_tied_plain_at .later [] [.data,.data,.data,.data,.sentinel,.sentinel,.data,.pinned] true (true, "b3bd05c67384c84474d8b746c2c0c7e015b146a8b61302400a5f99bcd9c704b5") true
  kds (λ_ h=>by cases h) (by kernel_rfl) (λ_ h=>by cases h) filesErrors_row_tie rfl ⟨rfl,rfl⟩ (by kernel_rfl) rfl
  (λf fn hf hfn=>by
    obtain rfl:f=9:=lV ((show Tryz.prog.funcNamed Rows.filesErrorsRow.func=some 9 by kernel_rfl).symm.trans hf) |>.symm;obtain rfl:fn=Tryz.f9:=(lV (Tryz.func9.symm.trans hfn)).symm;exact⟨by kernel_rfl,λj t ht=>by
     rw[Tryz.params9] at ht;have hm:t∈[34]:=by simpa using qe8 ht
     have hall:(([34]:List TypeId).all λu=> !Tryz.prog.wantsStandIn u)=true:=by kernel_rfl
     exact(show Tryz.prog.wantsStandIn t=false by simpa using cI.1 hall t hm)⟩)
  (by kernel_rfl)
end Vm
#print axioms Vm.filesErrors_card
end Go.Proofs.YtccefhabickfiaaGreatDoor
