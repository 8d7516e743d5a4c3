/-
  The law FilesBack: for every input the call returns true, and its arguments read as they did.
-/
import Derived.Test.YtccefhabickfiaaGreatDoorTdB
set_option linter.unusedSimpArgs false
set_option linter.unusedVariables false
set_option linter.unusedSectionVars false
set_option linter.unnecessarySimpa false
namespace Go.Proofs.YtccefhabickfiaaGreatDoor
open Go.ChangeShapes Go.WideShapes Go.ChangeAt Go.RowKit
namespace Vm
open Go Go.Vm Go.Vm.W Go.Vm.X
set_option maxRecDepth 100000
theorem kdp (os:Os) (started:os.Started) (H:Type) (enc:TypeId×Value->H):
  ReturnsInHanded {} Tryz.checked os 7 .any (λw args=>(Rows.filesBackSpec.pre enc Tryz.prog Tryz.f7 Rows.filesBackRow.domain false w args/\laidMetH Tryz.prog Rows.filesBackRow.laid w)/\sizedMet enc Tryz.prog Tryz.f7 (OpenSpec.ofChange Rows.filesBackSpec) false w args)
   (Rows.filesBackSpec.post enc Tryz.prog Tryz.f7 false true false false):=by
 refine jhd (C:=Tryz.checked) (X:=λw _=>laidMetH Tryz.prog Rows.filesBackRow.laid w) (λ_ _ _ hh h=>h.of_heap hh) own started (by kernel_rfl) Tryz.func7
  (ChangeSpec.witness_shaped (enc:=enc) (C:=Tryz.checked) (os:=os) (X:=λw _=>laidMetH Tryz.prog Rows.filesBackRow.laid w) false (wit os) #[.agg #[.int .u8 0,.int .u8 0,.slice none 0 0]] 8 (jin os)
    (World.shaped_of_RefB (by kernel_rfl) (by kernel_rfl)) (by kernel_rfl) (by kernel_rfl) (by kernel_rfl) (je8 os _)) ?_
 intro W base args ds gs before hsh hval0 hW hL hwt0;refine jfs (C:=Tryz.checked) rfl (λH ds h=>?_) rfl Tryz.underlying4 jfr (by kernel_rfl) hW ?_
 ·rw[Tryz.params7] at h
  match ds,h with
  | [a],_=>rfl
 have hval:∀(j:Nat) t v,Tryz.f7.params[j]?=some t->args[j]?=some v->Value.okWide Tryz.prog W .any base t v:=hval0;obtain⟨p,q,hA0,hG0,rfl,hfz,_⟩:=hW;have hA:DataW.TrodAll enc Tryz.prog W 0 (λ_=>true) true Tryz.f7.params.toList args.toList ds p:=hA0;rw[Tryz.params7] at hA hval;obtain⟨v0,d0,rfl,rfl,h0⟩:=trodAll_one hA;obtain⟨x,a,b,l0,L,M,rfl,wa,wb,hk,hrel,k0⟩:=jp9 (hval 0 43 v0 rfl rfl) h0 (jdm hfz λx hx=>bU.2 (.inl hx));exact kik kj6 hsh hL (j83 S7 (a:=(a,(b,L))) wa.1 wb.1 hk) hrel k0
theorem kdo:Rows.FilesBackSaid:=
 OpenClaim.holds_of_wide 7 Tryz.f7 rfl rfl rfl rfl rfl rfl rfl ⟨rfl,rfl,rfl,rfl,rfl⟩ rfl rfl rfl rfl rfl (by kernel_rfl) Tryz.func7 (by kernel_rfl)
  (of_decide_eq_true (by kernel_rfl)) (by unfold Func.isWrapper;first | (rw[aK (by decide +kernel)];kernel_rfl) | (rw[aF (by decide +kernel)];exact⟨rfl,rfl⟩))
  (λos started H enc _=>kdp os started H enc)
theorem filesBack_card:Rows.FilesBackCardSaid:=
 Claim7.holds_tied_plain_at .later [] [.data,.data,.data,.data,.sentinel,.sentinel,.data,.pinned] true (true, "b3bd05c67384c84474d8b746c2c0c7e015b146a8b61302400a5f99bcd9c704b5") true
  kdo (λ_ h=>by cases h) (by kernel_rfl) (λ_ h=>by cases h) filesBack_row_tie rfl ⟨rfl,rfl⟩ (by kernel_rfl) rfl
  (λf fn hf hfn=>by
    obtain rfl:f=7:=lV ((show Tryz.prog.funcNamed Rows.filesBackRow.func=some 7 by kernel_rfl).symm.trans hf) |>.symm;obtain rfl:fn=Tryz.f7:=(lV (Tryz.func7.symm.trans hfn)).symm;exact⟨by kernel_rfl,λj t ht=>by
     rw[Tryz.params7] at ht;have hm:t∈[43]:=by simpa using qe8 ht
     have hall:(([43]:List TypeId).all λu=> !Tryz.prog.wantsStandIn u)=true:=by kernel_rfl
     exact(show Tryz.prog.wantsStandIn t=false by simpa using cI.1 hall t hm)⟩)
  (by kernel_rfl)
end Vm
#print axioms Vm.filesBack_card
end Go.Proofs.YtccefhabickfiaaGreatDoor
