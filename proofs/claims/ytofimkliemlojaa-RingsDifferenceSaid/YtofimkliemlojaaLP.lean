/-
  The law RingsDifference: for every input the call returns true, and its arguments read as they did.
-/
import Derived.Test.YtofimkliemlojaaMS
import Derived.Test.YtofimkliemlojaaRT
set_option linter.unusedSimpArgs false
set_option linter.unusedVariables false
set_option linter.unusedSectionVars false
set_option linter.unnecessarySimpa false
namespace Go.Proofs.Ytofimkliemlojaa
open Go.ChangeShapes Go.WideShapes Go.ChangeAt Go.RowKit
namespace Vm
open Go Go.Vm Go.Vm.W Go.Vm.X
set_option maxRecDepth 100000
theorem ringsDifference_lifted (os:Os) (started:os.Started) (H:Type) (enc:TypeId×Value→H):
  ReturnsInHanded {} Try.checked os 8 .any (Rows.ringsDifferenceSpec.pre6 enc Try.prog Try.f8 Rows.ringsDifferenceRow.domain false) (Rows.ringsDifferenceSpec.post enc Try.prog Try.f8 false true false false):=by
 refine returnsInHanded_of_change (C:=Try.checked) own started (by kernel_rfl) Try.func8
  (ChangeSpec.witness6 (enc:=enc) (C:=Try.checked) false ⟨#[],#[.agg #[.slice none 0 0,.slice none 0 0,.int .u8 0],.slice none 0 0],[]⟩ 8 (by kernel_rfl) (by kernel_rfl) (by kernel_rfl) (by kernel_rfl)) ?_
 intro W base args ds gs before hval0 hW hcnd _
 refine law_post (C:=Try.checked) rfl (fun H ds h=>?_) rfl Try.underlying4 laidOut (by kernel_rfl) hW ?_
 ·rw[Try.params8] at h
  match ds,h with
  | [a,b],_=>rfl
 have hval:∀(j:Nat) t v,Try.f8.params[j]?=some t→args[j]?=some v→Value.okWide Try.prog W .any base t v:=hval0
 obtain⟨p,q,hA0,_,rfl,hfz,_⟩:=hW
 have hA:DataW.TrodAll enc Try.prog W 0 (fun _=>true) true Try.f8.params.toList args.toList ds p:=hA0
 rw[Try.params8] at hA hval
 obtain⟨v0,v1,d0,d1,p0,p1,rfl,rfl,rfl,h0,h1⟩:=trodAll_two hA
 obtain⟨x0,x1,z,l0,l1,L0,L1,rfl,b0,b1,bz,a0,a1⟩:=open_N (hval 0 26 v0 rfl rfl) h0 (noneFrozen_of hfz fun x hx=>by simp[hx])
 obtain⟨l2,L2,w2,a2⟩:=open_O (hval 1 27 v1 rfl rfl) h1 (noneFrozen_of hfz fun x hx=>by simp[hx])
 exact law_NO o_law22_RingsDifference (fun L0 L1 z L2 h0 h1 hz h2=>law22_RingsDifference_true h0 h1 hz h2) b0 b1 bz w2 a0 a1 a2
theorem ringsDifference_holds:Rows.RingsDifferenceSaid:=
 OpenClaim.holds_of_wide 8 Try.f8 rfl rfl rfl rfl rfl rfl rfl ⟨rfl,rfl,rfl,rfl,rfl⟩ rfl rfl rfl rfl rfl (by kernel_rfl) Try.func8 (by kernel_rfl)
  (of_decide_eq_true (by kernel_rfl)) (by unfold Func.isWrapper;first | (rw[if_pos (by decide +kernel)];kernel_rfl) | (rw[if_neg (by decide +kernel)];exact⟨rfl,rfl⟩))
  (fun os started H enc _=>ringsDifference_lifted os started H enc)
end Vm
#print axioms Vm.ringsDifference_holds
end Go.Proofs.Ytofimkliemlojaa
