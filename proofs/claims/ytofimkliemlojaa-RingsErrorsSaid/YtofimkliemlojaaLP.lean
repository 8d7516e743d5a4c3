/-
  The law RingsErrors: for every input the call returns true, and its arguments read as they did.
-/
import Derived.Test.YtofimkliemlojaaMR
import Derived.Test.YtofimkliemlojaaRT
set_option linter.unusedSimpArgs false
set_option linter.unusedVariables false
set_option linter.unusedSectionVars false
set_option linter.unnecessarySimpa false
namespace Go.Proofs.Ytofimkliemlojaa
open Go.ChangeShapes Go.WideShapes Go.ChangeAt Go.RowKit
namespace Vm
open Go Go.Vm Go.Vm.W Go.Vm.X
set_option maxRecDepth 100000
theorem ringsErrors_lifted (os:Os) (started:os.Started) (H:Type) (enc:TypeId×Value→H):
  ReturnsInHanded {} Try.checked os 7 .any (Rows.ringsErrorsSpec.pre6 enc Try.prog Try.f7 Rows.ringsErrorsRow.domain false) (Rows.ringsErrorsSpec.post enc Try.prog Try.f7 false true false false):=by
 refine returnsInHanded_of_change (C:=Try.checked) own started (by kernel_rfl) Try.func7
  (ChangeSpec.witness6 (enc:=enc) (C:=Try.checked) false ⟨#[],#[.agg #[.slice none 0 0,.slice none 0 0],.slice none 0 0,.int .i64 0],[]⟩ 8 (by kernel_rfl) (by kernel_rfl) (by kernel_rfl) (by kernel_rfl)) ?_
 intro W base args ds gs before hval0 hW hcnd _
 refine law_post (C:=Try.checked) rfl (fun H ds h=>?_) rfl Try.underlying4 laidOut (by kernel_rfl) hW ?_
 ·rw[Try.params7] at h
  match ds,h with
  | [a,b,c],_=>rfl
 have hval:∀(j:Nat) t v,Try.f7.params[j]?=some t→args[j]?=some v→Value.okWide Try.prog W .any base t v:=hval0
 obtain⟨p,q,hA0,_,rfl,hfz,_⟩:=hW
 have hA:DataW.TrodAll enc Try.prog W 0 (fun _=>true) true Try.f7.params.toList args.toList ds p:=hA0
 rw[Try.params7] at hA hval
 obtain⟨v0,v1,v2,d0,d1,d2,p0,p1,p2,rfl,rfl,rfl,h0,h1,h2⟩:=trodAll_three hA
 obtain⟨x0,x1,l0,l1,L0,L1,rfl,b0,b1,a0,a1⟩:=open_R (hval 0 31 v0 rfl rfl) h0 (noneFrozen_of hfz fun x hx=>by simp[hx])
 obtain⟨l2,L2,a2⟩:=open_P (hval 1 28 v1 rfl rfl) h1 (noneFrozen_of hfz fun x hx=>by simp[hx])
 obtain⟨i,rfl,rfl,rfl,wi⟩:=open_int Try.underlying3 (hval 2 3 v2 rfl rfl) h2
 exact law_RPI o_law22_RingsErrors (law22_RingsErrors_true b0 b1 (bounds_i64 wi)) a0 a1 a2
theorem ringsErrors_holds:Rows.RingsErrorsSaid:=
 OpenClaim.holds_of_wide 7 Try.f7 rfl rfl rfl rfl rfl rfl rfl ⟨rfl,rfl,rfl,rfl,rfl⟩ rfl rfl rfl rfl rfl (by kernel_rfl) Try.func7 (by kernel_rfl)
  (of_decide_eq_true (by kernel_rfl)) (by unfold Func.isWrapper;first | (rw[if_pos (by decide +kernel)];kernel_rfl) | (rw[if_neg (by decide +kernel)];exact⟨rfl,rfl⟩))
  (fun os started H enc _=>ringsErrors_lifted os started H enc)
end Vm
#print axioms Vm.ringsErrors_holds
end Go.Proofs.Ytofimkliemlojaa
