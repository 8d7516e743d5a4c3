/-
  The law RingsCount: for every input the call returns true, and its arguments read as they did.
-/
import Derived.Test.YtofimkliemlojaaMS
import Derived.Test.YtofimkliemlojaaRL
set_option linter.unusedSimpArgs false
set_option linter.unusedVariables false
set_option linter.unusedSectionVars false
set_option linter.unnecessarySimpa false
namespace Go.Proofs.Ytofimkliemlojaa
open Go.ChangeShapes Go.WideShapes Go.ChangeAt Go.RowKit
namespace Vm
open Go Go.Vm Go.Vm.W Go.Vm.X
set_option maxRecDepth 100000
theorem ringsCount_lifted (os:Os) (started:os.Started) (H:Type) (enc:TypeId×Value→H):
  ReturnsInHanded {} Try.checked os 4 .any (Rows.ringsCountSpec.pre6 enc Try.prog Try.f4 Rows.ringsCountRow.domain false) (Rows.ringsCountSpec.post enc Try.prog Try.f4 false true false false):=by
 refine returnsInHanded_of_change (C:=Try.checked) own started (by kernel_rfl) Try.func4
  (ChangeSpec.witness6 (enc:=enc) (C:=Try.checked) false ⟨#[],#[.agg #[.slice none 0 0,.slice none 0 0,.int .u8 0]],[]⟩ 8 (by kernel_rfl) (by kernel_rfl) (by kernel_rfl) (by kernel_rfl)) ?_
 intro W base args ds gs before hval0 hW hcnd _
 refine law_post (C:=Try.checked) rfl (fun H ds h=>?_) rfl Try.underlying4 laidOut (by kernel_rfl) hW ?_
 ·rw[Try.params4] at h
  match ds,h with
  | [a],_=>rfl
 have hval:∀(j:Nat) t v,Try.f4.params[j]?=some t→args[j]?=some v→Value.okWide Try.prog W .any base t v:=hval0
 obtain⟨p,q,hA0,_,rfl,hfz,_⟩:=hW
 have hA:DataW.TrodAll enc Try.prog W 0 (fun _=>true) true Try.f4.params.toList args.toList ds p:=hA0
 rw[Try.params4] at hA hval
 obtain⟨v0,d0,rfl,rfl,h0⟩:=trodAll_one hA
 obtain⟨x0,x1,z,l0,l1,L0,L1,rfl,b0,b1,bz,a0,a1⟩:=open_N (hval 0 26 v0 rfl rfl) h0 (noneFrozen_of hfz fun x hx=>by simp[hx])
 exact law_N o_law22_RingsCount (fun L0 L1 z h0 h1 hz=>law22_RingsCount_true h0 h1 hz) b0 b1 bz a0 a1
theorem ringsCount_holds:Rows.RingsCountSaid:=
 OpenClaim.holds_of_wide 4 Try.f4 rfl rfl rfl rfl rfl rfl rfl ⟨rfl,rfl,rfl,rfl,rfl⟩ rfl rfl rfl rfl rfl (by kernel_rfl) Try.func4 (by kernel_rfl)
  (of_decide_eq_true (by kernel_rfl)) (by unfold Func.isWrapper;first | (rw[if_pos (by decide +kernel)];kernel_rfl) | (rw[if_neg (by decide +kernel)];exact⟨rfl,rfl⟩))
  (fun os started H enc _=>ringsCount_lifted os started H enc)
end Vm
#print axioms Vm.ringsCount_holds
end Go.Proofs.Ytofimkliemlojaa
