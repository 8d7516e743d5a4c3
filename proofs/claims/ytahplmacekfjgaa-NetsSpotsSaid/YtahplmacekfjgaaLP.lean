/-
  The law NetsSpots: for every input the call returns true, and its arguments read as they did.
-/
import Derived.Test.YtahplmacekfjgaaMS
import Derived.Test.YtahplmacekfjgaaNS
set_option linter.unusedSimpArgs false
set_option linter.unusedVariables false
set_option linter.unusedSectionVars false
set_option linter.unnecessarySimpa false
namespace Go.Proofs.Ytahplmacekfjgaa
open Go.ChangeShapes Go.WideShapes Go.ChangeAt Go.RowKit
namespace Vm
open Go Go.Vm Go.Vm.W Go.Vm.X
set_option maxRecDepth 100000
theorem netsSpots_lifted (os:Os) (started:os.Started) (H:Type) (enc:TypeId×Value→H):
  ReturnsInHanded {} Try.checked os 3 .any (Rows.netsSpotsSpec.pre6 enc Try.prog Try.f3 Rows.netsSpotsRow.domain false) (Rows.netsSpotsSpec.post enc Try.prog Try.f3 false true false false):=by
 refine returnsInHanded_of_change_sized (C:=Try.checked) own started (by kernel_rfl) Try.func3
  (ChangeSpec.witness6 (enc:=enc) (C:=Try.checked) false ⟨#[],#[.agg #[.slice none 0 0,.int .u64 0,.int .u64 0]],[]⟩ 8 (by kernel_rfl) (by kernel_rfl) (by kernel_rfl) (by kernel_rfl)) ?_
 intro W base args ds gs before hval0 hW hcnd hwt0 _
 refine law_post (C:=Try.checked) rfl (fun H ds h=>?_) rfl Try.underlying4 laidOut (by kernel_rfl) hW ?_
 ·rw[Try.params3] at h
  match ds,h with
  | [a],_=>rfl
 have hval:∀(j:Nat) t v,Try.f3.params[j]?=some t→args[j]?=some v→Value.okWide Try.prog W .any base t v:=hval0
 obtain⟨p,q,hA0,hG0,rfl,hfz,_⟩:=hW
 have hA:DataW.TrodAll enc Try.prog W 0 (fun _=>true) true Try.f3.params.toList args.toList ds p:=hA0
 have hwt:∀n∈DataW.weightsEach Try.prog (Try.f3.params.toList++[]) (ds++gs),n≤reachBytes:=fun n hn=>by simpa using List.all_eq_true.1 hwt0 n hn
 rw[Try.params3] at hA hval hwt
 obtain⟨v0,d0,rfl,rfl,h0⟩:=trodAll_one hA
 obtain⟨x0,c,b,l,L,rfl,w0,w1,wc,wb,a0⟩:=open_N (hval 0 25 v0 rfl rfl) h0 (noneFrozen_of hfz fun x hx=>by simp[hx]) (fun n hn=>hwt _ (DataW.weights_mem_each (j:=0) rfl rfl n hn))
 exact law_N o_law38_NetsSpots (law38_NetsSpots_true (nn:=fuel-1000000) w0 (Nat.le_trans w1 (by decide)) w1 wc wb lives38) a0
theorem netsSpots_holds:Rows.NetsSpotsSaid:=
 OpenClaim.holds_of_wide 3 Try.f3 rfl rfl rfl rfl rfl rfl rfl ⟨rfl,rfl,rfl,rfl,rfl⟩ rfl rfl rfl rfl rfl (by kernel_rfl) Try.func3 (by kernel_rfl)
  (of_decide_eq_true (by kernel_rfl)) (by unfold Func.isWrapper;first | (rw[if_pos (by decide +kernel)];kernel_rfl) | (rw[if_neg (by decide +kernel)];exact⟨rfl,rfl⟩))
  (fun os started H enc _=>netsSpots_lifted os started H enc)
end Vm
#print axioms Vm.netsSpots_holds
end Go.Proofs.Ytahplmacekfjgaa
