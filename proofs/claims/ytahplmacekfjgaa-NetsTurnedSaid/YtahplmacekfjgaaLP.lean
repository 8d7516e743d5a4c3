/-
  The law NetsTurned: for every input the call returns true, and its arguments read as they did.
-/
import Derived.Test.YtahplmacekfjgaaMS
import Derived.Test.YtahplmacekfjgaaNX
set_option linter.unusedSimpArgs false
set_option linter.unusedVariables false
set_option linter.unusedSectionVars false
set_option linter.unnecessarySimpa false
namespace Go.Proofs.Ytahplmacekfjgaa
open Go.ChangeShapes Go.WideShapes Go.ChangeAt Go.RowKit
namespace Vm
open Go Go.Vm Go.Vm.W Go.Vm.X
set_option maxRecDepth 100000
theorem netsTurned_lifted (os:Os) (started:os.Started) (H:Type) (enc:TypeId×Value→H):
  ReturnsInHanded {} Try.checked os 4 .any (Rows.netsTurnedSpec.pre6 enc Try.prog Try.f4 Rows.netsTurnedRow.domain false) (Rows.netsTurnedSpec.post enc Try.prog Try.f4 false true false false):=by
 refine returnsInHanded_of_change_sized (C:=Try.checked) own started (by kernel_rfl) Try.func4
  (ChangeSpec.witness6 (enc:=enc) (C:=Try.checked) false ⟨#[],#[.agg #[.slice none 0 0,.int .u64 0,.int .u64 0],.int .u8 0,.bool false],[]⟩ 8 (by kernel_rfl) (by kernel_rfl) (by kernel_rfl) (by kernel_rfl)) ?_
 intro W base args ds gs before hval0 hW hcnd hwt0 _
 refine law_post (C:=Try.checked) rfl (fun H ds h=>?_) rfl Try.underlying4 laidOut (by kernel_rfl) hW ?_
 ·rw[Try.params4] at h
  match ds,h with
  | [a,b,c],_=>rfl
 have hval:∀(j:Nat) t v,Try.f4.params[j]?=some t→args[j]?=some v→Value.okWide Try.prog W .any base t v:=hval0
 obtain⟨p,q,hA0,hG0,rfl,hfz,_⟩:=hW
 have hA:DataW.TrodAll enc Try.prog W 0 (fun _=>true) true Try.f4.params.toList args.toList ds p:=hA0
 have hwt:∀n∈DataW.weightsEach Try.prog (Try.f4.params.toList++[]) (ds++gs),n≤reachBytes:=fun n hn=>by simpa using List.all_eq_true.1 hwt0 n hn
 rw[Try.params4] at hA hval hwt
 obtain⟨v0,v1,v2,d0,d1,d2,p0,p1,p2,rfl,rfl,rfl,h0,h1,h2⟩:=trodAll_three hA
 obtain⟨x0,c,b,l,L,rfl,w0,w1,wc,wb,a0⟩:=open_N (hval 0 25 v0 rfl rfl) h0 (noneFrozen_of hfz fun x hx=>by simp[hx]) (fun n hn=>hwt _ (DataW.weights_mem_each (j:=0) rfl rfl n hn))
 obtain⟨z,rfl,rfl,rfl,wz⟩:=open_int Try.underlying5 (hval 1 5 v1 rfl rfl) h1
 obtain⟨o,rfl,rfl,rfl⟩:=open_bool Try.underlying4 (hval 2 4 v2 rfl rfl) h2
 exact law_NT o_law38_NetsTurned (law38_NetsTurned_true (nn:=fuel-1000000) w0 (Nat.le_trans w1 (by decide)) w1 wc wb (u8_bd wz) lives38) a0
theorem netsTurned_holds:Rows.NetsTurnedSaid:=
 OpenClaim.holds_of_wide 4 Try.f4 rfl rfl rfl rfl rfl rfl rfl ⟨rfl,rfl,rfl,rfl,rfl⟩ rfl rfl rfl rfl rfl (by kernel_rfl) Try.func4 (by kernel_rfl)
  (of_decide_eq_true (by kernel_rfl)) (by unfold Func.isWrapper;first | (rw[if_pos (by decide +kernel)];kernel_rfl) | (rw[if_neg (by decide +kernel)];exact⟨rfl,rfl⟩))
  (fun os started H enc _=>netsTurned_lifted os started H enc)
end Vm
#print axioms Vm.netsTurned_holds
end Go.Proofs.Ytahplmacekfjgaa
