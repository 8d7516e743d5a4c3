/-
  Nets: the chapter's examples, run by the kernel.
  The law NetsErrors: for every input the call returns true, and its arguments read as they did.
-/
import Derived.Test.YtahplmacekfjgaaGreatDoorMS
set_option linter.unusedSimpArgs false
set_option linter.unusedVariables false
set_option linter.unusedSectionVars false
set_option linter.unnecessarySimpa false
namespace Go.Vm
namespace X
open W
theorem kb8:ja7 fuel ()=some true:=by kernel_rfl
end X
end Go.Vm
namespace Go.Proofs.YtahplmacekfjgaaGreatDoor
open Go.ChangeShapes Go.WideShapes Go.ChangeAt Go.RowKit
namespace Vm
open Go Go.Vm Go.Vm.W Go.Vm.X
set_option maxRecDepth 100000
theorem jp9 (os:Os) (started:os.Started) (H:Type) (enc:TypeId×Value→H):
  ReturnsInHanded {} Tryz.checked os 4 .any (fun w args=>(Rows.netsErrorsSpec.pre enc Tryz.prog Tryz.f4 Rows.netsErrorsRow.domain false w args∧laidMetH Tryz.prog Rows.netsErrorsRow.laid w)∧sizedMet enc Tryz.prog Tryz.f4 (OpenSpec.ofChange Rows.netsErrorsSpec) false w args)
   (Rows.netsErrorsSpec.post enc Tryz.prog Tryz.f4 false true false false):=by
 refine j3l (C:=Tryz.checked) (X:=fun w _=>laidMetH Tryz.prog Rows.netsErrorsRow.laid w) (fun _ _ _ hh h=>h.of_heap hh) own started (by kernel_rfl) Tryz.func4
  (ChangeSpec.witness_shaped (enc:=enc) (C:=Tryz.checked) (os:=os) (X:=fun w _=>laidMetH Tryz.prog Rows.netsErrorsRow.laid w) false (World.laidAll Tryz.prog os Rows.netsErrorsRow.laid) #[.agg #[.slice none 0 0,.slice none 0 0],.int .u8 0,.agg #[.int .i64 0,.int .i64 0,.int .i64 0,.int .i64 0,.int .i64 0,.int .i64 0,.int .i64 0,.int .i64 0,.int .i64 0]] 8 (World.laidAll_os _ _ _)
    (World.shaped_of_ZipB (by kernel_rfl) (by kernel_rfl)) (by kernel_rfl) (by kernel_rfl) (by kernel_rfl)
    (by rw[MakeChecks.laidMetH_plain _ _ _ (by kernel_rfl)];exact laidMet_laidAll _ (by kernel_rfl) (by kernel_rfl))) ?_
 intro W base args ds gs before hsh hval0 hW hL hwt0
 refine j8y (C:=Tryz.checked) rfl (fun H ds h=>?_) rfl Tryz.underlying4 kcb (by kernel_rfl) hW ?_
 ·rw[Tryz.params4] at h
  match ds,h with
  | [a,b,c],_=>rfl
 have hval:∀(j:Nat) t v,Tryz.f4.params[j]?=some t→args[j]?=some v→Value.okWide Tryz.prog W .any base t v:=hval0
 obtain⟨p,q,hA0,hG0,rfl,hfz,_⟩:=hW
 have hA:DataW.TrodAll enc Tryz.prog W 0 (fun _=>true) true Tryz.f4.params.toList args.toList ds p:=hA0
 have hwt:∀n∈DataW.weightsEach Tryz.prog (Tryz.f4.params.toList++[]) (ds++gs),n≤reachBytes:=fun n hn=>by simpa using List.all_eq_true.1 hwt0 n hn
 rw[Tryz.params4] at hA hval hwt
 rw[MakeChecks.laidMetH_plain _ _ _ (by kernel_rfl)] at hL
 obtain⟨v0,v1,v2,d0,d1,d2,p0,p1,p2,rfl,rfl,rfl,h0,h1,h2⟩:=trodAll_three hA
 obtain⟨w0,w1,l0,l1,S,G,M0,M1,rfl,r0,r1,k0,k1⟩:=j8s (hval 0 29 v0 rfl rfl) h0 (jj6 hfz fun x hx=>by simp[hx])
 obtain⟨z,rfl,rfl,rfl,wz⟩:=open_int Tryz.underlying5 (hval 1 5 v1 rfl rfl) h1
 obtain⟨a0,a1,a2,b0,b1,b2,c0,c1,c2,rfl⟩:=kez (hval 2 44 v2 rfl rfl) h2
 exact ki2 jox hL (jlt (nn:=fuel-1000000) (kip wz) rfl rfl rfl kb8) r0 r1 k0 k1
theorem jrd:Rows.NetsErrorsSaid:=
 OpenClaim.holds_of_wide 4 Tryz.f4 rfl rfl rfl rfl rfl rfl rfl ⟨rfl,rfl,rfl,rfl,rfl⟩ rfl rfl rfl rfl rfl (by kernel_rfl) Tryz.func4 (by kernel_rfl)
  (of_decide_eq_true (by kernel_rfl)) (by unfold Func.isWrapper;first | (rw[if_pos (by decide +kernel)];kernel_rfl) | (rw[if_neg (by decide +kernel)];exact⟨rfl,rfl⟩))
  (fun os started H enc _=>jp9 os started H enc)
theorem netsErrors_card:Rows.NetsErrorsCardSaid:=
 Claim7.holds_tied_plain_at .later [] [.data,.data,.data] true (true, "b2ccb93f7ee1f08e47e4f2ff3d58f102192d641d4937c78bd7d0bd36fee08b35") true
  jrd (fun _ h=>by cases h) (by kernel_rfl) (fun _ h=>by cases h) netsErrors_row_tie rfl ⟨rfl,rfl⟩ (by kernel_rfl) rfl
  (fun f fn hf hfn=>by
    obtain rfl:f=4:=Option.some.inj ((show Tryz.prog.funcNamed Rows.netsErrorsRow.func=some 4 by kernel_rfl).symm.trans hf) |>.symm
    obtain rfl:fn=Tryz.f4:=(Option.some.inj (Tryz.func4.symm.trans hfn)).symm
    exact⟨by kernel_rfl,fun j t ht=>by
     rw[Tryz.params4] at ht
     have hm:t∈[29,5,44]:=by simpa using Array.mem_of_getElem? ht
     have hall:(([29,5,44]:List TypeId).all fun u=> !Tryz.prog.wantsStandIn u)=true:=by kernel_rfl
     exact(show Tryz.prog.wantsStandIn t=false by simpa using List.all_eq_true.1 hall t hm)⟩)
  (by kernel_rfl)
end Vm
#print axioms Vm.netsErrors_card
end Go.Proofs.YtahplmacekfjgaaGreatDoor
