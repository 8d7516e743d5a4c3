/-
  Nets: the chapter's examples, run by the kernel.
  The law NetsCompare: for every input the call returns true, and its arguments read as they did.
-/
import Derived.Test.YtahplmacekfjgaaGreatDoorMS
set_option linter.unusedSimpArgs false
set_option linter.unusedVariables false
set_option linter.unusedSectionVars false
set_option linter.unnecessarySimpa false
namespace Go.Vm
namespace X
open W
theorem lives38:law38_lives fuel ()=some true:=by kernel_rfl
end X
end Go.Vm
namespace Go.Proofs.YtahplmacekfjgaaGreatDoor
open Go.ChangeShapes Go.WideShapes Go.ChangeAt Go.RowKit
namespace Vm
open Go Go.Vm Go.Vm.W Go.Vm.X
set_option maxRecDepth 100000
theorem netsCompare_lifted (os:Os) (started:os.Started) (H:Type) (enc:TypeId×Value→H):
  ReturnsInHanded {} Tryz.checked os 3 .any (fun w args=>(Rows.netsCompareSpec.pre enc Tryz.prog Tryz.f3 Rows.netsCompareRow.domain false w args∧laidMetH Tryz.prog Rows.netsCompareRow.laid w)∧sizedMet enc Tryz.prog Tryz.f3 (OpenSpec.ofChange Rows.netsCompareSpec) false w args)
   (Rows.netsCompareSpec.post enc Tryz.prog Tryz.f3 false true false false):=by
 refine rows_sized (C:=Tryz.checked) (X:=fun w _=>laidMetH Tryz.prog Rows.netsCompareRow.laid w) (fun _ _ _ hh h=>h.of_heap hh) own started (by kernel_rfl) Tryz.func3
  (ChangeSpec.witness_shaped (enc:=enc) (C:=Tryz.checked) (os:=os) (X:=fun w _=>laidMetH Tryz.prog Rows.netsCompareRow.laid w) false (World.laidAll Tryz.prog os Rows.netsCompareRow.laid) #[.agg #[.slice none 0 0,.int .u64 0,.int .u64 0],.agg #[.slice none 0 0,.int .u64 0,.int .u64 0],.agg #[.slice none 0 0,.int .u64 0,.int .u64 0]] 8 (World.laidAll_os _ _ _)
    (World.shaped_of_ZipB (by kernel_rfl) (by kernel_rfl)) (by kernel_rfl) (by kernel_rfl) (by kernel_rfl)
    (by rw[MakeChecks.laidMetH_plain _ _ _ (by kernel_rfl)];exact laidMet_laidAll _ (by kernel_rfl) (by kernel_rfl))) ?_
 intro W base args ds gs before hsh hval0 hW hL hwt0
 refine law_post (C:=Tryz.checked) rfl (fun H ds h=>?_) rfl Tryz.underlying4 laidOut (by kernel_rfl) hW ?_
 ·rw[Tryz.params3] at h
  match ds,h with
  | [a,b,c],_=>rfl
 have hval:∀(j:Nat) t v,Tryz.f3.params[j]?=some t→args[j]?=some v→Value.okWide Tryz.prog W .any base t v:=hval0
 obtain⟨p,q,hA0,hG0,rfl,hfz,_⟩:=hW
 have hA:DataW.TrodAll enc Tryz.prog W 0 (fun _=>true) true Tryz.f3.params.toList args.toList ds p:=hA0
 have hwt:∀n∈DataW.weightsEach Tryz.prog (Tryz.f3.params.toList++[]) (ds++gs),n≤reachBytes:=fun n hn=>by simpa using List.all_eq_true.1 hwt0 n hn
 rw[Tryz.params3] at hA hval hwt
 rw[MakeChecks.laidMetH_plain _ _ _ (by kernel_rfl)] at hL
 obtain⟨v0,v1,v2,d0,d1,d2,p0,p1,p2,rfl,rfl,rfl,h0,h1,h2⟩:=trodAll_three hA
 obtain⟨x0,c0,b0,l0,L0,rfl,w0,g0,wc0,wb0,a0⟩:=open_N (hval 0 25 v0 rfl rfl) h0 (noneFrozen_of hfz fun x hx=>by simp[hx]) (fun n hn=>hwt _ (DataW.weights_mem_each (j:=0) rfl rfl n hn))
 obtain⟨x1,c1,b1,l1,L1,rfl,w1,g1,wc1,wb1,a1⟩:=open_N (hval 1 25 v1 rfl rfl) h1 (noneFrozen_of hfz fun x hx=>by simp[hx]) (fun n hn=>hwt _ (DataW.weights_mem_each (j:=1) rfl rfl n hn))
 obtain⟨x2,c2,b2,l2,L2,rfl,w2,g2,wc2,wb2,a2⟩:=open_N (hval 2 25 v2 rfl rfl) h2 (noneFrozen_of hfz fun x hx=>by simp[hx]) (fun n hn=>hwt _ (DataW.weights_mem_each (j:=2) rfl rfl n hn))
 exact law_N3 o_law38_NetsCompare hL (law38_NetsCompare_true (nn:=fuel-1000000) ⟨w0,Nat.le_trans g0 (by decide),g0,wc0,wb0⟩ ⟨w1,Nat.le_trans g1 (by decide),g1,wc1,wb1⟩ ⟨w2,Nat.le_trans g2 (by decide),g2,wc2,wb2⟩ lives38) a0 a1 a2
theorem netsCompare_holds:Rows.NetsCompareSaid:=
 OpenClaim.holds_of_wide 3 Tryz.f3 rfl rfl rfl rfl rfl rfl rfl ⟨rfl,rfl,rfl,rfl,rfl⟩ rfl rfl rfl rfl rfl (by kernel_rfl) Tryz.func3 (by kernel_rfl)
  (of_decide_eq_true (by kernel_rfl)) (by unfold Func.isWrapper;first | (rw[if_pos (by decide +kernel)];kernel_rfl) | (rw[if_neg (by decide +kernel)];exact⟨rfl,rfl⟩))
  (fun os started H enc _=>netsCompare_lifted os started H enc)
theorem netsCompare_card:Rows.NetsCompareCardSaid:=
 Claim7.holds_tied_plain_at .later [] [.data,.data,.data] true (true, "b2ccb93f7ee1f08e47e4f2ff3d58f102192d641d4937c78bd7d0bd36fee08b35") true
  netsCompare_holds (fun _ h=>by cases h) (by kernel_rfl) (fun _ h=>by cases h) netsCompare_row_tie rfl ⟨rfl,rfl⟩ (by kernel_rfl) rfl
  (fun f fn hf hfn=>by
    obtain rfl:f=3:=Option.some.inj ((show Tryz.prog.funcNamed Rows.netsCompareRow.func=some 3 by kernel_rfl).symm.trans hf) |>.symm
    obtain rfl:fn=Tryz.f3:=(Option.some.inj (Tryz.func3.symm.trans hfn)).symm
    exact⟨by kernel_rfl,fun j t ht=>by
     rw[Tryz.params3] at ht
     have hm:t∈[25,25,25]:=by simpa using Array.mem_of_getElem? ht
     have hall:(([25,25,25]:List TypeId).all fun u=> !Tryz.prog.wantsStandIn u)=true:=by kernel_rfl
     exact(show Tryz.prog.wantsStandIn t=false by simpa using List.all_eq_true.1 hall t hm)⟩)
  (by kernel_rfl)
end Vm
#print axioms Vm.netsCompare_card
end Go.Proofs.YtahplmacekfjgaaGreatDoor
