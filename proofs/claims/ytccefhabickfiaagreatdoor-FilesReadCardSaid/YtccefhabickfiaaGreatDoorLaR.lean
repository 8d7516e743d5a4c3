/- The law FilesRead: for every input the call returns true, and its arguments read as they did. -/
import Derived.Test.YtccefhabickfiaaGreatDoorTdR
set_option linter.unusedSimpArgs false
set_option linter.unusedVariables false
namespace Go.Proofs.YtccefhabickfiaaGreatDoor
open Go.ChangeShapes Go.WideShapes Go.ChangeAt Go.RowKit
namespace Vm
open Go Go.Vm Go.Vm.W Go.Vm.X
set_option maxRecDepth 100000
theorem kdf (os:Os) (started:os.Started) (H:Type) (enc:TypeId×Value->H):
  ReturnsInHanded {} Tryz.checked os 4 .any (λw args=>(Rows.filesReadSpec.pre enc Tryz.prog Tryz.f4 Rows.filesReadRow.domain false w args/\laidMetH Tryz.prog Rows.filesReadRow.laid w)/\sizedMet enc Tryz.prog Tryz.f4 (OpenSpec.ofChange Rows.filesReadSpec) false w args)
   (Rows.filesReadSpec.post enc Tryz.prog Tryz.f4 false true false false):=by
 refine jox (C:=Tryz.checked) (X:=λw _=>laidMetH Tryz.prog Rows.filesReadRow.laid w) (λ_ _ _ hh h=>h.of_heap hh) own started (by kernel_rfl) Tryz.func4
  (ChangeSpec.witness_shaped (enc:=enc) (C:=Tryz.checked) (os:=os) (X:=λw _=>laidMetH Tryz.prog Rows.filesReadRow.laid w) false (wit os) #[.string ByteArray.empty,.bool false] 8 (jqp os)
    (World.shaped_of_RefB (by kernel_rfl) (by kernel_rfl)) (by kernel_rfl) (by kernel_rfl) (by kernel_rfl) (jlt os _)) ?_
 intro W base args ds gs before hsh hval0 hW hL hwt0;refine jm4 (C:=Tryz.checked) rfl (λH ds h=>?_) rfl Tryz.underlying4 jmy (by kernel_rfl) hW ?_
 ·rw[Tryz.params4] at h
  match ds,h with
  | [a,b],_=>rfl
 have hval:∀(j:Nat) t v,Tryz.f4.params[j]?=some t->args[j]?=some v->Value.okWide Tryz.prog W .any base t v:=hval0;obtain⟨p,q,hA0,hG0,rfl,hfz,_⟩:=hW;have hA:DataW.TrodAll enc Tryz.prog W 0 (λ_=>true) true Tryz.f4.params.toList args.toList ds p:=hA0;rw[Tryz.params4] at hA hval;obtain⟨v0,v1,d0,d1,p0,p1,rfl,rfl,rfl,h0,h1⟩:=trodAll_two hA;obtain⟨bs,rfl,rfl,rfl,_⟩:=qh7 Tryz.underlying9 (hval 0 9 v0 rfl rfl) h0;obtain⟨b,rfl,rfl,rfl⟩:=open_bool Tryz.underlying4 (hval 1 4 v1 rfl rfl) h1;exact khu kjg hsh hL bs b (j82 λx hx=>by obtain⟨b,_,rfl⟩:=bH.1 hx;exact b.toNat_lt)
theorem kde:Rows.FilesReadSaid:=
 OpenClaim.holds_of_wide 4 Tryz.f4 rfl rfl rfl rfl rfl rfl rfl ⟨rfl,rfl,rfl,rfl,rfl⟩ rfl rfl rfl rfl rfl (by kernel_rfl) Tryz.func4 (by kernel_rfl)
  (of_decide_eq_true (by kernel_rfl)) (by unfold Func.isWrapper;first | (rw[aH (by decide +kernel)];kernel_rfl) | (rw[aC (by decide +kernel)];exact⟨rfl,rfl⟩))
  (λos started H enc _=>kdf os started H enc)
theorem filesRead_card:Rows.FilesReadCardSaid:=
 Claim7.holds_tied_plain_at .later [] [.data,.data,.data,.data,.sentinel,.sentinel,.data,.pinned] true (true, "b3bd05c67384c84474d8b746c2c0c7e015b146a8b61302400a5f99bcd9c704b5") true
  kde (λ_ h=>by cases h) (by kernel_rfl) (λ_ h=>by cases h) filesRead_row_tie rfl ⟨rfl,rfl⟩ (by kernel_rfl) rfl
  (λf fn hf hfn=>by
    obtain rfl:f=4:=lR ((show Tryz.prog.funcNamed Rows.filesReadRow.func=some 4 by kernel_rfl).symm.trans hf) |>.symm;obtain rfl:fn=Tryz.f4:=(lR (Tryz.func4.symm.trans hfn)).symm;exact⟨by kernel_rfl,λj t ht=>by
     rw[Tryz.params4] at ht;have hm:t∈[9,4]:=by simpa using qfo ht
     have hall:(([9,4]:List TypeId).all λu=> !Tryz.prog.wantsStandIn u)=true:=by kernel_rfl
     exact(show Tryz.prog.wantsStandIn t=false by simpa using cJ.1 hall t hm)⟩)
  (by kernel_rfl)
end Vm
#print axioms Vm.filesRead_card
end Go.Proofs.YtccefhabickfiaaGreatDoor
