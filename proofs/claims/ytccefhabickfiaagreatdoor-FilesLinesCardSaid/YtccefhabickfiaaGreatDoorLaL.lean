/- The law FilesLines: for every input the call returns true, and its arguments read as they did. -/
import Derived.Test.YtccefhabickfiaaGreatDoorTdL
set_option linter.unusedSimpArgs false
set_option linter.unusedVariables false
namespace Go.Proofs.YtccefhabickfiaaGreatDoor
open Go.ChangeShapes Go.WideShapes Go.ChangeAt Go.RowKit
namespace Vm
open Go Go.Vm Go.Vm.W Go.Vm.X
set_option maxRecDepth 100000
theorem kdb (os:Os) (started:os.Started) (H:Type) (enc:TypeId×Value->H):
  ReturnsInHanded {} Tryz.checked os 5 .any (λw args=>(Rows.filesLinesSpec.pre enc Tryz.prog Tryz.f5 Rows.filesLinesRow.domain false w args/\laidMetH Tryz.prog Rows.filesLinesRow.laid w)/\sizedMet enc Tryz.prog Tryz.f5 (OpenSpec.ofChange Rows.filesLinesSpec) false w args)
   (Rows.filesLinesSpec.post enc Tryz.prog Tryz.f5 false true false false):=by
 refine jox (C:=Tryz.checked) (X:=λw _=>laidMetH Tryz.prog Rows.filesLinesRow.laid w) (λ_ _ _ hh h=>h.of_heap hh) own started (by kernel_rfl) Tryz.func5
  (ChangeSpec.witness_shaped (enc:=enc) (C:=Tryz.checked) (os:=os) (X:=λw _=>laidMetH Tryz.prog Rows.filesLinesRow.laid w) false (wit os) #[.agg #[.int .u8 0,.int .u8 0,.slice none 0 0],.agg #[.int .u8 0,.int .u8 0],.agg #[.int .u8 0,.int .u8 0,.int .i8 0,.int .u8 0,.int .u8 0]] 8 (jqp os)
    (World.shaped_of_RefB (by kernel_rfl) (by kernel_rfl)) (by kernel_rfl) (by kernel_rfl) (by kernel_rfl) (jlt os _)) ?_
 intro W base args ds gs before hsh hval0 hW hL hwt0;refine jm4 (C:=Tryz.checked) rfl (λH ds h=>?_) rfl Tryz.underlying4 jmy (by kernel_rfl) hW ?_
 ·rw[Tryz.params5] at h
  match ds,h with
  | [a,b,c],_=>rfl
 have hval:∀(j:Nat) t v,Tryz.f5.params[j]?=some t->args[j]?=some v->Value.okWide Tryz.prog W .any base t v:=hval0;obtain⟨p,q,hA0,hG0,rfl,hfz,_⟩:=hW;have hA:DataW.TrodAll enc Tryz.prog W 0 (λ_=>true) true Tryz.f5.params.toList args.toList ds p:=hA0;rw[Tryz.params5] at hA hval;obtain⟨v0,v1,v2,d0,d1,d2,p0,p1,p2,rfl,rfl,rfl,h0,h1,h2⟩:=trodAll_three hA;obtain⟨x,a,b,l0,L,M,rfl,wa,wb,hk,hrel,k0⟩:=juc (hval 0 43 v0 rfl rfl) h0 (jng hfz λx hx=>by simp[hx]);obtain⟨z0,z1,rfl,w0,w1⟩:=kkk (hval 1 44 v1 rfl rfl) h1;obtain⟨g0,g1,g2,g3,g4,rfl,u0,u1,u3,u4⟩:=kkm (hval 2 47 v2 rfl rfl) h2;exact khs kje hsh hL (j80 jde (a:=(a,(b,L))) wa.1 wb.1 hk (z:=[z0,z1]) (kdr w0 w1) (g:=(g0,(g1,(g2,(g3,g4))))) u0 u1 u3 u4) hrel k0
theorem kda:Rows.FilesLinesSaid:=
 OpenClaim.holds_of_wide 5 Tryz.f5 rfl rfl rfl rfl rfl rfl rfl ⟨rfl,rfl,rfl,rfl,rfl⟩ rfl rfl rfl rfl rfl (by kernel_rfl) Tryz.func5 (by kernel_rfl)
  (of_decide_eq_true (by kernel_rfl)) (by unfold Func.isWrapper;first | (rw[aH (by decide +kernel)];kernel_rfl) | (rw[aC (by decide +kernel)];exact⟨rfl,rfl⟩))
  (λos started H enc _=>kdb os started H enc)
theorem filesLines_card:Rows.FilesLinesCardSaid:=
 Claim7.holds_tied_plain_at .later [] [.data,.data,.data,.data,.sentinel,.sentinel,.data,.pinned] true (true, "b3bd05c67384c84474d8b746c2c0c7e015b146a8b61302400a5f99bcd9c704b5") true
  kda (λ_ h=>by cases h) (by kernel_rfl) (λ_ h=>by cases h) filesLines_row_tie rfl ⟨rfl,rfl⟩ (by kernel_rfl) rfl
  (λf fn hf hfn=>by
    obtain rfl:f=5:=lR ((show Tryz.prog.funcNamed Rows.filesLinesRow.func=some 5 by kernel_rfl).symm.trans hf) |>.symm;obtain rfl:fn=Tryz.f5:=(lR (Tryz.func5.symm.trans hfn)).symm;exact⟨by kernel_rfl,λj t ht=>by
     rw[Tryz.params5] at ht;have hm:t∈[43,44,47]:=by simpa using qfo ht
     have hall:(([43,44,47]:List TypeId).all λu=> !Tryz.prog.wantsStandIn u)=true:=by kernel_rfl
     exact(show Tryz.prog.wantsStandIn t=false by simpa using cJ.1 hall t hm)⟩)
  (by kernel_rfl)
end Vm
#print axioms Vm.filesLines_card
end Go.Proofs.YtccefhabickfiaaGreatDoor
