/- The law FilesMend: for every input the call returns true, and its arguments read as they did. -/
import Derived.Test.YtccefhabickfiaaGreatDoorTdM
set_option linter.unusedSimpArgs false
set_option linter.unusedVariables false
namespace Go.Proofs.YtccefhabickfiaaGreatDoor
open Go.ChangeShapes Go.WideShapes Go.ChangeAt Go.RowKit
namespace Vm
open Go Go.Vm Go.Vm.W Go.Vm.X
set_option maxRecDepth 100000
theorem jys (os:Os) (started:os.Started) (H:Type) (enc:TypeId×Value->H):
  ReturnsInHanded {} Tryz.checked os 8 .any (λw args=>(Rows.filesMendSpec.pre enc Tryz.prog Tryz.f8 Rows.filesMendRow.domain false w args/\laidMetH Tryz.prog Rows.filesMendRow.laid w)/\sizedMet enc Tryz.prog Tryz.f8 (OpenSpec.ofChange Rows.filesMendSpec) false w args)
   (Rows.filesMendSpec.post enc Tryz.prog Tryz.f8 false true false false):=by
 refine j64 (C:=Tryz.checked) (X:=λw _=>laidMetH Tryz.prog Rows.filesMendRow.laid w) (λ_ _ _ hh h=>h.of_heap hh) own started (by kernel_rfl) Tryz.func8
  (ChangeSpec.witness_shaped (enc:=enc) (C:=Tryz.checked) (os:=os) (X:=λw _=>laidMetH Tryz.prog Rows.filesMendRow.laid w) false (wit os) #[.agg #[.int .u8 0,.int .u8 0,.slice none 0 0],.int .u16 0,.string ByteArray.empty] 8 (kam os)
    (World.shaped_of_RefB (by kernel_rfl) (by kernel_rfl)) (by kernel_rfl) (by kernel_rfl) (by kernel_rfl) (jx2 os _)) ?_
 intro W base args ds gs before hsh hval0 hW hL hwt0;refine j0k (C:=Tryz.checked) rfl (λH ds h=>?_) rfl Tryz.underlying4 jz7 (by kernel_rfl) hW ?_
 ·rw[Tryz.params8] at h
  match ds,h with
  | [a,b,c],_=>rfl
 have hval:∀(j:Nat) t v,Tryz.f8.params[j]?=some t->args[j]?=some v->Value.okWide Tryz.prog W .any base t v:=hval0;obtain⟨p,q,hA0,hG0,rfl,hfz,_⟩:=hW;have hA:DataW.TrodAll enc Tryz.prog W 0 (λ_=>true) true Tryz.f8.params.toList args.toList ds p:=hA0;rw[Tryz.params8] at hA hval;obtain⟨v0,v1,v2,d0,d1,d2,p0,p1,p2,rfl,rfl,rfl,h0,h1,h2⟩:=trodAll_three hA;obtain⟨x,a,b,l0,L,M,rfl,wa,wb,hk,hrel,k0⟩:=j4p (hval 0 43 v0 rfl rfl) h0 (jmu hfz λx hx=>by simp[hx]);obtain⟨n,rfl,rfl,rfl,wn⟩:=open_int Tryz.underlying22 (hval 1 22 v1 rfl rfl) h1;obtain⟨bs,rfl,rfl,rfl,_⟩:=Go.ChangeMaps.open_string Tryz.underlying9 (hval 2 9 v2 rfl rfl) h2;exact j0j j3e hsh hL bs (juc (a:=(a,(b,L))) wa.1 wb.1 hk (jq8 wn).1 (jq8 wn).2 λx hx=>by obtain⟨b,_,rfl⟩:=bU.1 hx;exact b.toNat_lt) hrel k0
theorem jyr:Rows.FilesMendSaid:=
 OpenClaim.holds_of_wide 8 Tryz.f8 rfl rfl rfl rfl rfl rfl rfl ⟨rfl,rfl,rfl,rfl,rfl⟩ rfl rfl rfl rfl rfl (by kernel_rfl) Tryz.func8 (by kernel_rfl)
  (of_decide_eq_true (by kernel_rfl)) (by unfold Func.isWrapper;first | (rw[aK (by decide +kernel)];kernel_rfl) | (rw[aD (by decide +kernel)];exact⟨rfl,rfl⟩))
  (λos started H enc _=>jys os started H enc)
theorem filesMend_card:Rows.FilesMendCardSaid:=
 Claim7.holds_tied_plain_at .later [] [.data,.data,.data,.data,.sentinel,.sentinel,.data,.pinned] true (true, "b3bd05c67384c84474d8b746c2c0c7e015b146a8b61302400a5f99bcd9c704b5") true
  jyr (λ_ h=>by cases h) (by kernel_rfl) (λ_ h=>by cases h) filesMend_row_tie rfl ⟨rfl,rfl⟩ (by kernel_rfl) rfl
  (λf fn hf hfn=>by
    obtain rfl:f=8:=kF ((show Tryz.prog.funcNamed Rows.filesMendRow.func=some 8 by kernel_rfl).symm.trans hf) |>.symm;obtain rfl:fn=Tryz.f8:=(kF (Tryz.func8.symm.trans hfn)).symm;exact⟨by kernel_rfl,λj t ht=>by
     rw[Tryz.params8] at ht;have hm:t∈[43,22,9]:=by simpa using Array.mem_of_getElem? ht
     have hall:(([43,22,9]:List TypeId).all λu=> !Tryz.prog.wantsStandIn u)=true:=by kernel_rfl
     exact(show Tryz.prog.wantsStandIn t=false by simpa using bS.1 hall t hm)⟩)
  (by kernel_rfl)
end Vm
#print axioms Vm.filesMend_card
end Go.Proofs.YtccefhabickfiaaGreatDoor
