/-
  The law EndsBack: for every input the call returns true, and its arguments read as they did.
-/
import Derived.Test.YtldgdgacdcenkaaDoorMS
import Derived.Test.YtldgdgacdcenkaaDoorEPb
set_option linter.unusedSimpArgs false
set_option linter.unusedVariables false
set_option linter.unusedSectionVars false
set_option linter.unnecessarySimpa false
namespace Go.Proofs.YtldgdgacdcenkaaDoor
open Go.ChangeShapes Go.WideShapes Go.ChangeAt Go.RowKit
namespace Vm
open Go Go.Vm Go.Vm.W Go.Vm.X
set_option maxRecDepth 100000
theorem endsBack_lifted (os:Os) (started:os.Started) (H:Type) (enc:TypeId×Value→H):
  ReturnsInHanded {} Tryd.checked os 4 .any (fun w args=>(Rows.endsBackSpec.pre enc Tryd.prog Tryd.f4 Rows.endsBackRow.domain false w args∧laidMetH Tryd.prog Rows.endsBackRow.laid w)∧sizedMet enc Tryd.prog Tryd.f4 (OpenSpec.ofChange Rows.endsBackSpec) false w args)
   (Rows.endsBackSpec.post enc Tryd.prog Tryd.f4 false true false false):=by
 refine rows_shaped (C:=Tryd.checked) (X:=fun w _=>laidMetH Tryd.prog Rows.endsBackRow.laid w) (fun _ _ _ hh h=>h.of_heap hh) own started (by kernel_rfl) Tryd.func4
  (ChangeSpec.witness_shaped (enc:=enc) (C:=Tryd.checked) (os:=os) (X:=fun w _=>laidMetH Tryd.prog Rows.endsBackRow.laid w) false (wit os) #[.agg #[.slice none 0 0,.slice none 0 0]] 8 (wit_os os)
    (World.shaped_of_RefB (by kernel_rfl) (by kernel_rfl)) (by kernel_rfl) (by kernel_rfl) (by kernel_rfl) (door_met os _)) ?_
 intro W base args ds gs before hsh hval0 hW hL
 refine law_post (C:=Tryd.checked) rfl (fun H ds h=>?_) rfl Tryd.underlying4 laidOut (by kernel_rfl) hW ?_
 ·rw[Tryd.params4] at h
  match ds,h with
  | [a],_=>rfl
 have hval:∀(j:Nat) t v,Tryd.f4.params[j]?=some t→args[j]?=some v→Value.okWide Tryd.prog W .any base t v:=hval0
 obtain⟨p,q,hA0,_,rfl,hfz,_⟩:=hW
 have hA:DataW.TrodAll enc Tryd.prog W 0 (fun _=>true) true Tryd.f4.params.toList args.toList ds p:=hA0
 rw[Tryd.params4] at hA hval
 obtain⟨v0,d0,rfl,rfl,h0⟩:=trodAll_one hA
 obtain⟨x0,x1,l0,l1,L0,L1,rfl,b0,b1,a0,a1⟩:=open_T (hval 0 24 v0 rfl rfl) h0 (noneFrozen_of hfz fun x hx=>by simp[hx])
 exact law_T o_law18_EndsBack (fun L0 L1 h0 h1=>law18_EndsBack_true h0 h1) hsh hL b0 b1 a0 a1
theorem endsBack_holds:Rows.EndsBackSaid:=
 OpenClaim.holds_of_wide 4 Tryd.f4 rfl rfl rfl rfl rfl rfl rfl ⟨rfl,rfl,rfl,rfl,rfl⟩ rfl rfl rfl rfl rfl (by kernel_rfl) Tryd.func4 (by kernel_rfl)
  (of_decide_eq_true (by kernel_rfl)) (by unfold Func.isWrapper;first | (rw[if_pos (by decide +kernel)];kernel_rfl) | (rw[if_neg (by decide +kernel)];exact⟨rfl,rfl⟩))
  (fun os started H enc _=>endsBack_lifted os started H enc)
theorem endsBack_card:Rows.EndsBackCardSaid:=
 Claim7.holds_tied_plain_at .later [] [.data,.data,.data,.data,.sentinel,.sentinel,.widerDeep,.funcs,.pinned] true (true, "17cd340965d08c429e5172bdd204475cdb7a1e458cf71ff2db68687bef0df2aa") true
  endsBack_holds (fun _ h=>by cases h) (by kernel_rfl) (fun _ h=>by cases h) endsBack_row_tie rfl ⟨rfl,rfl⟩ (by kernel_rfl) rfl
  (fun f fn hf hfn=>by
    obtain rfl:f=4:=Option.some.inj ((show Tryd.prog.funcNamed Rows.endsBackRow.func=some 4 by kernel_rfl).symm.trans hf) |>.symm
    obtain rfl:fn=Tryd.f4:=(Option.some.inj (Tryd.func4.symm.trans hfn)).symm
    exact⟨by kernel_rfl,fun j t ht=>by
     rw[Tryd.params4] at ht
     have hm:t∈[24]:=by simpa using Array.mem_of_getElem? ht
     have hall:(([24]:List TypeId).all fun u=> !Tryd.prog.wantsStandIn u)=true:=by kernel_rfl
     exact(show Tryd.prog.wantsStandIn t=false by simpa using List.all_eq_true.1 hall t hm)⟩)
  (by kernel_rfl)
end Vm
#print axioms Vm.endsBack_card
end Go.Proofs.YtldgdgacdcenkaaDoor
