/-
  The law EndsAny: for every input the call returns true, and its arguments read as they did.
-/
import Derived.Test.YtldgdgacdcenkaaDoorMS
import Derived.Test.YtldgdgacdcenkaaDoorEFb
set_option linter.unusedSimpArgs false
set_option linter.unusedVariables false
namespace Go.Proofs.YtldgdgacdcenkaaDoor
open Go.ChangeShapes Go.WideShapes Go.ChangeAt Go.RowKit
namespace Vm
open Go Go.Vm Go.Vm.W Go.Vm.X
set_option maxRecDepth 100000
theorem endsAny_lifted (os:Os) (started:os.Started) (H:Type) (enc:TypeId×Value→H):
  ReturnsInHanded {} Tryd.checked os 3 .any (fun w args=>(Rows.endsAnySpec.pre enc Tryd.prog Tryd.f3 Rows.endsAnyRow.domain false w args∧laidMetH Tryd.prog Rows.endsAnyRow.laid w)∧sizedMet enc Tryd.prog Tryd.f3 (OpenSpec.ofChange Rows.endsAnySpec) false w args)
   (Rows.endsAnySpec.post enc Tryd.prog Tryd.f3 false true false false):=by
 refine rows_shaped (C:=Tryd.checked) (X:=fun w _=>laidMetH Tryd.prog Rows.endsAnyRow.laid w) (fun _ _ _ hh h=>h.of_heap hh) own started (by kernel_rfl) Tryd.func3
  (ChangeSpec.witness_shaped (enc:=enc) (C:=Tryd.checked) (os:=os) (X:=fun w _=>laidMetH Tryd.prog Rows.endsAnyRow.laid w) false (wit os) #[.agg #[.slice none 0 0,.slice none 0 0],.slice none 0 0] 8 (wit_os os)
    (World.shaped_of_RefB (by kernel_rfl) (by kernel_rfl)) (by kernel_rfl) (by kernel_rfl) (by kernel_rfl) (door_met os _)) ?_
 intro W base args ds gs before hsh hval0 hW hL
 refine law_post (C:=Tryd.checked) rfl (fun H ds h=>?_) rfl Tryd.underlying4 laidOut (by kernel_rfl) hW ?_
 ·rw[Tryd.params3] at h
  match ds,h with
  | [a,b],_=>rfl
 have hval:∀(j:Nat) t v,Tryd.f3.params[j]?=some t→args[j]?=some v→Value.okWide Tryd.prog W .any base t v:=hval0
 obtain⟨p,q,hA0,_,rfl,hfz,_⟩:=hW
 have hA:DataW.TrodAll enc Tryd.prog W 0 (fun _=>true) true Tryd.f3.params.toList args.toList ds p:=hA0
 rw[Tryd.params3] at hA hval
 obtain⟨v0,v1,d0,d1,p0,p1,rfl,rfl,rfl,h0,h1⟩:=trodAll_two hA
 obtain⟨x0,x1,l0,l1,L0,L1,rfl,b0,b1,a0,a1⟩:=open_T (hval 0 24 v0 rfl rfl) h0 (noneFrozen_of hfz fun x hx=>by simp[hx])
 obtain⟨l2,L2,w2,a2⟩:=open_O (hval 1 22 v1 rfl rfl) h1 (noneFrozen_of hfz fun x hx=>by simp[hx])
 exact law_TO o_law18_EndsAny (fun L0 L1 L2 h0 h1 h2=>law18_EndsAny_true h0 h1 h2) hsh hL b0 b1 w2 a0 a1 a2
theorem endsAny_holds:Rows.EndsAnySaid:=
 OpenClaim.holds_of_wide 3 Tryd.f3 rfl rfl rfl rfl rfl rfl rfl ⟨rfl,rfl,rfl,rfl,rfl⟩ rfl rfl rfl rfl rfl (by kernel_rfl) Tryd.func3 (by kernel_rfl)
  (of_decide_eq_true (by kernel_rfl)) (by unfold Func.isWrapper;first | (rw[if_pos (by decide +kernel)];kernel_rfl) | (rw[if_neg (by decide +kernel)];exact⟨rfl,rfl⟩))
  (fun os started H enc _=>endsAny_lifted os started H enc)
theorem endsAny_card:Rows.EndsAnyCardSaid:=
 Claim7.holds_tied_plain_at .later [] [.data,.data,.data,.data,.sentinel,.sentinel,.widerDeep,.funcs,.pinned] true (true, "17cd340965d08c429e5172bdd204475cdb7a1e458cf71ff2db68687bef0df2aa") true
  endsAny_holds (fun _ h=>by cases h) (by kernel_rfl) (fun _ h=>by cases h) endsAny_row_tie rfl ⟨rfl,rfl⟩ (by kernel_rfl) rfl
  (fun f fn hf hfn=>by
    obtain rfl:f=3:=Option.some.inj ((show Tryd.prog.funcNamed Rows.endsAnyRow.func=some 3 by kernel_rfl).symm.trans hf) |>.symm
    obtain rfl:fn=Tryd.f3:=(Option.some.inj (Tryd.func3.symm.trans hfn)).symm
    exact⟨by kernel_rfl,fun j t ht=>by
     rw[Tryd.params3] at ht
     have hm:t∈[24,22]:=by simpa using Array.mem_of_getElem? ht
     have hall:(([24,22]:List TypeId).all fun u=> !Tryd.prog.wantsStandIn u)=true:=by kernel_rfl
     exact(show Tryd.prog.wantsStandIn t=false by simpa using List.all_eq_true.1 hall t hm)⟩)
  (by kernel_rfl)
end Vm
#print axioms Vm.endsAny_card
end Go.Proofs.YtldgdgacdcenkaaDoor
