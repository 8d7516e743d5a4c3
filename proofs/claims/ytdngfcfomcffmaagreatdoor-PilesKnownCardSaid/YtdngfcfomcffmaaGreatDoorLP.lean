/-
  The law PilesKnown: the call returns true.
-/
import Derived.Test.YtdngfcfomcffmaaGreatDoorMS
import Derived.Test.YtdngfcfomcffmaaGreatDoorPLc
set_option linter.unusedSimpArgs false
set_option linter.unusedVariables false
namespace Go.Proofs.YtdngfcfomcffmaaGreatDoor
open Go.ChangeShapes Go.WideShapes Go.ChangeAt Go.RowKit
namespace Vm
open Go Go.Vm Go.Vm.W Go.Vm.X
set_option maxRecDepth 100000
theorem law_N {m:Nat} {f:FuncId} {run:Dens []→Option (Dens [.d .bool])} (ho:∀mx,OKs (BB mx) (told mx) prog m [⟨f,[],[.d .bool],run⟩]) (hrun:run ()=some true)
  {W:World} (hsh:W.ShapedOpen Tryz.prog) (hL:laidMet Tryz.prog Rows.pilesProfileRow.laid W):
  Calls Tryz.prog f #[] W fun e W'=>e=.returned (.bool true)∧Below W.heap.size W W':=by
 obtain⟨mx,p1,p2,hR⟩:=start hsh hL []
 exact calls_of_TE (t:=⟨f,[],[.d .bool],run⟩) (told_ok mx) mixed prog_ok (n:=m) (ho mx _ (List.mem_singleton.2 rfl) m (Nat.le_refl _)) rfl (a:=()) hrun (start_hk mx) (A:=[]) (fun x hx=>by cases hx) (vs:=[]) ⟨rfl,rfl⟩ hR gl_ok (rho1_free (show 9+2≤RO by decide)) (start_lt mx) (by simp[VRs])
theorem pilesKnown_lifted (os:Os) (started:os.Started) (H:Type) (enc:TypeId×Value→H):
  ReturnsInHanded {} Tryz.checked os 8 .any (fun w args=>(Rows.pilesKnownSpec.pre enc Tryz.prog Tryz.f8 Rows.pilesKnownRow.domain false w args∧laidMetH Tryz.prog Rows.pilesKnownRow.laid w)∧sizedMet enc Tryz.prog Tryz.f8 (OpenSpec.ofChange Rows.pilesKnownSpec) false w args)
   (Rows.pilesKnownSpec.post enc Tryz.prog Tryz.f8 false true false false):=by
 refine rows_shaped (C:=Tryz.checked) (X:=fun w _=>laidMetH Tryz.prog Rows.pilesKnownRow.laid w) (fun _ _ _ hh h=>h.of_heap hh) own started (by kernel_rfl) Tryz.func8
  (ChangeSpec.witness_shaped (enc:=enc) (C:=Tryz.checked) (os:=os) (X:=fun w _=>laidMetH Tryz.prog Rows.pilesKnownRow.laid w) false (World.laidAll Tryz.prog os Rows.pilesKnownRow.laid) #[] 8 (World.laidAll_os _ _ _)
    (World.shaped_of_ZipB (by kernel_rfl) (by kernel_rfl)) (by kernel_rfl) (by kernel_rfl) (by kernel_rfl)
    (by rw[MakeChecks.laidMetH_plain _ _ _ (by kernel_rfl)];exact laidMet_laidAll _ (by kernel_rfl) (by kernel_rfl))) ?_
 intro W base args ds gs before hsh hval0 hW hL
 refine law_post (C:=Tryz.checked) rfl (fun H ds h=>?_) rfl Tryz.underlying4 laidOut (by kernel_rfl) hW ?_
 ·rw[Tryz.params8] at h
  match ds,h with
  | [],_=>rfl
 obtain⟨p,q,hA0,_,rfl,hfz,_⟩:=hW
 have hA:DataW.TrodAll enc Tryz.prog W 0 (fun _=>true) true Tryz.f8.params.toList args.toList ds p:=hA0
 rw[Tryz.params8] at hA
 obtain⟨ha,rfl,rfl⟩:=trodAll_nil hA
 obtain rfl:args=#[]:=by cases args;simp_all
 rw[MakeChecks.laidMetH_plain _ _ _ (by kernel_rfl)] at hL
 exact law_N o_law17_PilesKnown law17_PilesKnown_true hsh hL
theorem pilesKnown_holds:Rows.PilesKnownSaid:=
 OpenClaim.holds_of_wide 8 Tryz.f8 rfl rfl rfl rfl rfl rfl rfl ⟨rfl,rfl,rfl,rfl,rfl⟩ rfl rfl rfl rfl rfl (by kernel_rfl) Tryz.func8 (by kernel_rfl)
  (of_decide_eq_true (by kernel_rfl)) (by unfold Func.isWrapper;first | (rw[if_pos (by decide +kernel)];kernel_rfl) | (rw[if_neg (by decide +kernel)];exact⟨rfl,rfl⟩))
  (fun os started H enc _=>pilesKnown_lifted os started H enc)
theorem pilesKnown_card:Rows.PilesKnownCardSaid:=
 Claim7.holds_tied_plain_at .later [] [.data,.data,.data,.data,.sentinel,.sentinel,.widerDeep,.pinned] true (true, "b36a41db904ee317a95ac6bd111d360462c7b9af8e99c3fcb5e5b15ba8a85503") true
  pilesKnown_holds (fun _ h=>by cases h) (by kernel_rfl) (fun _ h=>by cases h) pilesKnown_row_tie rfl ⟨rfl,rfl⟩ (by kernel_rfl) rfl
  (fun f fn hf hfn=>by
    obtain rfl:f=8:=Option.some.inj ((show Tryz.prog.funcNamed Rows.pilesKnownRow.func=some 8 by kernel_rfl).symm.trans hf) |>.symm
    obtain rfl:fn=Tryz.f8:=(Option.some.inj (Tryz.func8.symm.trans hfn)).symm
    exact⟨by kernel_rfl,fun j t ht=>by
     rw[Tryz.params8] at ht
     simp at ht⟩)
  (by kernel_rfl)
end Vm
#print axioms Vm.pilesKnown_card
end Go.Proofs.YtdngfcfomcffmaaGreatDoor
