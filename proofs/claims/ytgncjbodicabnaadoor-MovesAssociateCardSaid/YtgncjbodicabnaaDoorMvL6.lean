/-
  The law MovesAssociate: for every input the call returns true, and its arguments read as they did. Its conditions: those of the row (the listed variables read as the program's text lays them; the card ties them).
-/
import Derived.Test.YtgncjbodicabnaaDoorMvC
import Derived.Test.YtgncjbodicabnaaDoorMvD
import Derived.Test.YtgncjbodicabnaaDoorMv8
set_option linter.unusedSimpArgs false
set_option linter.unusedVariables false

namespace Go.Proofs.YtgncjbodicabnaaDoor
open Go.ChangeShapes Go.WideShapes Go.ChangeAt Go.RowKit
namespace Vm
open Go Go.Vm Go.Vm.W
set_option maxRecDepth 100000
theorem movesAssociate_lifted (os : Os) (started : os.Started) (H : Type) (enc : TypeId × Value → H) :
    ReturnsInHanded {} Tryd.checked os 6 .any (fun w args => (Rows.movesAssociateSpec.pre enc Tryd.prog Tryd.f6 Rows.movesAssociateRow.domain false w args ∧ laidMetH Tryd.prog Rows.movesAssociateRow.laid w) ∧ sizedMet enc Tryd.prog Tryd.f6 (OpenSpec.ofChange Rows.movesAssociateSpec) false w args)
      (Rows.movesAssociateSpec.post enc Tryd.prog Tryd.f6 false true false false) := by
  refine returnsInHanded_of_change_and (C := Tryd.checked) (X := fun w _ => laidMetH Tryd.prog Rows.movesAssociateRow.laid w) (fun _ _ _ hh h => h.of_heap hh) own started (by kernel_rfl) Tryd.func6
    (ChangeSpec.witness_shaped (enc := enc) (C := Tryd.checked) (os := os) (X := fun w _ => laidMetH Tryd.prog Rows.movesAssociateRow.laid w) false (World.laidAll Tryd.prog os Rows.movesAssociateRow.laid) #[.agg #[.int .u8 0, .int .i8 0, .int .i8 0, .int .u8 0, .int .i8 0, .int .i8 0, .int .u8 0, .int .i8 0, .int .i8 0], .agg #[.int .i8 0, .int .i8 0]] 8 (World.laidAll_os _ _ _)
      (World.shaped_of_ZipB (by kernel_rfl) (by kernel_rfl)) (by kernel_rfl) (by kernel_rfl) (by kernel_rfl)
      (by rw [MakeChecks.laidMetH_plain _ _ _ (by kernel_rfl)]; exact laidMet_laidAll _ (by kernel_rfl) (by kernel_rfl))) ?_
  intro W base args ds gs before hval0 hW _ _ hL _
  refine law_post (C := Tryd.checked) rfl (fun H ds h => ?_) rfl Tryd.underlying4 laidOut (by kernel_rfl) hW ?_
  · rw [Tryd.params6] at h
    match ds, h with
    | [a, b], _ => rfl
  have hval : ∀ (j : Nat) t v, Tryd.f6.params[j]? = some t → args[j]? = some v → Value.okWide Tryd.prog W .any base t v := hval0
  obtain ⟨p, q, hA0, _, _, _, _⟩ := hW
  have hA : DataW.TrodAll enc Tryd.prog W 0 (fun _ => true) true Tryd.f6.params.toList args.toList ds p := hA0
  rw [Tryd.params6] at hA hval
  obtain ⟨v0, v1, d0, d1, p0, p1, rfl, rfl, rfl, h0, h1⟩ := trodAll_two hA
  obtain ⟨t1, x1, y1, t2, x2, y2, t3, x3, y3, rfl, w0, w1, w2, w3, w4, w5, w6, w7, w8⟩ := open_raws (hval 0 54 v0 rfl rfl) h0
  obtain ⟨a, b, rfl, wa, wb⟩ := open_i8s (hval 1 55 v1 rfl rfl) h1
  rw [MakeChecks.laidMetH_plain _ _ _ (by kernel_rfl)] at hL
  exact law_call (s6 0 t1 x1 y1 t2 x2 y2 t3 x3 y3 a b w0 w1 w2 w3 w4 w5 w6 w7 w8 wa wb) hL ⟨_, _, rfl, VR_raws, _, _, rfl, VR_two, rfl⟩

theorem movesAssociate_holds : Rows.MovesAssociateSaid :=
  OpenClaim.holds_of_wide 6 Tryd.f6 rfl rfl rfl rfl rfl rfl rfl ⟨rfl, rfl, rfl, rfl, rfl⟩ rfl rfl rfl rfl rfl (by kernel_rfl) Tryd.func6 (by kernel_rfl)
    (of_decide_eq_true (by kernel_rfl)) (by unfold Func.isWrapper; first | (rw [if_pos (by decide +kernel)]; kernel_rfl) | (rw [if_neg (by decide +kernel)]; exact ⟨rfl, rfl⟩))
    (fun os started H enc _ => movesAssociate_lifted os started H enc)
theorem movesAssociate_card : Rows.MovesAssociateCardSaid :=
  Claim7.holds_tied_plain_at .later [] [.data, .data, .data, .data, .sentinel, .sentinel, .wider, .pinned] true (true, "d1f91fb20eea30bc98ee80f2d005562a2b5b83002ef047800b74e1164262d03c") true
    movesAssociate_holds (fun _ h => by cases h) (by kernel_rfl) (fun _ h => by cases h) movesAssociate_row_tie rfl ⟨rfl, rfl⟩ (by kernel_rfl) rfl
    (fun f fn hf hfn => by
      obtain rfl : f = 6 := Option.some.inj ((show Tryd.prog.funcNamed Rows.movesAssociateRow.func = some 6 by kernel_rfl).symm.trans hf) |>.symm
      obtain rfl : fn = Tryd.f6 := (Option.some.inj (Tryd.func6.symm.trans hfn)).symm
      exact ⟨by kernel_rfl, fun j t ht => by
        rw [Tryd.params6] at ht
        have hm : t ∈ [54, 55] := by simpa using Array.mem_of_getElem? ht
        have hall : ([54, 55].all fun u => !Tryd.prog.wantsStandIn u) = true := by kernel_rfl
        exact (show Tryd.prog.wantsStandIn t = false by simpa using List.all_eq_true.1 hall t hm)⟩)
    (by kernel_rfl)
end Vm
#print axioms Vm.movesAssociate_card
end Go.Proofs.YtgncjbodicabnaaDoor

