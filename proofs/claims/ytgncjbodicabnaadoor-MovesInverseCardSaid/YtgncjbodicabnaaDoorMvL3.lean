/-
  The law MovesInverse: for every input the call returns true, and its arguments read as they did. Its conditions: those of the row (the listed variables read as the program's text lays them; the card ties them).
-/
import Derived.Test.YtgncjbodicabnaaDoorMvC
import Derived.Test.YtgncjbodicabnaaDoorMv5
set_option linter.unusedSimpArgs false
set_option linter.unusedVariables false

namespace Go.Proofs.YtgncjbodicabnaaDoor
open Go.ChangeShapes Go.WideShapes Go.ChangeAt Go.RowKit
namespace Vm
open Go Go.Vm Go.Vm.W
set_option maxRecDepth 100000
theorem movesInverse_lifted (os : Os) (started : os.Started) (H : Type) (enc : TypeId × Value → H) :
    ReturnsInHanded {} Tryd.checked os 3 .any (fun w args => (Rows.movesInverseSpec.pre enc Tryd.prog Tryd.f3 Rows.movesInverseRow.domain false w args ∧ laidMetH Tryd.prog Rows.movesInverseRow.laid w) ∧ sizedMet enc Tryd.prog Tryd.f3 (OpenSpec.ofChange Rows.movesInverseSpec) false w args)
      (Rows.movesInverseSpec.post enc Tryd.prog Tryd.f3 false true false false) := by
  refine returnsInHanded_of_change_and (C := Tryd.checked) (X := fun w _ => laidMetH Tryd.prog Rows.movesInverseRow.laid w) (fun _ _ _ hh h => h.of_heap hh) own started (by kernel_rfl) Tryd.func3
    (ChangeSpec.witness_shaped (enc := enc) (C := Tryd.checked) (os := os) (X := fun w _ => laidMetH Tryd.prog Rows.movesInverseRow.laid w) false (World.laidAll Tryd.prog os Rows.movesInverseRow.laid) #[.agg #[.int .u8 0, .int .i64 0, .int .i64 0]] 8 (World.laidAll_os _ _ _)
      (World.shaped_of_ZipB (by kernel_rfl) (by kernel_rfl)) (by kernel_rfl) (by kernel_rfl) (by kernel_rfl)
      (by rw [MakeChecks.laidMetH_plain _ _ _ (by kernel_rfl)]; exact laidMet_laidAll _ (by kernel_rfl) (by kernel_rfl))) ?_
  intro W base args ds gs before hval0 hW _ _ hL _
  refine law_post (C := Tryd.checked) rfl (fun H ds h => ?_) rfl Tryd.underlying4 laidOut (by kernel_rfl) hW ?_
  · rw [Tryd.params3] at h
    match ds, h with
    | [a], _ => rfl
  have hval : ∀ (j : Nat) t v, Tryd.f3.params[j]? = some t → args[j]? = some v → Value.okWide Tryd.prog W .any base t v := hval0
  obtain ⟨p, q, hA0, _, _, _, _⟩ := hW
  have hA : DataW.TrodAll enc Tryd.prog W 0 (fun _ => true) true Tryd.f3.params.toList args.toList ds p := hA0
  rw [Tryd.params3] at hA hval
  obtain ⟨v0, d0, rfl, rfl, h0⟩ := trodAll_one hA
  obtain ⟨t, x, y, rfl, wt, _, _⟩ := open_move (hval 0 23 v0 rfl rfl) h0
  rw [MakeChecks.laidMetH_plain _ _ _ (by kernel_rfl)] at hL
  exact law_call (s3 0 t x y wt) hL ⟨_, _, rfl, VR_move, rfl⟩

theorem movesInverse_holds : Rows.MovesInverseSaid :=
  OpenClaim.holds_of_wide 3 Tryd.f3 rfl rfl rfl rfl rfl rfl rfl ⟨rfl, rfl, rfl, rfl, rfl⟩ rfl rfl rfl rfl rfl (by kernel_rfl) Tryd.func3 (by kernel_rfl)
    (of_decide_eq_true (by kernel_rfl)) (by unfold Func.isWrapper; first | (rw [if_pos (by decide +kernel)]; kernel_rfl) | (rw [if_neg (by decide +kernel)]; exact ⟨rfl, rfl⟩))
    (fun os started H enc _ => movesInverse_lifted os started H enc)
theorem movesInverse_card : Rows.MovesInverseCardSaid :=
  Claim7.holds_tied_plain_at .later [] [.data, .data, .data, .data, .sentinel, .sentinel, .wider, .pinned] true (true, "d1f91fb20eea30bc98ee80f2d005562a2b5b83002ef047800b74e1164262d03c") true
    movesInverse_holds (fun _ h => by cases h) (by kernel_rfl) (fun _ h => by cases h) movesInverse_row_tie rfl ⟨rfl, rfl⟩ (by kernel_rfl) rfl
    (fun f fn hf hfn => by
      obtain rfl : f = 3 := Option.some.inj ((show Tryd.prog.funcNamed Rows.movesInverseRow.func = some 3 by kernel_rfl).symm.trans hf) |>.symm
      obtain rfl : fn = Tryd.f3 := (Option.some.inj (Tryd.func3.symm.trans hfn)).symm
      exact ⟨by kernel_rfl, fun j t ht => by
        rw [Tryd.params3] at ht
        have hm : t ∈ [23] := by simpa using Array.mem_of_getElem? ht
        have hall : ([23].all fun u => !Tryd.prog.wantsStandIn u) = true := by kernel_rfl
        exact (show Tryd.prog.wantsStandIn t = false by simpa using List.all_eq_true.1 hall t hm)⟩)
    (by kernel_rfl)
end Vm
#print axioms Vm.movesInverse_card
end Go.Proofs.YtgncjbodicabnaaDoor

