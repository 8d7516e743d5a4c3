/-
  The law MovesKnown: for every input the call returns true, and its arguments read as they did. Its conditions: those of the row (the listed variables read as the program's text lays them; the card ties them).
-/
import Derived.Test.YtgncjbodicabnaaDoorMkK
import Derived.Test.YtgncjbodicabnaaDoorMkJ
set_option linter.unusedSimpArgs false
set_option linter.unusedVariables false

namespace Go.Proofs.YtgncjbodicabnaaDoor
open Go.ChangeShapes Go.WideShapes Go.ChangeAt Go.RowKit
namespace Vm
open Go Go.Vm Go.Vm.W
set_option maxRecDepth 100000
theorem movesKnown_lifted (os : Os) (started : os.Started) (H : Type) (enc : TypeId × Value → H) :
    ReturnsInHanded {} Tryd.checked os 11 .any (fun w args => (Rows.movesKnownSpec.pre enc Tryd.prog Tryd.f11 Rows.movesKnownRow.domain false w args ∧ laidMetH Tryd.prog Rows.movesKnownRow.laid w) ∧ sizedMet enc Tryd.prog Tryd.f11 (OpenSpec.ofChange Rows.movesKnownSpec) false w args)
      (Rows.movesKnownSpec.post enc Tryd.prog Tryd.f11 false true false false) := by
  refine rows_shaped (C := Tryd.checked) (X := fun w _ => laidMetH Tryd.prog Rows.movesKnownRow.laid w) (fun _ _ _ hh h => h.of_heap hh) own started (by kernel_rfl) Tryd.func11
    (ChangeSpec.witness_shaped (enc := enc) (C := Tryd.checked) (os := os) (X := fun w _ => laidMetH Tryd.prog Rows.movesKnownRow.laid w) false (World.laidAll Tryd.prog os Rows.movesKnownRow.laid) #[] 8 (World.laidAll_os _ _ _)
      (World.shaped_of_ZipB (by kernel_rfl) (by kernel_rfl)) (by kernel_rfl) (by kernel_rfl) (by kernel_rfl)
      (by rw [MakeChecks.laidMetH_plain _ _ _ (by kernel_rfl)]; exact laidMet_laidAll _ (by kernel_rfl) (by kernel_rfl))) ?_
  intro W base args ds gs before hsh hval0 hW hL
  refine law_post (C := Tryd.checked) rfl (fun H ds h => ?_) rfl Tryd.underlying4 laidOut (by kernel_rfl) hW ?_
  · rw [Tryd.params11] at h
    match ds, h with
    | [], _ => rfl
  have hval : ∀ (j : Nat) t v, Tryd.f11.params[j]? = some t → args[j]? = some v → Value.okWide Tryd.prog W .any base t v := hval0
  obtain ⟨p, q, hA0, _, _, _, _⟩ := hW
  have hA : DataW.TrodAll enc Tryd.prog W 0 (fun _ => true) true Tryd.f11.params.toList args.toList ds p := hA0
  rw [Tryd.params11] at hA hval
  obtain ⟨rfl, rfl, rfl⟩ := trodAll_none hA
  rw [MakeChecks.laidMetH_plain _ _ _ (by kernel_rfl)] at hL
  exact law_call (fun mx => s11 0) hsh hL fun ρ => rfl

theorem movesKnown_holds : Rows.MovesKnownSaid :=
  OpenClaim.holds_of_wide 11 Tryd.f11 rfl rfl rfl rfl rfl rfl rfl ⟨rfl, rfl, rfl, rfl, rfl⟩ rfl rfl rfl rfl rfl (by kernel_rfl) Tryd.func11 (by kernel_rfl)
    (of_decide_eq_true (by kernel_rfl)) (by unfold Func.isWrapper; first | (rw [if_pos (by decide +kernel)]; kernel_rfl) | (rw [if_neg (by decide +kernel)]; exact ⟨rfl, rfl⟩))
    (fun os started H enc _ => movesKnown_lifted os started H enc)
theorem movesKnown_card : Rows.MovesKnownCardSaid :=
  Claim7.holds_tied_plain_at .later [] [.data, .data, .data, .data, .sentinel, .sentinel, .wider, .pinned] true (true, "d1f91fb20eea30bc98ee80f2d005562a2b5b83002ef047800b74e1164262d03c") true
    movesKnown_holds (fun _ h => by cases h) (by kernel_rfl) (fun _ h => by cases h) movesKnown_row_tie rfl ⟨rfl, rfl⟩ (by kernel_rfl) rfl
    (fun f fn hf hfn => by
      obtain rfl : f = 11 := Option.some.inj ((show Tryd.prog.funcNamed Rows.movesKnownRow.func = some 11 by kernel_rfl).symm.trans hf) |>.symm
      obtain rfl : fn = Tryd.f11 := (Option.some.inj (Tryd.func11.symm.trans hfn)).symm
      exact ⟨by kernel_rfl, fun j t ht => by
        rw [Tryd.params11] at ht
        have hm : t ∈ ([] : List Nat) := by simpa using Array.mem_of_getElem? ht
        have hall : (([] : List Nat).all fun u => !Tryd.prog.wantsStandIn u) = true := by kernel_rfl
        exact (show Tryd.prog.wantsStandIn t = false by simpa using List.all_eq_true.1 hall t hm)⟩)
    (by kernel_rfl)
end Vm
#print axioms Vm.movesKnown_card
end Go.Proofs.YtgncjbodicabnaaDoor

