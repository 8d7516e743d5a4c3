/-
  The law StripsKnown: the call returns true.
-/
import Derived.Test.YtppgnpodkmacoaaGreatDoorMS
import Derived.Test.YtppgnpodkmacoaaGreatDoorPLc
set_option linter.unusedSimpArgs false
set_option linter.unusedVariables false

namespace Go.Proofs.YtppgnpodkmacoaaGreatDoor
open Go.ChangeShapes Go.WideShapes Go.ChangeAt Go.RowKit
namespace Vm
open Go Go.Vm Go.Vm.W Go.Vm.X
set_option maxRecDepth 100000
theorem law_N {m : Nat} {f : FuncId} {run : Dens [] → Option (Dens [.d .bool])} (ho : ∀ mx, OKs (BB mx) (told mx) prog m [⟨f, [], [.d .bool], run⟩]) (hrun : run () = some true)
    {W : World} (hsh : W.ShapedOpen Tryz.prog) (hL : laidMet Tryz.prog Rows.stripsKnownRow.laid W) :
    Calls Tryz.prog f #[] W fun e W' => e = .returned (.bool true) ∧ Below W.heap.size W W' := by
  obtain ⟨mx, p1, p2, hR⟩ := start hsh hL []
  exact calls_of_TE (t := ⟨f, [], [.d .bool], run⟩) (told_ok mx) mixed prog_ok (n := m) (ho mx _ (List.mem_singleton.2 rfl) m (Nat.le_refl _)) rfl (a := ()) hrun (start_hk mx) (A := []) (fun x hx => by cases hx) (vs := []) ⟨rfl, rfl⟩ hR gl_ok (rho1_free (show 10 + 2 ≤ RO by decide)) (start_lt mx) (by simp [VRs])
theorem stripsKnown_lifted (os : Os) (started : os.Started) (H : Type) (enc : TypeId × Value → H) :
    ReturnsInHanded {} Tryz.checked os 3 .any (fun w args => (Rows.stripsKnownSpec.pre enc Tryz.prog Tryz.f3 Rows.stripsKnownRow.domain false w args ∧ laidMetH Tryz.prog Rows.stripsKnownRow.laid w) ∧ sizedMet enc Tryz.prog Tryz.f3 (OpenSpec.ofChange Rows.stripsKnownSpec) false w args)
      (Rows.stripsKnownSpec.post enc Tryz.prog Tryz.f3 false true false false) := by
  refine rows_shaped (C := Tryz.checked) (X := fun w _ => laidMetH Tryz.prog Rows.stripsKnownRow.laid w) (fun _ _ _ hh h => h.of_heap hh) own started (by kernel_rfl) Tryz.func3
    (ChangeSpec.witness_shaped (enc := enc) (C := Tryz.checked) (os := os) (X := fun w _ => laidMetH Tryz.prog Rows.stripsKnownRow.laid w) false (World.laidAll Tryz.prog os Rows.stripsKnownRow.laid) #[] 8 (World.laidAll_os _ _ _)
      (World.shaped_of_ZipB (by kernel_rfl) (by kernel_rfl)) (by kernel_rfl) (by kernel_rfl) (by kernel_rfl)
      (by rw [MakeChecks.laidMetH_plain _ _ _ (by kernel_rfl)]; exact laidMet_laidAll _ (by kernel_rfl) (by kernel_rfl))) ?_
  intro W base args ds gs before hsh hval0 hW hL
  refine law_post (C := Tryz.checked) rfl (fun H ds h => ?_) rfl Tryz.underlying4 laidOut (by kernel_rfl) hW ?_
  · rw [Tryz.params3] at h
    match ds, h with
    | [], _ => rfl
  obtain ⟨p, q, hA0, _, rfl, hfz, _⟩ := hW
  have hA : DataW.TrodAll enc Tryz.prog W 0 (fun _ => true) true Tryz.f3.params.toList args.toList ds p := hA0
  rw [Tryz.params3] at hA
  obtain ⟨ha, rfl, rfl⟩ := trodAll_nil hA
  obtain rfl : args = #[] := by cases args; simp_all
  rw [MakeChecks.laidMetH_plain _ _ _ (by kernel_rfl)] at hL
  exact law_N o_law16_StripsKnown law16_StripsKnown_true hsh hL
theorem stripsKnown_holds : Rows.StripsKnownSaid :=
  OpenClaim.holds_of_wide 3 Tryz.f3 rfl rfl rfl rfl rfl rfl rfl ⟨rfl, rfl, rfl, rfl, rfl⟩ rfl rfl rfl rfl rfl (by kernel_rfl) Tryz.func3 (by kernel_rfl)
    (of_decide_eq_true (by kernel_rfl)) (by unfold Func.isWrapper; first | (rw [if_pos (by decide +kernel)]; kernel_rfl) | (rw [if_neg (by decide +kernel)]; exact ⟨rfl, rfl⟩))
    (fun os started H enc _ => stripsKnown_lifted os started H enc)
theorem stripsKnown_card : Rows.StripsKnownCardSaid :=
  Claim7.holds_tied_plain_at .later [] [.data, .data, .data, .data, .sentinel, .sentinel, .data, .widerDeep, .pinned] true (true, "881ee0f64a3302bd1e230abf02e802b3a652ad9028dc6c467fdf790f710eb533") true
    stripsKnown_holds (fun _ h => by cases h) (by kernel_rfl) (fun _ h => by cases h) stripsKnown_row_tie rfl ⟨rfl, rfl⟩ (by kernel_rfl) rfl
    (fun f fn hf hfn => by
      obtain rfl : f = 3 := Option.some.inj ((show Tryz.prog.funcNamed Rows.stripsKnownRow.func = some 3 by kernel_rfl).symm.trans hf) |>.symm
      obtain rfl : fn = Tryz.f3 := (Option.some.inj (Tryz.func3.symm.trans hfn)).symm
      exact ⟨by kernel_rfl, fun j t ht => by
        rw [Tryz.params3] at ht
        simp at ht⟩)
    (by kernel_rfl)
end Vm
#print axioms Vm.stripsKnown_card
end Go.Proofs.YtppgnpodkmacoaaGreatDoor
