/-
  The law PilesProfile: for every input the call returns true, and its arguments read as they did.
-/
import Derived.Test.YtdngfcfomcffmaaGreatDoorMS
import Derived.Test.YtdngfcfomcffmaaGreatDoorPLb
set_option linter.unusedSimpArgs false
set_option linter.unusedVariables false

namespace Go.Proofs.YtdngfcfomcffmaaGreatDoor
open Go.ChangeShapes Go.WideShapes Go.ChangeAt Go.RowKit
namespace Vm
open Go Go.Vm Go.Vm.W Go.Vm.X
set_option maxRecDepth 100000
theorem law_Tii {m : Nat} {f : FuncId} {run : Dens [.d tT, .d (.int .i64), .d (.int .i64)] → Option (Dens [.d .bool])} (ho : ∀ mx, OKs (BB mx) (told mx) prog m [⟨f, [.d tT, .d (.int .i64), .d (.int .i64)], [.d .bool], run⟩]) (hrun : ∀ L0 L1 a c, X.bytes L0 → X.bytes L1 → run ((L0, L1), (a, c)) = some true)
    {W : World} (hsh : W.ShapedOpen Tryz.prog) (hL : laidMet Tryz.prog Rows.pilesProfileRow.laid W) {v0 v1 : Value} {l0 l1 : Vm.Loc} {L0 L1 : List Int} (b0 : X.bytes L0) (b1 : X.bytes L1) (a0 : ArgOK .u8 W v0 l0 L0) (a1 : ArgOK .u8 W v1 l1 L1) (a c : Int) :
    Calls Tryz.prog f #[.agg #[v0, v1], .int .i64 a, .int .i64 c] W fun e W' => e = .returned (.bool true) ∧ Below W.heap.size W W' := by
  obtain ⟨mx, p1, p2, hR⟩ := start hsh hL [l0, l1]
  have r0 : rho1 W 9 [p2, p1, l0, l1] 11 = some l0 := rfl
  have r1 : rho1 W 9 [p2, p1, l0, l1] 12 = some l1 := rfl
  obtain ⟨H1, O1, u0, A0, q1, q2, q3, q4, q5, q6, q7, q8⟩ := lay_slice a0 r0 hR (start_lt mx) (start_hk mx) (show nx0 ≤ 11 by decide) (by decide) (by simp)
  obtain ⟨H2, O2, u1, A1, j1, j2, j3, j4, j5, j6, j7, j8⟩ := lay_slice a1 r1 q1 q2 q3 (show nx0 ≤ 12 by decide) (by decide) (fun h => by
    rcases q4 _ h with h1 | h1
    · cases h1
    · simp at h1)
  refine calls_of_TE (t := ⟨f, [.d tT, .d (.int .i64), .d (.int .i64)], [.d .bool], run⟩) (told_ok mx) mixed prog_ok (n := m) (ho mx _ (List.mem_singleton.2 rfl) m (Nat.le_refl _)) rfl (a := ((L0, L1), (a, c))) (hrun L0 L1 a c b0 b1) j3 (A := A0 ++ A1) (fun x hx => ?_) (vs := [.agg [u0, u1], .int .i64 a, .int .i64 c]) ?_ j1 gl_ok (rho1_free (show 9 + 4 ≤ RO by decide)) j2 ?_
  · rcases List.mem_append.1 hx with hx | hx
    · exact .inl (j6 _ _ (q5 x hx))
    · exact .inl (j5 x hx)
  · refine ⟨_, _, [], [], rfl, rfl, ⟨[u0, u1], rfl, rfl, ⟨[u0], [u1], rfl, ⟨u0, rfl, ?_⟩, ⟨u1, rfl, ?_⟩⟩, rfl⟩, _, _, [], [], rfl, rfl, ⟨rfl, rfl, rfl⟩, _, rfl, rfl, rfl, rfl⟩
    · exact SlR_mono (fun x hx => List.mem_append.2 (.inl hx)) (fun _ _ => RelL_mono (RelC_mono (fun x hx => List.mem_append.2 (.inl hx)) (.int .u8))) q7
    · exact SlR_mono (fun x hx => List.mem_append.2 (.inr hx)) (fun _ _ => RelL_mono (RelC_mono (fun x hx => List.mem_append.2 (.inr hx)) (.int .u8))) j7
  · simp only [VRs, VR]
    exact ⟨_, _, rfl, ⟨_, rfl, _, _, rfl, q8, _, _, rfl, j8, rfl⟩, _, _, rfl, rfl, _, _, rfl, rfl, rfl⟩
theorem pilesProfile_lifted (os : Os) (started : os.Started) (H : Type) (enc : TypeId × Value → H) :
    ReturnsInHanded {} Tryz.checked os 4 .any (fun w args => (Rows.pilesProfileSpec.pre enc Tryz.prog Tryz.f4 Rows.pilesProfileRow.domain false w args ∧ laidMetH Tryz.prog Rows.pilesProfileRow.laid w) ∧ sizedMet enc Tryz.prog Tryz.f4 (OpenSpec.ofChange Rows.pilesProfileSpec) false w args)
      (Rows.pilesProfileSpec.post enc Tryz.prog Tryz.f4 false true false false) := by
  refine rows_shaped (C := Tryz.checked) (X := fun w _ => laidMetH Tryz.prog Rows.pilesProfileRow.laid w) (fun _ _ _ hh h => h.of_heap hh) own started (by kernel_rfl) Tryz.func4
    (ChangeSpec.witness_shaped (enc := enc) (C := Tryz.checked) (os := os) (X := fun w _ => laidMetH Tryz.prog Rows.pilesProfileRow.laid w) false (World.laidAll Tryz.prog os Rows.pilesProfileRow.laid) #[.agg #[.slice none 0 0, .slice none 0 0], .int .i64 0, .int .i64 0] 8 (World.laidAll_os _ _ _)
      (World.shaped_of_ZipB (by kernel_rfl) (by kernel_rfl)) (by kernel_rfl) (by kernel_rfl) (by kernel_rfl)
      (by rw [MakeChecks.laidMetH_plain _ _ _ (by kernel_rfl)]; exact laidMet_laidAll _ (by kernel_rfl) (by kernel_rfl))) ?_
  intro W base args ds gs before hsh hval0 hW hL
  refine law_post (C := Tryz.checked) rfl (fun H ds h => ?_) rfl Tryz.underlying4 laidOut (by kernel_rfl) hW ?_
  · rw [Tryz.params4] at h
    match ds, h with
    | [a, b, c], _ => rfl
  have hval : ∀ (j : Nat) t v, Tryz.f4.params[j]? = some t → args[j]? = some v → Value.okWide Tryz.prog W .any base t v := hval0
  obtain ⟨p, q, hA0, _, rfl, hfz, _⟩ := hW
  have hA : DataW.TrodAll enc Tryz.prog W 0 (fun _ => true) true Tryz.f4.params.toList args.toList ds p := hA0
  rw [Tryz.params4] at hA hval
  obtain ⟨v0, v1, v2, d0, d1, d2, p0, p1, p2, rfl, rfl, rfl, h0, h1, h2⟩ := trodAll_three hA
  obtain ⟨a, rfl, rfl, rfl, wa⟩ := open_int Tryz.underlying3 (hval 1 3 v1 rfl rfl) h1
  obtain ⟨c, rfl, rfl, rfl, wc⟩ := open_int Tryz.underlying3 (hval 2 3 v2 rfl rfl) h2
  obtain ⟨x0, x1, l0, l1, L0, L1, rfl, b0, b1, a0, a1⟩ := open_T (hval 0 24 v0 rfl rfl) h0 (noneFrozen_of hfz fun x hx => by simp [hx])
  rw [MakeChecks.laidMetH_plain _ _ _ (by kernel_rfl)] at hL
  exact law_Tii o_law17_PilesProfile (fun L0 L1 a c h0 h1 => law17_PilesProfile_true h0 h1) hsh hL b0 b1 a0 a1 a c
theorem pilesProfile_holds : Rows.PilesProfileSaid :=
  OpenClaim.holds_of_wide 4 Tryz.f4 rfl rfl rfl rfl rfl rfl rfl ⟨rfl, rfl, rfl, rfl, rfl⟩ rfl rfl rfl rfl rfl (by kernel_rfl) Tryz.func4 (by kernel_rfl)
    (of_decide_eq_true (by kernel_rfl)) (by unfold Func.isWrapper; first | (rw [if_pos (by decide +kernel)]; kernel_rfl) | (rw [if_neg (by decide +kernel)]; exact ⟨rfl, rfl⟩))
    (fun os started H enc _ => pilesProfile_lifted os started H enc)
theorem pilesProfile_card : Rows.PilesProfileCardSaid :=
  Claim7.holds_tied_plain_at .later [] [.data, .data, .data, .data, .sentinel, .sentinel, .widerDeep, .pinned] true (true, "b36a41db904ee317a95ac6bd111d360462c7b9af8e99c3fcb5e5b15ba8a85503") true
    pilesProfile_holds (fun _ h => by cases h) (by kernel_rfl) (fun _ h => by cases h) pilesProfile_row_tie rfl ⟨rfl, rfl⟩ (by kernel_rfl) rfl
    (fun f fn hf hfn => by
      obtain rfl : f = 4 := Option.some.inj ((show Tryz.prog.funcNamed Rows.pilesProfileRow.func = some 4 by kernel_rfl).symm.trans hf) |>.symm
      obtain rfl : fn = Tryz.f4 := (Option.some.inj (Tryz.func4.symm.trans hfn)).symm
      exact ⟨by kernel_rfl, fun j t ht => by
        rw [Tryz.params4] at ht
        have hm : t ∈ [24, 3, 3] := by simpa using Array.mem_of_getElem? ht
        have hall : ([24, 3, 3].all fun u => !Tryz.prog.wantsStandIn u) = true := by kernel_rfl
        exact (show Tryz.prog.wantsStandIn t = false by simpa using List.all_eq_true.1 hall t hm)⟩)
    (by kernel_rfl)
end Vm
#print axioms Vm.pilesProfile_card
end Go.Proofs.YtdngfcfomcffmaaGreatDoor
