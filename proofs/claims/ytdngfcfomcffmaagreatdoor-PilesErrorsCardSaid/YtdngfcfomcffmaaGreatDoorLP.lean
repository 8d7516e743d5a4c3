/-
  The law PilesErrors: for every input the call returns true, and its arguments read as they did.
-/
import Derived.Test.YtdngfcfomcffmaaGreatDoorMS
import Derived.Test.YtdngfcfomcffmaaGreatDoorPLc
set_option linter.unusedSimpArgs false
set_option linter.unusedVariables false

namespace Go.Proofs.YtdngfcfomcffmaaGreatDoor
open Go.ChangeShapes Go.WideShapes Go.ChangeAt Go.RowKit
namespace Vm
open Go Go.Vm Go.Vm.W Go.Vm.X
set_option maxRecDepth 100000
theorem cells29 : Tryz.prog.cellsOf 29 = 2 := by kernel_rfl
theorem cells3 : Tryz.prog.cellsOf 3 = 1 := by kernel_rfl
theorem cells52 : Tryz.prog.cellsOf 52 = 1 := by kernel_rfl
theorem open_S {H : Type} {enc : TypeId × Value → H} {W : World} {b0 : Nat} {v : Value} {d : DataW H} {p : List MemPlace} (hv : Value.okWide Tryz.prog W .any b0 29 v) (h : DataW.Trod enc Tryz.prog W 0 (fun _ => true) true 29 v d p) (hf : W.noneFrozen p) :
    ∃ (v0 v1 : Value) (l0 l1 : Vm.Loc) (L0 L1 : List Int), v = .agg #[v0, v1] ∧ ArgOK .i64 W v0 l0 L0 ∧ ArgOK .u8 W v1 l1 L1 := by
  obtain ⟨v0, v1, y0, y1, n, rfl, _, rfl, h0, h1⟩ := Joins.open_agg2 Tryz.underlying29 (by kernel_rfl) cells29 hv h
  have hok : ∀ (i : Nat) (x : Value) (u : TypeId), (#[v0, v1] : Array Value)[i]? = some x → [26, 27][i]? = some u → Cell.okWide Tryz.prog W .any b0 u x := by
    simp only [Value.okWide, Tryz.underlying29] at hv
    obtain ⟨cs, e, _, ts, hts, _, hc⟩ := hv
    cases e
    have e2 : Tryz.prog.cellTypes Tryz.prog.depth 29 = some [26, 27] := by kernel_rfl
    rw [e2] at hts
    cases hts
    intro i x u hx hu0
    obtain ⟨u', hu, hk⟩ := hc i x hx
    have hi : i < 2 := (List.getElem?_eq_some_iff.1 hu0).1
    rw [show i % [26, 27].length = i from Nat.mod_eq_of_lt hi, hu0] at hu
    cases hu
    exact hk
  obtain ⟨l0, L0, w0, a0⟩ := arg_ok Tryz.underlying26 Tryz.underlying3 cells3 h0 (hok 0 v0 26 rfl rfl) (noneFrozen_of hf fun x hx => List.mem_append.2 (.inl hx))
  obtain ⟨l1, L1, w1, a1⟩ := arg_ok Tryz.underlying27 Tryz.underlying52 cells52 h1 (hok 1 v1 27 rfl rfl) (noneFrozen_of hf fun x hx => List.mem_append.2 (.inr hx))
  exact ⟨v0, v1, l0, l1, L0, L1, rfl, a0, a1⟩
theorem open_L {H : Type} {enc : TypeId × Value → H} {W : World} {b0 : Nat} {v : Value} {d : DataW H} {p : List MemPlace} (hv : Value.okWide Tryz.prog W .any b0 26 v) (h : DataW.Trod enc Tryz.prog W 0 (fun _ => true) true 26 v d p) (hf : W.noneFrozen p) :
    ∃ (l : Vm.Loc) (L : List Int), ArgOK .i64 W v l L := by
  simp only [Value.okWide, Tryz.underlying26] at hv
  obtain ⟨fu, h⟩ := h
  have ec : v.cells.toList = [v] := by
    rcases hv' : v with _ | _ <;> first | rfl | (subst hv'; simp [Cell.okWide, Cell.ok, Tryz.underlying26] at hv)
  rw [ec] at h
  obtain ⟨l, L, w, a⟩ := arg_ok Tryz.underlying26 Tryz.underlying3 cells3 h hv hf
  exact ⟨l, L, a⟩
abbrev tS : Ty := .prod (.sl (.int .i64)) (.sl (.int .u8))
theorem law_SL {m : Nat} {f : FuncId} {run : Dens [.d tS, .d (.sl (.int .i64))] → Option (Dens [.d .bool])} (ho : ∀ mx, OKs (BB mx) (told mx) prog m [⟨f, [.d tS, .d (.sl (.int .i64))], [.d .bool], run⟩]) (hrun : ∀ L0 L1 L2, run ((L0, L1), L2) = some true)
    {W : World} (hsh : W.ShapedOpen Tryz.prog) (hL : laidMet Tryz.prog Rows.pilesProfileRow.laid W) {v0 v1 v2 : Value} {l0 l1 l2 : Vm.Loc} {L0 L1 L2 : List Int} (a0 : ArgOK .i64 W v0 l0 L0) (a1 : ArgOK .u8 W v1 l1 L1) (a2 : ArgOK .i64 W v2 l2 L2) :
    Calls Tryz.prog f #[.agg #[v0, v1], v2] W fun e W' => e = .returned (.bool true) ∧ Below W.heap.size W W' := by
  obtain ⟨mx, p1, p2, hR⟩ := start hsh hL [l0, l1, l2]
  have r0 : rho1 W 9 [p2, p1, l0, l1, l2] 11 = some l0 := rfl
  have r1 : rho1 W 9 [p2, p1, l0, l1, l2] 12 = some l1 := rfl
  have r2 : rho1 W 9 [p2, p1, l0, l1, l2] 13 = some l2 := rfl
  obtain ⟨H1, O1, u0, A0, q1, q2, q3, q4, q5, q6, q7, q8⟩ := lay_slice a0 r0 hR (start_lt mx) (start_hk mx) (show nx0 ≤ 11 by decide) (by decide) (by simp)
  have n1 : ∀ x ∈ O1.map Ent.b, x = 11 := fun x hx => by
    rcases q4 _ hx with h1 | h1
    · exact h1
    · simp at h1
  obtain ⟨H2, O2, u1, A1, j1, j2, j3, j4, j5, j6, j7, j8⟩ := lay_slice a1 r1 q1 q2 q3 (show nx0 ≤ 12 by decide) (by decide) (fun h => by cases n1 _ h)
  have n2 : ∀ x ∈ O2.map Ent.b, x = 12 ∨ x = 11 := fun x hx => by
    rcases j4 _ hx with h1 | h1
    · exact .inl h1
    · exact .inr (n1 _ h1)
  obtain ⟨H3, O3, u2, A2, k1, k2, k3, k4, k5, k6, k7, k8⟩ := lay_slice a2 r2 j1 j2 j3 (show nx0 ≤ 13 by decide) (by decide) (fun h => by rcases n2 _ h with h | h <;> cases h)
  have s0 : ∀ x ∈ A0, x ∈ A0 ++ (A1 ++ A2) := fun x hx => List.mem_append.2 (.inl hx)
  have s1 : ∀ x ∈ A1, x ∈ A0 ++ (A1 ++ A2) := fun x hx => List.mem_append.2 (.inr (List.mem_append.2 (.inl hx)))
  have s2 : ∀ x ∈ A2, x ∈ A0 ++ (A1 ++ A2) := fun x hx => List.mem_append.2 (.inr (List.mem_append.2 (.inr hx)))
  refine calls_of_TE (t := ⟨f, [.d tS, .d (.sl (.int .i64))], [.d .bool], run⟩) (told_ok mx) mixed prog_ok (n := m) (ho mx _ (List.mem_singleton.2 rfl) m (Nat.le_refl _)) rfl (a := ((L0, L1), L2)) (hrun L0 L1 L2) k3 (A := A0 ++ (A1 ++ A2)) (fun x hx => ?_) (vs := [.agg [u0, u1], u2]) ?_ k1 gl_ok (rho1_free (show 9 + 5 ≤ RO by decide)) k2 ?_
  · rcases List.mem_append.1 hx with hx | hx
    · exact .inl (k6 _ _ (j6 _ _ (q5 x hx)))
    · rcases List.mem_append.1 hx with hx | hx
      · exact .inl (k6 _ _ (j5 x hx))
      · exact .inl (k5 x hx)
  · refine ⟨_, _, [], [], rfl, rfl, ⟨[u0, u1], rfl, rfl, ⟨[u0], [u1], rfl, ⟨u0, rfl, ?_⟩, ⟨u1, rfl, ?_⟩⟩, rfl⟩, _, rfl, rfl, ⟨u2, rfl, ?_⟩, rfl⟩
    · exact SlR_mono s0 (fun _ _ => RelL_mono (RelC_mono s0 (.int .i64))) q7
    · exact SlR_mono s1 (fun _ _ => RelL_mono (RelC_mono s1 (.int .u8))) j7
    · exact SlR_mono s2 (fun _ _ => RelL_mono (RelC_mono s2 (.int .i64))) k7
  · simp only [VRs, VR]
    exact ⟨_, _, rfl, ⟨_, rfl, _, _, rfl, q8, _, _, rfl, j8, rfl⟩, _, _, rfl, k8, rfl⟩
theorem pilesErrors_lifted (os : Os) (started : os.Started) (H : Type) (enc : TypeId × Value → H) :
    ReturnsInHanded {} Tryz.checked os 7 .any (fun w args => (Rows.pilesErrorsSpec.pre enc Tryz.prog Tryz.f7 Rows.pilesErrorsRow.domain false w args ∧ laidMetH Tryz.prog Rows.pilesErrorsRow.laid w) ∧ sizedMet enc Tryz.prog Tryz.f7 (OpenSpec.ofChange Rows.pilesErrorsSpec) false w args)
      (Rows.pilesErrorsSpec.post enc Tryz.prog Tryz.f7 false true false false) := by
  refine rows_shaped (C := Tryz.checked) (X := fun w _ => laidMetH Tryz.prog Rows.pilesErrorsRow.laid w) (fun _ _ _ hh h => h.of_heap hh) own started (by kernel_rfl) Tryz.func7
    (ChangeSpec.witness_shaped (enc := enc) (C := Tryz.checked) (os := os) (X := fun w _ => laidMetH Tryz.prog Rows.pilesErrorsRow.laid w) false (World.laidAll Tryz.prog os Rows.pilesErrorsRow.laid) #[.agg #[.slice none 0 0, .slice none 0 0], .slice none 0 0] 8 (World.laidAll_os _ _ _)
      (World.shaped_of_ZipB (by kernel_rfl) (by kernel_rfl)) (by kernel_rfl) (by kernel_rfl) (by kernel_rfl)
      (by rw [MakeChecks.laidMetH_plain _ _ _ (by kernel_rfl)]; exact laidMet_laidAll _ (by kernel_rfl) (by kernel_rfl))) ?_
  intro W base args ds gs before hsh hval0 hW hL
  refine law_post (C := Tryz.checked) rfl (fun H ds h => ?_) rfl Tryz.underlying4 laidOut (by kernel_rfl) hW ?_
  · rw [Tryz.params7] at h
    match ds, h with
    | [a, b], _ => rfl
  have hval : ∀ (j : Nat) t v, Tryz.f7.params[j]? = some t → args[j]? = some v → Value.okWide Tryz.prog W .any base t v := hval0
  obtain ⟨p, q, hA0, _, rfl, hfz, _⟩ := hW
  have hA : DataW.TrodAll enc Tryz.prog W 0 (fun _ => true) true Tryz.f7.params.toList args.toList ds p := hA0
  rw [Tryz.params7] at hA hval
  obtain ⟨v0, v1, d0, d1, p0, p1, rfl, rfl, rfl, h0, h1⟩ := trodAll_two hA
  obtain ⟨x0, x1, l0, l1, L0, L1, rfl, a0, a1⟩ := open_S (hval 0 29 v0 rfl rfl) h0 (noneFrozen_of hfz fun x hx => by simp [hx])
  obtain ⟨l2, L2, a2⟩ := open_L (hval 1 26 v1 rfl rfl) h1 (noneFrozen_of hfz fun x hx => by simp [hx])
  rw [MakeChecks.laidMetH_plain _ _ _ (by kernel_rfl)] at hL
  exact law_SL o_law17_PilesErrors (fun L0 L1 L2 => law17_PilesErrors_true) hsh hL a0 a1 a2
theorem pilesErrors_holds : Rows.PilesErrorsSaid :=
  OpenClaim.holds_of_wide 7 Tryz.f7 rfl rfl rfl rfl rfl rfl rfl ⟨rfl, rfl, rfl, rfl, rfl⟩ rfl rfl rfl rfl rfl (by kernel_rfl) Tryz.func7 (by kernel_rfl)
    (of_decide_eq_true (by kernel_rfl)) (by unfold Func.isWrapper; first | (rw [if_pos (by decide +kernel)]; kernel_rfl) | (rw [if_neg (by decide +kernel)]; exact ⟨rfl, rfl⟩))
    (fun os started H enc _ => pilesErrors_lifted os started H enc)
theorem pilesErrors_card : Rows.PilesErrorsCardSaid :=
  Claim7.holds_tied_plain_at .later [] [.data, .data, .data, .data, .sentinel, .sentinel, .widerDeep, .pinned] true (true, "b36a41db904ee317a95ac6bd111d360462c7b9af8e99c3fcb5e5b15ba8a85503") true
    pilesErrors_holds (fun _ h => by cases h) (by kernel_rfl) (fun _ h => by cases h) pilesErrors_row_tie rfl ⟨rfl, rfl⟩ (by kernel_rfl) rfl
    (fun f fn hf hfn => by
      obtain rfl : f = 7 := Option.some.inj ((show Tryz.prog.funcNamed Rows.pilesErrorsRow.func = some 7 by kernel_rfl).symm.trans hf) |>.symm
      obtain rfl : fn = Tryz.f7 := (Option.some.inj (Tryz.func7.symm.trans hfn)).symm
      exact ⟨by kernel_rfl, fun j t ht => by
        rw [Tryz.params7] at ht
        have hm : t ∈ [29, 26] := by simpa using Array.mem_of_getElem? ht
        have hall : ([29, 26].all fun u => !Tryz.prog.wantsStandIn u) = true := by kernel_rfl
        exact (show Tryz.prog.wantsStandIn t = false by simpa using List.all_eq_true.1 hall t hm)⟩)
    (by kernel_rfl)
end Vm
#print axioms Vm.pilesErrors_card
end Go.Proofs.YtdngfcfomcffmaaGreatDoor
