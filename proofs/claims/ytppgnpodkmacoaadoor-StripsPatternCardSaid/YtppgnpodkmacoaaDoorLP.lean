/-
  The law StripsPattern: for every input the call returns true, and its arguments read as they did.
-/
import Derived.Test.YtppgnpodkmacoaaDoorMS
import Derived.Test.YtppgnpodkmacoaaDoorPL
set_option linter.unusedSimpArgs false
set_option linter.unusedVariables false

namespace Go.Proofs.YtppgnpodkmacoaaDoor
open Go.ChangeShapes Go.WideShapes Go.ChangeAt Go.RowKit
namespace Vm
open Go Go.Vm Go.Vm.W Go.Vm.X
set_option maxRecDepth 100000
theorem cells24 : Tryd.prog.cellsOf 24 = 2 := by kernel_rfl
theorem cells5 : Tryd.prog.cellsOf 5 = 1 := by kernel_rfl
theorem open_T {H : Type} {enc : TypeId × Value → H} {W : World} {b0 : Nat} {v : Value} {d : DataW H} {p : List MemPlace} (hv : Value.okWide Tryd.prog W .any b0 24 v) (h : DataW.Trod enc Tryd.prog W 0 (fun _ => true) true 24 v d p) (hf : W.noneFrozen p) :
    ∃ (v0 v1 : Value) (l0 l1 : Vm.Loc) (L0 L1 : List Int), v = .agg #[v0, v1] ∧ X.bytes L0 ∧ X.bytes L1 ∧ ArgOK .u8 W v0 l0 L0 ∧ ArgOK .u8 W v1 l1 L1 := by
  obtain ⟨v0, v1, y0, y1, n, rfl, _, rfl, h0, h1⟩ := Joins.open_agg2 Tryd.underlying24 (by kernel_rfl) cells24 hv h
  have hok : ∀ (i : Nat) (x : Value), (#[v0, v1] : Array Value)[i]? = some x → Cell.okWide Tryd.prog W .any b0 22 x := by
    simp only [Value.okWide, Tryd.underlying24] at hv
    obtain ⟨cs, e, _, ts, hts, _, hc⟩ := hv
    cases e
    have e2 : Tryd.prog.cellTypes Tryd.prog.depth 24 = some [22, 22] := by kernel_rfl
    rw [e2] at hts
    cases hts
    intro i x hx
    obtain ⟨u, hu, hk⟩ := hc i x hx
    have : u = 22 := by
      have : i % 2 < 2 := Nat.mod_lt _ (by decide)
      match hm : i % 2, this with
      | 0, _ => simp [hm] at hu; exact hu.symm
      | 1, _ => simp [hm] at hu; exact hu.symm
    rw [this] at hk
    exact hk
  obtain ⟨l0, L0, w0, a0⟩ := arg_ok Tryd.underlying22 Tryd.underlying5 cells5 h0 (hok 0 v0 rfl) (noneFrozen_of hf fun x hx => List.mem_append.2 (.inl hx))
  obtain ⟨l1, L1, w1, a1⟩ := arg_ok Tryd.underlying22 Tryd.underlying5 cells5 h1 (hok 1 v1 rfl) (noneFrozen_of hf fun x hx => List.mem_append.2 (.inr hx))
  exact ⟨v0, v1, l0, l1, L0, L1, rfl, fun z hz => u8_bd (w0 z hz), fun z hz => u8_bd (w1 z hz), a0, a1⟩
abbrev tT : Ty := .prod (.sl (.int .u8)) (.sl (.int .u8))
theorem law_T {m : Nat} {f : FuncId} {run : Dens [.d tT] → Option (Dens [.d .bool])} (ho : ∀ mx, OKs (BB mx) (told mx) prog m [⟨f, [.d tT], [.d .bool], run⟩]) (hrun : ∀ L0 L1, X.bytes L0 → X.bytes L1 → run (L0, L1) = some true)
    {W : World} (hsh : W.ShapedOpen Tryd.prog) (hL : laidMet Tryd.prog Rows.stripsPatternRow.laid W) {v0 v1 : Value} {l0 l1 : Vm.Loc} {L0 L1 : List Int} (b0 : X.bytes L0) (b1 : X.bytes L1) (a0 : ArgOK .u8 W v0 l0 L0) (a1 : ArgOK .u8 W v1 l1 L1) :
    Calls Tryd.prog f #[.agg #[v0, v1]] W fun e W' => e = .returned (.bool true) ∧ Below W.heap.size W W' := by
  obtain ⟨mx, p1, p2, hR⟩ := start hsh hL [l0, l1]
  have r0 : rho1 W 10 [p2, p1, l0, l1] 12 = some l0 := rfl
  have r1 : rho1 W 10 [p2, p1, l0, l1] 13 = some l1 := rfl
  obtain ⟨H1, O1, u0, A0, q1, q2, q3, q4, q5, q6, q7, q8⟩ := lay_slice a0 r0 hR (start_lt mx) (start_hk mx) (show nx0 ≤ 12 by decide) (by decide) (by simp)
  obtain ⟨H2, O2, u1, A1, j1, j2, j3, j4, j5, j6, j7, j8⟩ := lay_slice a1 r1 q1 q2 q3 (show nx0 ≤ 13 by decide) (by decide) (fun h => by
    rcases q4 _ h with h1 | h1
    · cases h1
    · simp at h1)
  refine calls_of_TE (t := ⟨f, [.d tT], [.d .bool], run⟩) (told_ok mx) mixed prog_ok (n := m) (ho mx _ (List.mem_singleton.2 rfl) m (Nat.le_refl _)) rfl (a := (L0, L1)) (hrun L0 L1 b0 b1) j3 (A := A0 ++ A1) (fun x hx => ?_) (vs := [.agg [u0, u1]]) ?_ j1 gl_ok (rho1_free (show 10 + 4 ≤ RO by decide)) j2 ?_
  · rcases List.mem_append.1 hx with hx | hx
    · exact .inl (j6 _ _ (q5 x hx))
    · exact .inl (j5 x hx)
  · refine ⟨_, rfl, [u0, u1], rfl, rfl, ⟨[u0], [u1], rfl, ⟨u0, rfl, ?_⟩, ⟨u1, rfl, ?_⟩⟩, rfl⟩
    · exact SlR_mono (fun x hx => List.mem_append.2 (.inl hx)) (fun _ _ => RelL_mono (RelC_mono (fun x hx => List.mem_append.2 (.inl hx)) (.int .u8))) q7
    · exact SlR_mono (fun x hx => List.mem_append.2 (.inr hx)) (fun _ _ => RelL_mono (RelC_mono (fun x hx => List.mem_append.2 (.inr hx)) (.int .u8))) j7
  · simp only [VRs, VR]
    exact ⟨_, _, rfl, ⟨_, rfl, _, _, rfl, q8, _, _, rfl, j8, rfl⟩, rfl⟩
theorem stripsPattern_lifted (os : Os) (started : os.Started) (H : Type) (enc : TypeId × Value → H) :
    ReturnsInHanded {} Tryd.checked os 6 .any (fun w args => (Rows.stripsPatternSpec.pre enc Tryd.prog Tryd.f6 Rows.stripsPatternRow.domain false w args ∧ laidMetH Tryd.prog Rows.stripsPatternRow.laid w) ∧ sizedMet enc Tryd.prog Tryd.f6 (OpenSpec.ofChange Rows.stripsPatternSpec) false w args)
      (Rows.stripsPatternSpec.post enc Tryd.prog Tryd.f6 false true false false) := by
  refine rows_shaped (C := Tryd.checked) (X := fun w _ => laidMetH Tryd.prog Rows.stripsPatternRow.laid w) (fun _ _ _ hh h => h.of_heap hh) own started (by kernel_rfl) Tryd.func6
    (ChangeSpec.witness_shaped (enc := enc) (C := Tryd.checked) (os := os) (X := fun w _ => laidMetH Tryd.prog Rows.stripsPatternRow.laid w) false (World.laidAll Tryd.prog os Rows.stripsPatternRow.laid) #[.agg #[.slice none 0 0, .slice none 0 0]] 8 (World.laidAll_os _ _ _)
      (World.shaped_of_ZipB (by kernel_rfl) (by kernel_rfl)) (by kernel_rfl) (by kernel_rfl) (by kernel_rfl)
      (by rw [MakeChecks.laidMetH_plain _ _ _ (by kernel_rfl)]; exact laidMet_laidAll _ (by kernel_rfl) (by kernel_rfl))) ?_
  intro W base args ds gs before hsh hval0 hW hL
  refine law_post (C := Tryd.checked) rfl (fun H ds h => ?_) rfl Tryd.underlying4 laidOut (by kernel_rfl) hW ?_
  · rw [Tryd.params6] at h
    match ds, h with
    | [a], _ => rfl
  have hval : ∀ (j : Nat) t v, Tryd.f6.params[j]? = some t → args[j]? = some v → Value.okWide Tryd.prog W .any base t v := hval0
  obtain ⟨p, q, hA0, _, rfl, hfz, _⟩ := hW
  have hA : DataW.TrodAll enc Tryd.prog W 0 (fun _ => true) true Tryd.f6.params.toList args.toList ds p := hA0
  rw [Tryd.params6] at hA hval
  obtain ⟨v0, d0, rfl, rfl, h0⟩ := trodAll_one hA
  obtain ⟨x0, x1, l0, l1, L0, L1, rfl, b0, b1, a0, a1⟩ := open_T (hval 0 24 v0 rfl rfl) h0 (noneFrozen_of hfz fun x hx => List.mem_append.2 (.inl hx))
  rw [MakeChecks.laidMetH_plain _ _ _ (by kernel_rfl)] at hL
  exact law_T o_law16_StripsPattern (fun L0 L1 h0 h1 => law16_StripsPattern_true h0 h1) hsh hL b0 b1 a0 a1
theorem stripsPattern_holds : Rows.StripsPatternSaid :=
  OpenClaim.holds_of_wide 6 Tryd.f6 rfl rfl rfl rfl rfl rfl rfl ⟨rfl, rfl, rfl, rfl, rfl⟩ rfl rfl rfl rfl rfl (by kernel_rfl) Tryd.func6 (by kernel_rfl)
    (of_decide_eq_true (by kernel_rfl)) (by unfold Func.isWrapper; first | (rw [if_pos (by decide +kernel)]; kernel_rfl) | (rw [if_neg (by decide +kernel)]; exact ⟨rfl, rfl⟩))
    (fun os started H enc _ => stripsPattern_lifted os started H enc)
theorem stripsPattern_card : Rows.StripsPatternCardSaid :=
  Claim7.holds_tied_plain_at .later [] [.data, .data, .data, .data, .sentinel, .sentinel, .data, .widerDeep, .pinned] true (true, "310d1e3516bfc910be341d60bc40de94e18cc43d3c2ef40bc8e8639d8be29f2c") true
    stripsPattern_holds (fun _ h => by cases h) (by kernel_rfl) (fun _ h => by cases h) stripsPattern_row_tie rfl ⟨rfl, rfl⟩ (by kernel_rfl) rfl
    (fun f fn hf hfn => by
      obtain rfl : f = 6 := Option.some.inj ((show Tryd.prog.funcNamed Rows.stripsPatternRow.func = some 6 by kernel_rfl).symm.trans hf) |>.symm
      obtain rfl : fn = Tryd.f6 := (Option.some.inj (Tryd.func6.symm.trans hfn)).symm
      exact ⟨by kernel_rfl, fun j t ht => by
        rw [Tryd.params6] at ht
        have hm : t ∈ [24] := by simpa using Array.mem_of_getElem? ht
        have hall : ([24].all fun u => !Tryd.prog.wantsStandIn u) = true := by kernel_rfl
        exact (show Tryd.prog.wantsStandIn t = false by simpa using List.all_eq_true.1 hall t hm)⟩)
    (by kernel_rfl)
end Vm
#print axioms Vm.stripsPattern_card
end Go.Proofs.YtppgnpodkmacoaaDoor
