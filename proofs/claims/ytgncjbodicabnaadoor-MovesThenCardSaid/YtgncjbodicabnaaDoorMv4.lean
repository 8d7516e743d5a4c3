/-
  The law MovesThen: for every two moves the call returns true, and its arguments read as they did. Its conditions: those of the row (the listed variables read as the program's text lays them; the card ties them).
-/
import Derived.Test.YtgncjbodicabnaaDoorMv3
import Derived.Test.YtgncjbodicabnaaDoorVmV
import Derived.Test.YtgncjbodicabnaaDoorTie
import Derived.Test.YtgncjbodicabnaaDoorCards
import Derived.Lib.SmallJoins
set_option linter.unusedSimpArgs false
set_option linter.unusedVariables false

namespace Go.Proofs.YtgncjbodicabnaaDoor
open Go.ChangeShapes Go.WideShapes Go.ChangeAt Go.RowKit
namespace Vm
open Go Go.Vm Go.Vm.W
set_option maxRecDepth 100000

theorem own : ownKnob Tryd.prog.godebug = none := by kernel_rfl
theorem laidOut : laidOutB Tryd.prog = true := by kernel_rfl
theorem cells23 : Tryd.prog.cellsOf 23 = 3 := by kernel_rfl

theorem u8_bd {z : Int} (h : (Lit.int .u8 z).wf = true) : 0 ≤ z ∧ z ≤ 255 := by
  simp [Lit.wf, IntKind.min, IntKind.max, IntKind.signed, IntKind.bits] at h
  omega
theorem i64_bd {z : Int} (h : (Lit.int .i64 z).wf = true) : -9223372036854775808 ≤ z ∧ z ≤ 9223372036854775807 := by
  simp [Lit.wf, IntKind.min, IntKind.max, IntKind.signed, IntKind.bits] at h
  omega

theorem open_move {H : Type} {enc : TypeId × Value → H} {W : World} {base b0 : Nat} {sp : Nat → Bool} {v : Value} {d : DataW H} {p : List MemPlace} (hv : Value.okWide Tryd.prog W .any b0 23 v) (h : DataW.Trod enc Tryd.prog W base sp true 23 v d p) :
    ∃ t x y : Int, v = .agg #[.int .u8 t, .int .i64 x, .int .i64 y] ∧ (0 ≤ t ∧ t ≤ 255) ∧ (-9223372036854775808 ≤ x ∧ x ≤ 9223372036854775807) ∧ (-9223372036854775808 ≤ y ∧ y ≤ 9223372036854775807) := by
  obtain ⟨c0, c1, c2, y0, y1, y2, m, rfl, _, _, h0, h1, h2⟩ := Joins.open_agg3 Tryd.underlying23 (by kernel_rfl) cells23 hv h
  obtain ⟨a, e0, _, w0⟩ := DataW.trod_int Tryd.underlying5 h0
  obtain ⟨b, e1, _, w1⟩ := DataW.trod_int Tryd.underlying3 h1
  obtain ⟨c, e2, _, w2⟩ := DataW.trod_int Tryd.underlying3 h2
  simp only [List.cons.injEq, and_true] at e0 e1 e2
  subst e0; subst e1; subst e2
  exact ⟨a, b, c, rfl, u8_bd w0, i64_bd w1, i64_bd w2⟩

theorem laidS_in : ∀ x ∈ laidS, x ∈ Rows.movesInverseRow.laid := by
  intro x hx
  unfold laidS at hx
  obtain ⟨y, hy, rfl⟩ := List.mem_map.1 hx
  exact List.fst_mem_of_mem_zipIdx (List.mem_filter.1 hy).1

/-- From the machine to the model: a law's call. -/
theorem law_call {n : Nat} {f : FuncId} {az : List AV} (hs : SV n f az (.bool true)) {W : World} (hL : laidMet Tryd.prog Rows.movesInverseRow.laid W) {args : Array Value} (ha : VRs (rho0 W 9) az args.toList) :
    Calls Tryd.prog f args W fun e W' => e = .returned (.bool true) ∧ Below W.heap.size W W' := by
  have hr : HR (rho0 W 9) BB.H0 W := by
    have := HR_laid hL laidS_in es_ok 9
    rw [H0_eq] at this
    exact this
  refine calls_of_spec memo_ok mixed prog_ok BB_wf hs hr (fun g hg => ?_) (rho0_free (Nat.le_refl 9)) ha
  obtain ⟨l, h1, h2, h3⟩ := rho0_at (w := W) (gl_lt g hg)
  exact ⟨l, h1, h2, h3⟩

theorem VR_int {ρ : RM} {k : IntKind} {z : Int} : VR ρ (.int k z) (.int k z) := by simp [VR]
theorem VR_move {ρ : RM} {t x y : Int} : VR ρ (mvA t x y) (.agg #[.int .u8 t, .int .i64 x, .int .i64 y]) := by
  simp only [VR]
  exact ⟨_, rfl, _, _, rfl, VR_int, _, _, rfl, VR_int, _, _, rfl, VR_int, rfl⟩

theorem movesThen_lifted (os : Os) (started : os.Started) (H : Type) (enc : TypeId × Value → H) :
    ReturnsInHanded {} Tryd.checked os 10 .any (fun w args => (Rows.movesThenSpec.pre enc Tryd.prog Tryd.f10 Rows.movesThenRow.domain false w args ∧ laidMetH Tryd.prog Rows.movesThenRow.laid w) ∧ sizedMet enc Tryd.prog Tryd.f10 (OpenSpec.ofChange Rows.movesThenSpec) false w args)
      (Rows.movesThenSpec.post enc Tryd.prog Tryd.f10 false true false false) := by
  refine returnsInHanded_of_change_and (C := Tryd.checked) (X := fun w _ => laidMetH Tryd.prog Rows.movesThenRow.laid w) (fun _ _ _ hh h => h.of_heap hh) own started (by kernel_rfl) Tryd.func10
    (ChangeSpec.witness_shaped (enc := enc) (C := Tryd.checked) (os := os) (X := fun w _ => laidMetH Tryd.prog Rows.movesThenRow.laid w) false (World.laidAll Tryd.prog os Rows.movesThenRow.laid) #[.agg #[.int .u8 0, .int .i64 0, .int .i64 0], .agg #[.int .u8 0, .int .i64 0, .int .i64 0]] 8 (World.laidAll_os _ _ _)
      (World.shaped_of_ZipB (by kernel_rfl) (by kernel_rfl)) (by kernel_rfl) (by kernel_rfl) (by kernel_rfl)
      (by rw [MakeChecks.laidMetH_plain _ _ _ (by kernel_rfl)]; exact laidMet_laidAll _ (by kernel_rfl) (by kernel_rfl))) ?_
  intro W base args ds gs before hval0 hW _ _ hL _
  refine law_post (C := Tryd.checked) rfl (fun H ds h => ?_) rfl Tryd.underlying4 laidOut (by kernel_rfl) hW ?_
  · rw [Tryd.params10] at h
    match ds, h with
    | [a, b], _ => rfl
  have hval : ∀ (j : Nat) t v, Tryd.f10.params[j]? = some t → args[j]? = some v → Value.okWide Tryd.prog W .any base t v := hval0
  obtain ⟨p, q, hA0, _, _, _, _⟩ := hW
  have hA : DataW.TrodAll enc Tryd.prog W 0 (fun _ => true) true Tryd.f10.params.toList args.toList ds p := hA0
  rw [Tryd.params10] at hA hval
  obtain ⟨v0, v1, d0, d1, p0, p1, rfl, rfl, rfl, h0, h1⟩ := trodAll_two hA
  obtain ⟨t, x, y, rfl, wt, _, _⟩ := open_move (hval 0 23 v0 rfl rfl) h0
  obtain ⟨s, a, b, rfl, ws, _, _⟩ := open_move (hval 1 23 v1 rfl rfl) h1
  rw [MakeChecks.laidMetH_plain _ _ _ (by kernel_rfl)] at hL
  exact law_call (s10 0 t x y s a b wt ws) hL ⟨_, _, rfl, VR_move, _, _, rfl, VR_move, rfl⟩

theorem movesThen_holds : Rows.MovesThenSaid :=
  OpenClaim.holds_of_wide 10 Tryd.f10 rfl rfl rfl rfl rfl rfl rfl ⟨rfl, rfl, rfl, rfl, rfl⟩ rfl rfl rfl rfl rfl (by kernel_rfl) Tryd.func10 (by kernel_rfl)
    (of_decide_eq_true (by kernel_rfl)) (by unfold Func.isWrapper; first | (rw [if_pos (by decide +kernel)]; kernel_rfl) | (rw [if_neg (by decide +kernel)]; exact ⟨rfl, rfl⟩))
    (fun os started H enc _ => movesThen_lifted os started H enc)
theorem movesThen_card : Rows.MovesThenCardSaid :=
  Claim7.holds_tied_plain_at .later [] [.data, .data, .data, .data, .sentinel, .sentinel, .wider, .pinned] true (true, "d1f91fb20eea30bc98ee80f2d005562a2b5b83002ef047800b74e1164262d03c") true
    movesThen_holds (fun _ h => by cases h) (by kernel_rfl) (fun _ h => by cases h) movesThen_row_tie rfl ⟨rfl, rfl⟩ (by kernel_rfl) rfl
    (fun f fn hf hfn => by
      obtain rfl : f = 10 := Option.some.inj ((show Tryd.prog.funcNamed Rows.movesThenRow.func = some 10 by kernel_rfl).symm.trans hf) |>.symm
      obtain rfl : fn = Tryd.f10 := (Option.some.inj (Tryd.func10.symm.trans hfn)).symm
      exact ⟨by kernel_rfl, fun j t ht => by
        rw [Tryd.params10] at ht
        have hm : t ∈ [23, 23] := by simpa using Array.mem_of_getElem? ht
        have hall : ([23, 23].all fun u => !Tryd.prog.wantsStandIn u) = true := by kernel_rfl
        exact (show Tryd.prog.wantsStandIn t = false by simpa using List.all_eq_true.1 hall t hm)⟩)
    (by kernel_rfl)
end Vm
#print axioms Vm.movesThen_card
end Go.Proofs.YtgncjbodicabnaaDoor

