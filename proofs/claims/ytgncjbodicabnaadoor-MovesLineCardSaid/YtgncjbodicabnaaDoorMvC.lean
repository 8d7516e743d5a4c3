/-
  What the rows of the nine laws have in common.
-/
import Derived.Test.YtgncjbodicabnaaDoorMv3
import Derived.Test.YtgncjbodicabnaaDoorVmV
import Derived.Test.YtgncjbodicabnaaDoorTie
import Derived.Test.YtgncjbodicabnaaDoorCards
import Derived.Lib.SmallJoins
set_option linter.unusedSimpArgs false
set_option linter.unusedVariables false

namespace Go.Proofs.YtgncjbodicabnaaDoor
open Go.ChangeShapes Go.WideShapes Go.ChangeAt Go.RowKit
namespace Vm
open Go Go.Vm Go.Vm.W
set_option maxRecDepth 100000

theorem own : ownKnob Tryd.prog.godebug = none := by kernel_rfl
theorem laidOut : laidOutB Tryd.prog = true := by kernel_rfl
theorem cells23 : Tryd.prog.cellsOf 23 = 3 := by kernel_rfl

theorem u8_bd {z : Int} (h : (Lit.int .u8 z).wf = true) : 0 ≤ z ∧ z ≤ 255 := by
  simp [Lit.wf, IntKind.min, IntKind.max, IntKind.signed, IntKind.bits] at h
  omega
theorem i64_bd {z : Int} (h : (Lit.int .i64 z).wf = true) : -9223372036854775808 ≤ z ∧ z ≤ 9223372036854775807 := by
  simp [Lit.wf, IntKind.min, IntKind.max, IntKind.signed, IntKind.bits] at h
  omega

theorem open_move {H : Type} {enc : TypeId × Value → H} {W : World} {base b0 : Nat} {sp : Nat → Bool} {v : Value} {d : DataW H} {p : List MemPlace} (hv : Value.okWide Tryd.prog W .any b0 23 v) (h : DataW.Trod enc Tryd.prog W base sp true 23 v d p) :
    ∃ t x y : Int, v = .agg #[.int .u8 t, .int .i64 x, .int .i64 y] ∧ (0 ≤ t ∧ t ≤ 255) ∧ (-9223372036854775808 ≤ x ∧ x ≤ 9223372036854775807) ∧ (-9223372036854775808 ≤ y ∧ y ≤ 9223372036854775807) := by
  obtain ⟨c0, c1, c2, y0, y1, y2, m, rfl, _, _, h0, h1, h2⟩ := Joins.open_agg3 Tryd.underlying23 (by kernel_rfl) cells23 hv h
  obtain ⟨a, e0, _, w0⟩ := DataW.trod_int Tryd.underlying5 h0
  obtain ⟨b, e1, _, w1⟩ := DataW.trod_int Tryd.underlying3 h1
  obtain ⟨c, e2, _, w2⟩ := DataW.trod_int Tryd.underlying3 h2
  simp only [List.cons.injEq, and_true] at e0 e1 e2
  subst e0; subst e1; subst e2
  exact ⟨a, b, c, rfl, u8_bd w0, i64_bd w1, i64_bd w2⟩

theorem laidS_in : ∀ x ∈ laidS, x ∈ Rows.movesInverseRow.laid := by
  intro x hx
  unfold laidS at hx
  obtain ⟨y, hy, rfl⟩ := List.mem_map.1 hx
  exact List.fst_mem_of_mem_zipIdx (List.mem_filter.1 hy).1

/-- From the machine to the model: a law's call. -/
theorem law_call {n : Nat} {f : FuncId} {az : List AV} (hs : SV n f az (.bool true)) {W : World} (hL : laidMet Tryd.prog Rows.movesInverseRow.laid W) {args : Array Value} (ha : VRs (rho0 W 9) az args.toList) :
    Calls Tryd.prog f args W fun e W' => e = .returned (.bool true) ∧ Below W.heap.size W W' := by
  have hr : HR (rho0 W 9) BB.H0 W := by
    have := HR_laid hL laidS_in es_ok 9
    rw [H0_eq] at this
    exact this
  refine calls_of_spec memo_ok mixed prog_ok BB_wf hs hr (fun g hg => ?_) (rho0_free (Nat.le_refl 9)) ha
  obtain ⟨l, h1, h2, h3⟩ := rho0_at (w := W) (gl_lt g hg)
  exact ⟨l, h1, h2, h3⟩

theorem VR_int {ρ : RM} {k : IntKind} {z : Int} : VR ρ (.int k z) (.int k z) := by simp [VR]
theorem VR_move {ρ : RM} {t x y : Int} : VR ρ (mvA t x y) (.agg #[.int .u8 t, .int .i64 x, .int .i64 y]) := by
  simp only [VR]
  exact ⟨_, rfl, _, _, rfl, VR_int, _, _, rfl, VR_int, _, _, rfl, VR_int, rfl⟩

theorem cells34 : Tryd.prog.cellsOf 34 = 2 := by kernel_rfl
theorem cells42 : Tryd.prog.cellsOf 42 = 2 := by kernel_rfl
theorem i8_bd {z : Int} (h : (Lit.int .i8 z).wf = true) : -128 ≤ z ∧ z ≤ 127 := by
  simp [Lit.wf, IntKind.min, IntKind.max, IntKind.signed, IntKind.bits] at h
  omega
theorem open_point {H : Type} {enc : TypeId × Value → H} {W : World} {base b0 : Nat} {sp : Nat → Bool} {v : Value} {d : DataW H} {p : List MemPlace} (hv : Value.okWide Tryd.prog W .any b0 34 v) (h : DataW.Trod enc Tryd.prog W base sp true 34 v d p) :
    ∃ x y : Int, v = .agg #[.int .i64 x, .int .i64 y] ∧ (-9223372036854775808 ≤ x ∧ x ≤ 9223372036854775807) ∧ (-9223372036854775808 ≤ y ∧ y ≤ 9223372036854775807) := by
  obtain ⟨c0, c1, y0, y1, m, rfl, _, _, h0, h1⟩ := Joins.open_agg2 Tryd.underlying34 (by kernel_rfl) cells34 hv h
  obtain ⟨a, e0, _, w0⟩ := DataW.trod_int Tryd.underlying3 h0
  obtain ⟨b, e1, _, w1⟩ := DataW.trod_int Tryd.underlying3 h1
  simp only [List.cons.injEq, and_true] at e0 e1
  subst e0; subst e1
  exact ⟨a, b, rfl, i64_bd w0, i64_bd w1⟩
theorem open_line {H : Type} {enc : TypeId × Value → H} {W : World} {base b0 : Nat} {sp : Nat → Bool} {v : Value} {d : DataW H} {p : List MemPlace} (hv : Value.okWide Tryd.prog W .any b0 42 v) (h : DataW.Trod enc Tryd.prog W base sp true 42 v d p) :
    ∃ x y : Int, v = .agg #[.int .u8 x, .int .i64 y] ∧ (0 ≤ x ∧ x ≤ 255) ∧ (-9223372036854775808 ≤ y ∧ y ≤ 9223372036854775807) := by
  obtain ⟨c0, c1, y0, y1, m, rfl, _, _, h0, h1⟩ := Joins.open_agg2 Tryd.underlying42 (by kernel_rfl) cells42 hv h
  obtain ⟨a, e0, _, w0⟩ := DataW.trod_int Tryd.underlying40 h0
  obtain ⟨b, e1, _, w1⟩ := DataW.trod_int Tryd.underlying3 h1
  simp only [List.cons.injEq, and_true] at e0 e1
  subst e0; subst e1
  exact ⟨a, b, rfl, u8_bd w0, i64_bd w1⟩
theorem VR_two {ρ : RM} {k k' : IntKind} {x y : Int} : VR ρ (.agg [.int k x, .int k' y]) (.agg #[.int k x, .int k' y]) := by
  simp only [VR]
  exact ⟨_, rfl, _, _, rfl, VR_int, _, _, rfl, VR_int, rfl⟩
end Vm
end Go.Proofs.YtgncjbodicabnaaDoor

