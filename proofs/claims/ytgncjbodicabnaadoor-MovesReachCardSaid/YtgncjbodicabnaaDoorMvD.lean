/-
  Parts of a proof.
-/
import Derived.Test.YtgncjbodicabnaaDoorMvC
import Derived.OpenShut
set_option linter.unusedSimpArgs false
set_option linter.unusedVariables false

namespace Go.Proofs.YtgncjbodicabnaaDoor
open Go.ChangeShapes Go.WideShapes Go.ChangeAt Go.RowKit
namespace Vm
open Go Go.Vm Go.Vm.W
set_option maxRecDepth 100000

theorem cells51 : Tryd.prog.cellsOf 51 = 1 := by kernel_rfl
theorem cells5 : Tryd.prog.cellsOf 5 = 1 := by kernel_rfl
theorem cells53 : Tryd.prog.cellsOf 53 = 3 := by kernel_rfl
theorem cells54 : Tryd.prog.cellsOf 54 = 9 := by kernel_rfl
theorem cells55 : Tryd.prog.cellsOf 55 = 2 := by kernel_rfl
theorem okWide_array {P : Program} {w : World} {r : Reach} {base n : Nat} {t e : TypeId} {v : Value} (ht : P.underlying t = some (.array n e)) (h : Value.okWide P w r base t v) : ∃ cs, v = .agg cs ∧ cs.size = P.cellsOf t := by
  simp only [Value.okWide, ht] at h
  obtain ⟨cs, h1, h2, _⟩ := h
  exact ⟨cs, h1, h2⟩

theorem raw_of {H : Type} {enc : TypeId × Value → H} {W : World} {base : Nat} {sp : Nat → Bool} {m : Nat} {a b c : Value} {x : DataW H × List MemPlace} (h : DataW.trod enc Tryd.prog W base sp true m 53 [a, b, c] = some x) :
    ∃ t p q : Int, a = .int .u8 t ∧ b = .int .i8 p ∧ c = .int .i8 q ∧ (0 ≤ t ∧ t ≤ 255) ∧ (-128 ≤ p ∧ p ≤ 127) ∧ (-128 ≤ q ∧ q ≤ 127) := by
  obtain ⟨y0, y1, y2, n, _, _, h0, h1, h2⟩ := Deep.trod_struct3 Tryd.underlying53 h
  obtain ⟨t, e0, _, w0⟩ := DataW.trod_int Tryd.underlying5 h0
  obtain ⟨p, e1, _, w1⟩ := DataW.trod_int Tryd.underlying51 h1
  obtain ⟨q, e2, _, w2⟩ := DataW.trod_int Tryd.underlying51 h2
  exact ⟨t, p, q, by simpa [cells5] using e0, by simpa [cells51] using e1, by simpa [cells51] using e2, u8_bd w0, i8_bd w1, i8_bd w2⟩
theorem open_raw {H : Type} {enc : TypeId × Value → H} {W : World} {base b0 : Nat} {sp : Nat → Bool} {v : Value} {d : DataW H} {p : List MemPlace} (hv : Value.okWide Tryd.prog W .any b0 53 v) (h : DataW.Trod enc Tryd.prog W base sp true 53 v d p) :
    ∃ t x y : Int, v = .agg #[.int .u8 t, .int .i8 x, .int .i8 y] ∧ (0 ≤ t ∧ t ≤ 255) ∧ (-128 ≤ x ∧ x ≤ 127) ∧ (-128 ≤ y ∧ y ≤ 127) := by
  obtain ⟨cs, rfl, hs⟩ := okWide_struct Tryd.underlying53 hv
  obtain ⟨fuel, h⟩ := h
  obtain ⟨c0, c1, c2, rfl⟩ := Joins.array3 (hs.trans cells53)
  obtain ⟨t, x, y, rfl, rfl, rfl, w0, w1, w2⟩ := raw_of h
  exact ⟨t, x, y, rfl, w0, w1, w2⟩
theorem open_raws {H : Type} {enc : TypeId × Value → H} {W : World} {base b0 : Nat} {sp : Nat → Bool} {v : Value} {d : DataW H} {p : List MemPlace} (hv : Value.okWide Tryd.prog W .any b0 54 v) (h : DataW.Trod enc Tryd.prog W base sp true 54 v d p) :
    ∃ t1 x1 y1 t2 x2 y2 t3 x3 y3 : Int, v = .agg #[.int .u8 t1, .int .i8 x1, .int .i8 y1, .int .u8 t2, .int .i8 x2, .int .i8 y2, .int .u8 t3, .int .i8 x3, .int .i8 y3] ∧ (0 ≤ t1 ∧ t1 ≤ 255) ∧ (-128 ≤ x1 ∧ x1 ≤ 127) ∧ (-128 ≤ y1 ∧ y1 ≤ 127) ∧ (0 ≤ t2 ∧ t2 ≤ 255) ∧ (-128 ≤ x2 ∧ x2 ≤ 127) ∧ (-128 ≤ y2 ∧ y2 ≤ 127) ∧ (0 ≤ t3 ∧ t3 ≤ 255) ∧ (-128 ≤ x3 ∧ x3 ≤ 127) ∧ (-128 ≤ y3 ∧ y3 ≤ 127) := by
  obtain ⟨cs, rfl, hs⟩ := okWide_array Tryd.underlying54 hv
  obtain ⟨fuel, h⟩ := h
  rw [cells54] at hs
  obtain ⟨cl⟩ := cs
  match cl, hs with
  | [a0, a1, a2, a3, a4, a5, a6, a7, a8], _ =>
    obtain ⟨xs, m, _, _, _, hl, hel⟩ := DataW.trod_array Tryd.underlying54 h
    match xs, hl with
    | [u, v, w], _ =>
      have h0 := hel 0 (by decide)
      have h1 := hel 1 (by decide)
      have h2 := hel 2 (by decide)
      rw [cells53] at h0 h1 h2
      obtain ⟨t1, x1, y1, rfl, rfl, rfl, w0, w1, w2⟩ := raw_of (x := u) h0
      obtain ⟨t2, x2, y2, rfl, rfl, rfl, w3, w4, w5⟩ := raw_of (x := v) h1
      obtain ⟨t3, x3, y3, rfl, rfl, rfl, w6, w7, w8⟩ := raw_of (x := w) h2
      exact ⟨t1, x1, y1, t2, x2, y2, t3, x3, y3, rfl, w0, w1, w2, w3, w4, w5, w6, w7, w8⟩
theorem open_i8s {H : Type} {enc : TypeId × Value → H} {W : World} {base b0 : Nat} {sp : Nat → Bool} {v : Value} {d : DataW H} {p : List MemPlace} (hv : Value.okWide Tryd.prog W .any b0 55 v) (h : DataW.Trod enc Tryd.prog W base sp true 55 v d p) :
    ∃ x y : Int, v = .agg #[.int .i8 x, .int .i8 y] ∧ (-128 ≤ x ∧ x ≤ 127) ∧ (-128 ≤ y ∧ y ≤ 127) := by
  obtain ⟨cs, rfl, hs⟩ := okWide_array Tryd.underlying55 hv
  obtain ⟨fuel, h⟩ := h
  rw [cells55] at hs
  obtain ⟨cl⟩ := cs
  match cl, hs with
  | [a0, a1], _ =>
    obtain ⟨xs, m, _, _, _, hl, hel⟩ := DataW.trod_array Tryd.underlying55 h
    match xs, hl with
    | [u, v], _ =>
      have h0 := hel 0 (by decide)
      have h1 := hel 1 (by decide)
      rw [cells51] at h0 h1
      obtain ⟨x, e0, _, w0⟩ := DataW.trod_int Tryd.underlying51 (x := u) h0
      obtain ⟨y, e1, _, w1⟩ := DataW.trod_int Tryd.underlying51 (x := v) h1
      simp [Value.cells] at e0 e1
      subst e0; subst e1
      exact ⟨x, y, rfl, i8_bd w0, i8_bd w1⟩
theorem VR_raw {ρ : RM} {t x y : Int} : VR ρ (.agg [.int .u8 t, .int .i8 x, .int .i8 y]) (.agg #[.int .u8 t, .int .i8 x, .int .i8 y]) := by
  simp only [VR]
  exact ⟨_, rfl, _, _, rfl, VR_int, _, _, rfl, VR_int, _, _, rfl, VR_int, rfl⟩
theorem VR_raws {ρ : RM} {t1 x1 y1 t2 x2 y2 t3 x3 y3 : Int} : VR ρ (.agg [.int .u8 t1, .int .i8 x1, .int .i8 y1, .int .u8 t2, .int .i8 x2, .int .i8 y2, .int .u8 t3, .int .i8 x3, .int .i8 y3]) (.agg #[.int .u8 t1, .int .i8 x1, .int .i8 y1, .int .u8 t2, .int .i8 x2, .int .i8 y2, .int .u8 t3, .int .i8 x3, .int .i8 y3]) := by
  simp only [VR]
  exact ⟨_, rfl, _, _, rfl, VR_int, _, _, rfl, VR_int, _, _, rfl, VR_int, _, _, rfl, VR_int, _, _, rfl, VR_int, _, _, rfl, VR_int, _, _, rfl, VR_int, _, _, rfl, VR_int, _, _, rfl, VR_int, rfl⟩
end Vm
end Go.Proofs.YtgncjbodicabnaaDoor

