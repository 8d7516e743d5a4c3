/-
  The law MovesKnown, as the machine runs it.
-/
import Derived.Test.YtgncjbodicabnaaDoorMtD
import Derived.Test.YtgncjbodicabnaaDoorMkI
import Derived.Test.YtgncjbodicabnaaDoorMkG
import Derived.Test.YtgncjbodicabnaaDoorMkH
set_option linter.unusedSimpArgs false
set_option linter.unusedVariables false

namespace Go.Proofs.YtgncjbodicabnaaDoor
namespace Vm
variable {mL : Int}
open Go Go.Vm Go.Vm.W
set_option maxRecDepth 100000
set_option linter.unusedVariables false
set_option linter.unusedSimpArgs false
attribute [local irreducible] W WO SpecQ SpecW runM

def ST : List (List Nat) := [[48, 32, 48, 32, 48], [55, 32, 45, 51, 32, 51], [56, 32, 48, 32, 48], [48, 32, 49, 32, 48], [49, 32, 50, 32, 52, 32], [49, 32, 32, 50, 32, 52], [48, 49, 32, 50, 32, 52], [49, 32, 50], [49, 32, 43, 50, 32, 52], [49, 32, 45, 48, 32, 48], [], [48, 32, 49, 54, 51, 56, 52, 32, 49, 54, 51, 56, 52], [48, 32, 49, 54, 51, 56, 54, 32, 48], [50, 53, 54, 32, 48, 32, 48]]
theorem st_at {i : Int} (h : 0 ≤ i ∧ i < 14) : ldv false 1 (0 + i.toNat * 1) (ST.map AV.str) = some (.str (ST.getD i.toNat [])) := by
  have : ∀ k : Nat, k < 14 → ldv false 1 (0 + k * 1) (ST.map AV.str) = some (.str (ST.getD k []))
    | 0, _ => rfl
    | 1, _ => rfl
    | 2, _ => rfl
    | 3, _ => rfl
    | 4, _ => rfl
    | 5, _ => rfl
    | 6, _ => rfl
    | 7, _ => rfl
    | 8, _ => rfl
    | 9, _ => rfl
    | 10, _ => rfl
    | 11, _ => rfl
    | 12, _ => rfl
    | 13, _ => rfl
    | n + 14, h => by omega
  exact this i.toNat (by omega)
theorem u8w (s : Int) : 0 ≤ IntKind.u8.wrap s ∧ IntKind.u8.wrap s ≤ 255 := by
  simp only [IntKind.wrap, IntKind.bits, IntKind.signed, Bool.false_and]
  simp
  omega
theorem tmod_bd (a : Int) (n : Int) (hn : 0 < n) : -n < a.tmod n ∧ a.tmod n < n := ⟨by have := Int.lt_tmod_of_pos a hn; omega, Int.tmod_lt_of_pos a hn⟩
theorem s35 (n : Nat) (k c : Int) (h : 0 ≤ k ∧ k ≤ 255) (hc : -128 ≤ c ∧ c ≤ 127) : SV mL (n+1) 35 [.agg [.int .u8 k, .int .i8 c]] (.agg [.int .u8 (1 + k % 4), .int .i64 c]) := by
  refine SpecQ_run (c := k35) rfl rfl rfl ?_
  intro ro O _
  refine X_reg [1, 2] [] [] (fun ν1 => (True)) (fun ν1 => []) (fun ν1 => [(1, (.ptr (ν1 0) 0)), (2, (.ptr (ν1 1) 0))]) (fun ν1 => ⟨(ν1 1), true, .cells [(.int .u8 0), (.int .i64 0)]⟩ :: ⟨(ν1 0), true, .cells [(.int .u8 k), (.int .i8 c)]⟩ :: O) (fun ν1 => by kernel_rfl) (fun ν1 => trivial) ?_
  intro ν1
  refine X_reg [2] [1] [.c, (.ld (.e 1)), .w, .c, .c, (.ld (.e 1)), .c, .c, (.st 0)] (fun _ => (0 ≤ k ∧ 0 < (4 : Int)) ∧ (inR .u8 (1 + (k % 4))) ∧ (inR .i64 c) ∧ (True)) (fun _ => [(ν1 0), (ν1 0), (ν1 1)]) (fun _ => [(2, (.ptr (ν1 1) 0))]) (fun _ => ⟨(ν1 1), true, .cells [(.int .u8 (1 + (k % 4))), (.int .i64 c)]⟩ :: O) (fun _ => by kernel_rfl) (fun _ => ⟨(by omega), (by simp only [inR]; omega), (by simp only [inR]; omega), trivial⟩) ?_
  intro _
  refine W_ret ?_
  exact RetQ_ret (vs := [(.agg [(.int .u8 (1 + (k % 4))), (.int .i64 c)])]) (N := []) (ResV.cell rfl (.here) rfl ResV.nil) ⟨by rfl, rfl⟩ (.cons _ (.refl _))
theorem s36 (n : Nat) (k x y : Int) : SV mL (n+1) 36 [.int .u8 k, .int .i64 x, .int .i64 y] (.agg [.int .u8 k, .int .i64 x, .int .i64 y]) := by
  refine SpecQ_run (c := k36) rfl rfl rfl ?_
  intro ro O _
  refine X_reg [0, 1, 2, 6] [] [] (fun ν1 => (True)) (fun ν1 => []) (fun ν1 => [(0, (.int .u8 k)), (1, (.int .i64 x)), (2, (.int .i64 y)), (6, (.ptr (ν1 0) 0))]) (fun ν1 => ⟨(ν1 0), true, .cells [(.int .u8 0), (.int .i64 0), (.int .i64 0)]⟩ :: O) (fun ν1 => by kernel_rfl) (fun ν1 => trivial) ?_
  intro ν1
  refine X_reg [6] [] [.c, .c, .c, .c, (.st 0)] (fun _ => (True)) (fun _ => [(ν1 0)]) (fun _ => [(6, (.ptr (ν1 0) 0))]) (fun _ => ⟨(ν1 0), true, .cells [(.int .u8 k), (.int .i64 x), (.int .i64 y)]⟩ :: O) (fun _ => by kernel_rfl) (fun _ => trivial) ?_
  intro _
  refine W_ret ?_
  exact RetQ_ret (vs := [(.agg [(.int .u8 k), (.int .i64 x), (.int .i64 y)])]) (N := []) (ResV.cell rfl (.here) rfl ResV.nil) ⟨by rfl, rfl⟩ (.cons _ (.refl _))
theorem s11 (n : Nat) : SV mL (n+11) 11 [] (.bool true) := by
  refine SpecQ_run (c := k11) rfl rfl rfl ?_
  intro ro O _
  refine X_reg [] [] [] (fun _ => (True)) (fun _ => []) (fun _ => []) (fun _ => O) (fun _ => by kernel_rfl) (fun _ => trivial) ?_
  intro _
  refine X_reg [1] [] [] (fun _ => (True)) (fun _ => []) (fun _ => [(1, (.int .i64 1))]) (fun _ => O) (fun _ => by kernel_rfl) (fun _ => trivial) ?_
  intro _
  refine C_assoc ?_
  refine X_reg [1, 2] [] [] (fun _ => (True)) (fun _ => []) (fun _ => [(1, (.int .i64 1)), (2, (.int .i64 0))]) (fun _ => O) (fun _ => by kernel_rfl) (fun _ => trivial) ?_
  intro _
  refine C_block ?_
  refine W_loop (σ := Int × Int) (fun ⟨i, s⟩ => [(1, (.int .i64 s)), (2, (.int .i64 i))]) (fun ⟨i, s⟩ => O) (fun ⟨i, s⟩ => 0 ≤ i ∧ i ≤ 48 ∧ 0 ≤ s ∧ s < 100003) (fun ⟨i, s⟩ => (48 - i).toNat) (0, 1) ⟨rfl, rfl, trivial⟩ (.refl _) ⟨by decide, by decide, by decide, by decide⟩ (by simp only [fuel]; omega) ?_
  rintro ⟨i, s⟩ ⟨i0, i1, s0, s1⟩
  have hw := u8w s
  have hA := tmod_bd (-(s / 5)) 60 (by decide)
  refine C_assoc ?_
  refine X_reg [1, 2, 10] [] [] (fun _ => (True)) (fun _ => []) (fun _ => [(1, (.int .i64 s)), (2, (.int .i64 i)), (10, (.bool (decide (i < 48))))]) (fun _ => O) (fun _ => by kernel_rfl) (fun _ => trivial) ?_
  intro _
  refine C_if_dec rfl ?_ ?_
  · intro h1
    refine C_skip ?_
    refine C_block ?_
    refine X_reg [1, 2, 3] [] [.c, .c, .c, .w, .c, .c, .w, .c, .c, .c, .c, .c, (.st 0)] (fun ν5 => (inR .u8 i) ∧ (0 ≤ s ∧ 0 < (60 : Int)) ∧ (inR .i8 (s % 60)) ∧ (0 ≤ s ∧ 0 < (5 : Int) ∧ inR .i64 (s / 5)) ∧ (inR .i64 (-(s / 5))) ∧ ((60 : Int) ≠ 0) ∧ (inR .i8 (((-(s / 5))).tmod 60)) ∧ (True)) (fun ν5 => [(ν5 0)]) (fun ν5 => [(1, (.int .i64 s)), (2, (.int .i64 i)), (3, (.ptr (ν5 0) 0))]) (fun ν5 => ⟨(ν5 0), true, .cells [(.int .u8 i), (.int .i8 (s % 60)), (.int .i8 (((-(s / 5))).tmod 60))]⟩ :: O) (fun ν5 => by kernel_rfl) (fun ν5 => ⟨(by simp only [inR]; omega), (by omega), (by simp only [inR]; omega), (by simp only [inR]; omega), (by simp only [inR]; omega), (by decide), (by simp only [inR]; omega), trivial⟩) ?_
    intro ν5
    refine X_reg [1, 2, 3, 4] [] [.c, .w, .c, .c, .c, .w, .c, .c, .c, (.st 0)] (fun ν6 => (inR .i8 i) ∧ (0 ≤ s ∧ 0 < (31 : Int)) ∧ (inR .i8 (s % 31)) ∧ (True)) (fun ν6 => [(ν6 0)]) (fun ν6 => [(1, (.int .i64 s)), (2, (.int .i64 i)), (3, (.ptr (ν5 0) 0)), (4, (.ptr (ν6 0) 0))]) (fun ν6 => ⟨(ν6 0), true, .cells [(.int .u8 (IntKind.u8.wrap s)), (.int .i8 i), (.int .i8 (s % 31))]⟩ :: ⟨(ν5 0), true, .cells [(.int .u8 i), (.int .i8 (s % 60)), (.int .i8 (((-(s / 5))).tmod 60))]⟩ :: O) (fun ν6 => by kernel_rfl) (fun ν6 => ⟨(by simp only [inR]; omega), (by omega), (by simp only [inR]; omega), trivial⟩) ?_
    intro ν6
    refine X_reg [1, 2, 3, 4, 5] [] [.c, .c, .c, .w, .c, .c, (.cl (.agg [(.int .u8 (1 + i % 4)), (.int .i64 (s % 40))])), .c, (.st 0)] (fun ν7 => (inR .u8 i) ∧ (0 ≤ s ∧ 0 < (40 : Int)) ∧ (inR .i8 (s % 40)) ∧ (SpecQ (BB mL) (RN mL (n+10)) 35 [(.agg [(.int .u8 i), (.int .i8 (s % 40))])] [] fun u_ N_ => u_ = (.agg [(.int .u8 (1 + i % 4)), (.int .i64 (s % 40))]) ∧ N_ = []) ∧ (True)) (fun ν7 => [(ν7 0)]) (fun ν7 => [(1, (.int .i64 s)), (2, (.int .i64 i)), (3, (.ptr (ν5 0) 0)), (4, (.ptr (ν6 0) 0)), (5, (.ptr (ν7 0) 0))]) (fun ν7 => ⟨(ν7 0), true, .cells [(.int .u8 (1 + i % 4)), (.int .i64 (s % 40))]⟩ :: ⟨(ν6 0), true, .cells [(.int .u8 (IntKind.u8.wrap s)), (.int .i8 i), (.int .i8 (s % 31))]⟩ :: ⟨(ν5 0), true, .cells [(.int .u8 i), (.int .i8 (s % 60)), (.int .i8 (((-(s / 5))).tmod 60))]⟩ :: O) (fun ν7 => by kernel_rfl) (fun ν7 => ⟨(by simp only [inR]; omega), (by omega), (by simp only [inR]; omega), s35 _ _ _ (by omega) (by omega), trivial⟩) ?_
    intro ν7
    refine X_reg [1, 2, 3, 4, 5, 6] [] [.c, .w, .c, .c, .c, .c, .c, (.st 0)] (fun ν8 => (0 ≤ s ∧ 0 < (300 : Int)) ∧ (inR .i64 (-s)) ∧ ((77 : Int) ≠ 0) ∧ (True)) (fun ν8 => [(ν8 0)]) (fun ν8 => [(1, (.int .i64 s)), (2, (.int .i64 i)), (3, (.ptr (ν5 0) 0)), (4, (.ptr (ν6 0) 0)), (5, (.ptr (ν7 0) 0)), (6, (.ptr (ν8 0) 0))]) (fun ν8 => ⟨(ν8 0), true, .cells [(.int .i64 (s % 300)), (.int .i64 (((-s)).tmod 77))]⟩ :: ⟨(ν7 0), true, .cells [(.int .u8 (1 + i % 4)), (.int .i64 (s % 40))]⟩ :: ⟨(ν6 0), true, .cells [(.int .u8 (IntKind.u8.wrap s)), (.int .i8 i), (.int .i8 (s % 31))]⟩ :: ⟨(ν5 0), true, .cells [(.int .u8 i), (.int .i8 (s % 60)), (.int .i8 (((-(s / 5))).tmod 60))]⟩ :: O) (fun ν8 => by kernel_rfl) (fun ν8 => ⟨(by omega), (by simp only [inR]; omega), (by decide), trivial⟩) ?_
    intro ν8
    refine C_assoc ?_
    refine X_reg [1, 2, 96] [3, 2, 1, 0] [(.ld (.e 1)), .c, .c, .c, .w, .c, (.cl (.bool true)), .c, .c, (.ld (.e 3)), (.cl (.agg [(.int .u8 (i % 8)), (.int .i64 (s % 60)), (.int .i64 (tY (s % 60) (((-(s / 5))).tmod 60)))])), (.ld (.e 2)), (.cl (.agg [(.int .u8 ((IntKind.u8.wrap s) % 8)), (.int .i64 i), (.int .i64 (tY i (s % 31)))])), (.cl (.bool true)), .c, .c, .c, (.ld (.e 3)), (.cl (.agg [(.int .u8 (i % 8)), (.int .i64 (s % 60)), (.int .i64 (tY (s % 60) (((-(s / 5))).tmod 60)))])), (.cl (.bool true)), .c, .c, .c, (.ld (.e 2)), (.cl (.agg [(.int .u8 ((IntKind.u8.wrap s) % 8)), (.int .i64 i), (.int .i64 (tY i (s % 31)))])), (.ld (.e 0)), (.cl (.bool true)), .c, .c, .c, (.ld (.e 3)), (.cl (.agg [(.int .u8 (i % 8)), (.int .i64 (s % 60)), (.int .i64 (tY (s % 60) (((-(s / 5))).tmod 60)))])), (.ld (.e 1)), (.cl (.bool true)), .c, .c, .c, (.ld (.e 3)), (.ld (.e 2)), (.ld (.e 3)), .c, .c, .c, .c, (.cl (.bool true)), .c, .c, .c, (.ld (.e 3)), (.cl (.bool true))] (fun _ => (inR .i8 i) ∧ (0 ≤ s ∧ 0 < (90 : Int)) ∧ (inR .i8 (s % 90)) ∧ (SpecQ (BB mL) (RN mL (n+10)) 9 [(.agg [(.int .u8 (1 + i % 4)), (.int .i64 (s % 40))]), (.int .i8 i), (.int .i8 (s % 90))] [] fun u_ N_ => u_ = (.bool true) ∧ N_ = []) ∧ (SpecQ (BB mL) (RN mL (n+10)) 27 [(.agg [(.int .u8 i), (.int .i8 (s % 60)), (.int .i8 (((-(s / 5))).tmod 60))])] [] fun u_ N_ => u_ = (.agg [(.int .u8 (i % 8)), (.int .i64 (s % 60)), (.int .i64 (tY (s % 60) (((-(s / 5))).tmod 60)))]) ∧ N_ = []) ∧ (SpecQ (BB mL) (RN mL (n+10)) 27 [(.agg [(.int .u8 (IntKind.u8.wrap s)), (.int .i8 i), (.int .i8 (s % 31))])] [] fun u_ N_ => u_ = (.agg [(.int .u8 ((IntKind.u8.wrap s) % 8)), (.int .i64 i), (.int .i64 (tY i (s % 31)))]) ∧ N_ = []) ∧ (SpecQ (BB mL) (RN mL (n+10)) 10 [(.agg [(.int .u8 (i % 8)), (.int .i64 (s % 60)), (.int .i64 (tY (s % 60) (((-(s / 5))).tmod 60)))]), (.agg [(.int .u8 ((IntKind.u8.wrap s) % 8)), (.int .i64 i), (.int .i64 (tY i (s % 31)))])] [] fun u_ N_ => u_ = (.bool true) ∧ N_ = []) ∧ (SpecQ (BB mL) (RN mL (n+10)) 27 [(.agg [(.int .u8 i), (.int .i8 (s % 60)), (.int .i8 (((-(s / 5))).tmod 60))])] [] fun u_ N_ => u_ = (.agg [(.int .u8 (i % 8)), (.int .i64 (s % 60)), (.int .i64 (tY (s % 60) (((-(s / 5))).tmod 60)))]) ∧ N_ = []) ∧ (SpecQ (BB mL) (RN mL (n+10)) 3 [(.agg [(.int .u8 (i % 8)), (.int .i64 (s % 60)), (.int .i64 (tY (s % 60) (((-(s / 5))).tmod 60)))])] [] fun u_ N_ => u_ = (.bool true) ∧ N_ = []) ∧ (SpecQ (BB mL) (RN mL (n+10)) 27 [(.agg [(.int .u8 (IntKind.u8.wrap s)), (.int .i8 i), (.int .i8 (s % 31))])] [] fun u_ N_ => u_ = (.agg [(.int .u8 ((IntKind.u8.wrap s) % 8)), (.int .i64 i), (.int .i64 (tY i (s % 31)))]) ∧ N_ = []) ∧ (SpecQ (BB mL) (RN mL (n+10)) 4 [(.agg [(.int .u8 ((IntKind.u8.wrap s) % 8)), (.int .i64 i), (.int .i64 (tY i (s % 31)))]), (.agg [(.int .i64 (s % 300)), (.int .i64 (((-s)).tmod 77))])] [] fun u_ N_ => u_ = (.bool true) ∧ N_ = []) ∧ (SpecQ (BB mL) (RN mL (n+10)) 27 [(.agg [(.int .u8 i), (.int .i8 (s % 60)), (.int .i8 (((-(s / 5))).tmod 60))])] [] fun u_ N_ => u_ = (.agg [(.int .u8 (i % 8)), (.int .i64 (s % 60)), (.int .i64 (tY (s % 60) (((-(s / 5))).tmod 60)))]) ∧ N_ = []) ∧ (SpecQ (BB mL) (RN mL (n+10)) 5 [(.agg [(.int .u8 (i % 8)), (.int .i64 (s % 60)), (.int .i64 (tY (s % 60) (((-(s / 5))).tmod 60)))]), (.agg [(.int .u8 (1 + i % 4)), (.int .i64 (s % 40))])] [] fun u_ N_ => u_ = (.bool true) ∧ N_ = []) ∧ (inR .i8 i) ∧ (SpecQ (BB mL) (RN mL (n+10)) 6 [(.agg [(.int .u8 i), (.int .i8 (s % 60)), (.int .i8 (((-(s / 5))).tmod 60)), (.int .u8 (IntKind.u8.wrap s)), (.int .i8 i), (.int .i8 (s % 31)), (.int .u8 i), (.int .i8 (s % 60)), (.int .i8 (((-(s / 5))).tmod 60))]), (.agg [(.int .i8 i), (.int .i8 3)])] [] fun u_ N_ => u_ = (.bool true) ∧ N_ = []) ∧ (SpecQ (BB mL) (RN mL (n+10)) 7 [(.agg [(.int .u8 i), (.int .i8 (s % 60)), (.int .i8 (((-(s / 5))).tmod 60))])] [] fun u_ N_ => u_ = (.bool true) ∧ N_ = []) ∧ (True)) (fun _ => [(ν7 0), (ν5 0), (ν6 0), (ν5 0), (ν6 0), (ν8 0), (ν5 0), (ν7 0), (ν5 0), (ν6 0), (ν5 0), (ν5 0)]) (fun _ => [(1, (.int .i64 s)), (2, (.int .i64 i)), (96, (.bool false))]) (fun _ => O) (fun _ => by kernel_rfl) (fun _ => ⟨(by simp only [inR]; omega), (by omega), (by simp only [inR]; omega), s9 _ _ _ _ _ (by omega) (by omega), s27 _ _ _ _ (by omega) (by omega) (by omega), s27 _ _ _ _ (by omega) (by omega) (by omega), s10 _ _ _ _ _ _ _ (by omega) (by omega), s27 _ _ _ _ (by omega) (by omega) (by omega), s3 _ _ _ _ (by omega), s27 _ _ _ _ (by omega) (by omega) (by omega), s4 _ _ _ _ _ _ (by omega), s27 _ _ _ _ (by omega) (by omega) (by omega), s5 _ _ _ _ _ _ (by omega), (by simp only [inR]; omega), s6 _ _ _ _ _ _ _ _ _ _ _ _ (by omega) (by omega) (by omega) (by omega) (by omega) (by omega) (by omega) (by omega) (by omega) (by omega) (by omega), s7 _ _ _ _ (by omega) (by omega) (by omega), trivial⟩) ?_
    intro _
    refine C_if_f rfl ?_
    refine C_skip ?_
    refine X_end [1, 2] [] [.c, .c, .c, .c, .c, .c, .w] (fun _ => (inR .i64 (s * 31)) ∧ (inR .i64 (7 * i)) ∧ (inR .i64 ((s * 31) + (7 * i))) ∧ (inR .i64 (((s * 31) + (7 * i)) + 11)) ∧ (0 ≤ (((s * 31) + (7 * i)) + 11) ∧ 0 < (100003 : Int)) ∧ (True)) (fun _ => []) (fun _ => [(1, (.int .i64 ((((s * 31) + (7 * i)) + 11) % 100003))), (2, (.int .i64 i))]) (fun _ => O) (fun _ => by kernel_rfl) (fun _ => ⟨(by simp only [inR]; omega), (by simp only [inR]; omega), (by simp only [inR]; omega), (by simp only [inR]; omega), (by omega), trivial⟩) ?_
    intro _
    refine X_end [1, 2] [] [] (fun _ => (inR .i64 (i + 1)) ∧ (True)) (fun _ => []) (fun _ => [(1, (.int .i64 ((((s * 31) + (7 * i)) + 11) % 100003))), (2, (.int .i64 (i + 1)))]) (fun _ => O) (fun _ => by kernel_rfl) (fun _ => ⟨(by simp only [inR]; omega), trivial⟩) ?_
    intro _
    exact again_of ((i + 1), ((((s * 31) + (7 * i)) + 11) % 100003)) ⟨rfl, rfl, trivial⟩ (.refl _) ⟨by omega, by omega, by omega, by omega⟩ (by show (48 - (i + 1)).toNat < (48 - i).toNat; omega)
  · intro h1
    refine C_exit ?_
    refine X_reg [7] [] [] (fun ν12 => (True)) (fun ν12 => []) (fun ν12 => [(7, (.sl (ν12 0) 0 14 (some 14) 1))]) (fun ν12 => ⟨(ν12 0), true, .cells [(.str [48, 32, 48, 32, 48]), (.str [55, 32, 45, 51, 32, 51]), (.str [56, 32, 48, 32, 48]), (.str [48, 32, 49, 32, 48]), (.str [49, 32, 50, 32, 52, 32]), (.str [49, 32, 32, 50, 32, 52]), (.str [48, 49, 32, 50, 32, 52]), (.str [49, 32, 50]), (.str [49, 32, 43, 50, 32, 52]), (.str [49, 32, 45, 48, 32, 48]), (.str []), (.str [48, 32, 49, 54, 51, 56, 52, 32, 49, 54, 51, 56, 52]), (.str [48, 32, 49, 54, 51, 56, 54, 32, 48]), (.str [50, 53, 54, 32, 48, 32, 48])]⟩ :: O) (fun ν12 => by kernel_rfl) (fun ν12 => trivial) ?_
    intro ν12
    refine C_assoc ?_
    refine X_reg [7, 8] [] [] (fun _ => (True)) (fun _ => []) (fun _ => [(7, (.sl (ν12 0) 0 14 (some 14) 1)), (8, (.int .i64 0))]) (fun _ => ⟨(ν12 0), true, .cells [(.str [48, 32, 48, 32, 48]), (.str [55, 32, 45, 51, 32, 51]), (.str [56, 32, 48, 32, 48]), (.str [48, 32, 49, 32, 48]), (.str [49, 32, 50, 32, 52, 32]), (.str [49, 32, 32, 50, 32, 52]), (.str [48, 49, 32, 50, 32, 52]), (.str [49, 32, 50]), (.str [49, 32, 43, 50, 32, 52]), (.str [49, 32, 45, 48, 32, 48]), (.str []), (.str [48, 32, 49, 54, 51, 56, 52, 32, 49, 54, 51, 56, 52]), (.str [48, 32, 49, 54, 51, 56, 54, 32, 48]), (.str [50, 53, 54, 32, 48, 32, 48])]⟩ :: O) (fun _ => by kernel_rfl) (fun _ => trivial) ?_
    intro _
    refine C_block ?_
    refine W_loop (σ := Int) (fun i => [(7, (.sl (ν12 0) 0 14 (some 14) 1)), (8, (.int .i64 i))]) (fun i => ⟨(ν12 0), true, .cells [(.str [48, 32, 48, 32, 48]), (.str [55, 32, 45, 51, 32, 51]), (.str [56, 32, 48, 32, 48]), (.str [48, 32, 49, 32, 48]), (.str [49, 32, 50, 32, 52, 32]), (.str [49, 32, 32, 50, 32, 52]), (.str [48, 49, 32, 50, 32, 52]), (.str [49, 32, 50]), (.str [49, 32, 43, 50, 32, 52]), (.str [49, 32, 45, 48, 32, 48]), (.str []), (.str [48, 32, 49, 54, 51, 56, 52, 32, 49, 54, 51, 56, 52]), (.str [48, 32, 49, 54, 51, 56, 54, 32, 48]), (.str [50, 53, 54, 32, 48, 32, 48])]⟩ :: O) (fun i => 0 ≤ i ∧ i ≤ 14) (fun i => (14 - i).toNat) 0 ⟨rfl, rfl, trivial⟩ (.cons_cons _ (.refl _)) ⟨by decide, by decide⟩ (by simp only [fuel]; omega) ?_
    rintro i ⟨i0, i1⟩
    refine C_assoc ?_
    refine X_reg [7, 8, 108] [] [] (fun _ => (True)) (fun _ => []) (fun _ => [(7, (.sl (ν12 0) 0 14 (some 14) 1)), (8, (.int .i64 i)), (108, (.bool (decide (i < 14))))]) (fun _ => ⟨(ν12 0), true, .cells [(.str [48, 32, 48, 32, 48]), (.str [55, 32, 45, 51, 32, 51]), (.str [56, 32, 48, 32, 48]), (.str [48, 32, 49, 32, 48]), (.str [49, 32, 50, 32, 52, 32]), (.str [49, 32, 32, 50, 32, 52]), (.str [48, 49, 32, 50, 32, 52]), (.str [49, 32, 50]), (.str [49, 32, 43, 50, 32, 52]), (.str [49, 32, 45, 48, 32, 48]), (.str []), (.str [48, 32, 49, 54, 51, 56, 52, 32, 49, 54, 51, 56, 52]), (.str [48, 32, 49, 54, 51, 56, 54, 32, 48]), (.str [50, 53, 54, 32, 48, 32, 48])]⟩ :: O) (fun _ => by kernel_rfl) (fun _ => trivial) ?_
    intro _
    refine C_if_dec rfl ?_ ?_
    · intro h2
      refine C_skip ?_
      refine C_block ?_
      refine X_reg [7, 8, 122] [] [.c, .c, .c, .c, .c, (.cl (.agg [(.int .u8 i), (.int .i64 (16390 - i)), (.int .i64 i)])), .c, .c, .c, (.ldt (.e 0) (.str (ST.getD (i : Int).toNat []))), (.cl (.bool true))] (fun _ => (inR .u8 i) ∧ (inR .i64 (16390 - i)) ∧ (SpecQ (BB mL) (RN mL (n+10)) 36 [(.int .u8 i), (.int .i64 (16390 - i)), (.int .i64 i)] [] fun u_ N_ => u_ = (.agg [(.int .u8 i), (.int .i64 (16390 - i)), (.int .i64 i)]) ∧ N_ = []) ∧ (0 ≤ i ∧ i < (14 : Nat)) ∧ (ldv false 1 (0 + (i : Int).toNat * 1) [(.str [48, 32, 48, 32, 48]), (.str [55, 32, 45, 51, 32, 51]), (.str [56, 32, 48, 32, 48]), (.str [48, 32, 49, 32, 48]), (.str [49, 32, 50, 32, 52, 32]), (.str [49, 32, 32, 50, 32, 52]), (.str [48, 49, 32, 50, 32, 52]), (.str [49, 32, 50]), (.str [49, 32, 43, 50, 32, 52]), (.str [49, 32, 45, 48, 32, 48]), (.str []), (.str [48, 32, 49, 54, 51, 56, 52, 32, 49, 54, 51, 56, 52]), (.str [48, 32, 49, 54, 51, 56, 54, 32, 48]), (.str [50, 53, 54, 32, 48, 32, 48])] = some (.str (ST.getD (i : Int).toNat []))) ∧ (SpecQ (BB mL) (RN mL (n+10)) 8 [(.agg [(.int .u8 i), (.int .i64 (16390 - i)), (.int .i64 i)]), (.str (ST.getD (i : Int).toNat []))] [] fun u_ N_ => u_ = (.bool true) ∧ N_ = []) ∧ (True)) (fun _ => [(ν12 0)]) (fun _ => [(7, (.sl (ν12 0) 0 14 (some 14) 1)), (8, (.int .i64 i)), (122, (.bool false))]) (fun _ => ⟨(ν12 0), true, .cells [(.str [48, 32, 48, 32, 48]), (.str [55, 32, 45, 51, 32, 51]), (.str [56, 32, 48, 32, 48]), (.str [48, 32, 49, 32, 48]), (.str [49, 32, 50, 32, 52, 32]), (.str [49, 32, 32, 50, 32, 52]), (.str [48, 49, 32, 50, 32, 52]), (.str [49, 32, 50]), (.str [49, 32, 43, 50, 32, 52]), (.str [49, 32, 45, 48, 32, 48]), (.str []), (.str [48, 32, 49, 54, 51, 56, 52, 32, 49, 54, 51, 56, 52]), (.str [48, 32, 49, 54, 51, 56, 54, 32, 48]), (.str [50, 53, 54, 32, 48, 32, 48])]⟩ :: O) (fun _ => by kernel_rfl) (fun _ => ⟨(by simp only [inR]; omega), (by simp only [inR]; omega), s36 _ _ _ _, (by omega), st_at (by omega), s8 _ _ _ _ _ (by omega), trivial⟩) ?_
      intro _
      refine W_if_f rfl ?_
      refine W_skip ?_
      refine X_end [7, 8] [] [] (fun _ => (inR .i64 (i + 1)) ∧ (True)) (fun _ => []) (fun _ => [(7, (.sl (ν12 0) 0 14 (some 14) 1)), (8, (.int .i64 (i + 1)))]) (fun _ => ⟨(ν12 0), true, .cells [(.str [48, 32, 48, 32, 48]), (.str [55, 32, 45, 51, 32, 51]), (.str [56, 32, 48, 32, 48]), (.str [48, 32, 49, 32, 48]), (.str [49, 32, 50, 32, 52, 32]), (.str [49, 32, 32, 50, 32, 52]), (.str [48, 49, 32, 50, 32, 52]), (.str [49, 32, 50]), (.str [49, 32, 43, 50, 32, 52]), (.str [49, 32, 45, 48, 32, 48]), (.str []), (.str [48, 32, 49, 54, 51, 56, 52, 32, 49, 54, 51, 56, 52]), (.str [48, 32, 49, 54, 51, 56, 54, 32, 48]), (.str [50, 53, 54, 32, 48, 32, 48])]⟩ :: O) (fun _ => by kernel_rfl) (fun _ => ⟨(by simp only [inR]; omega), trivial⟩) ?_
      intro _
      exact again_of (i + 1) ⟨rfl, rfl, trivial⟩ (.cons_cons _ (.refl _)) ⟨by omega, by omega⟩ (by show (14 - (i + 1)).toNat < (14 - i).toNat; omega)
    · intro h2
      refine C_exit ?_
      refine X_reg [0] [0] [(.cl (.bool true))] (fun _ => (SpecQ (BB mL) (RN mL (n+10)) 14 [] [] fun u_ N_ => u_ = (.bool true) ∧ N_ = []) ∧ (True)) (fun _ => []) (fun _ => [(0, (.bool true))]) (fun _ => O) (fun _ => by kernel_rfl) (fun _ => ⟨s14t _, trivial⟩) ?_
      intro _
      refine W_ret ?_
      exact RetQ_ret (vs := [(.bool true)]) (N := []) (ResV.t rfl ResV.nil) ⟨by rfl, rfl⟩ (.refl _)
end Vm
end Go.Proofs.YtgncjbodicabnaaDoor

