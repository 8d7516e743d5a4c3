/-
  moves.Text and moves.Parse, as the machine runs them.
-/
import Derived.Test.YtgncjbodicabnaaDoorMtB
set_option linter.unusedSimpArgs false
set_option linter.unusedVariables false

namespace Go.Proofs.YtgncjbodicabnaaDoor
namespace Vm
variable {mx : Int}
open Go Go.Vm Go.Vm.W
set_option maxRecDepth 100000
set_option linter.unusedVariables false
set_option linter.unusedSimpArgs false
attribute [local irreducible] W WO SpecQ SpecW runM

theorem mo_s {a b : Memo} {f : FuncId} {az : List AV} {g : Tr Blk → Nat → Out} (h : a f az = some g) : memoOr a b f az = some g := by
  unfold memoOr
  rw [h]
theorem mo_n {a b : Memo} {f : FuncId} {az : List AV} {r : Option (Tr Blk → Nat → Out)} (h : a f az = none) (h2 : b f az = r) : memoOr a b f az = r := by
  unfold memoOr
  rw [h]
  exact h2
theorem m50 {az : List AV} {g : Tr Blk → Nat → Out} (h : tAtoi 50 109 50 az = some g) : mm 50 az = some g := mo_n (by cases az <;> rfl) (mo_s h)
theorem m49 {az : List AV} {g : Tr Blk → Nat → Out} (h : tPU 49 109 49 az = some g) : mm 49 az = some g := mo_n (by cases az <;> rfl) (mo_n rfl (mo_s h))
theorem m48 {az : List AV} {g : Tr Blk → Nat → Out} (h : tSplit 48 48 az = some g) : mm 48 az = some g := mo_n (by cases az <;> rfl) (mo_n rfl (mo_n rfl (mo_s h)))
/-- The text of a move. -/
abbrev TX (t x y : Int) : List Nat := ((((Z t ++ [32]) ++ Z x) ++ [32]) ++ Z y)
theorem sSplit (n : Nat) (s : List Nat) {ws : List (List Nat)} (h : s.length ≤ 1000000) (hw : words s [32] = ws) : SpecQ (BB mx) (RN mx (n+1)) 48 [.str s, .str [32]] [] (RB 1 (fun b => .sl (b.getD 0 0) 0 ws.length (some ws.length) 1) (fun b => [⟨b.getD 0 0, true, .cells (ws.map AV.str)⟩])) := by
  subst hw
  refine SpecQ.mono (memo_specN (V := fun b => .sl b 0 (words s [32]).length (some (words s [32]).length) 1) (l := (words s [32]).map AV.str) (m48 ?_)) ?_
  · show (bif s.length.ble 1000000 && _ then _ else _ : Option (Tr Blk → Nat → Out)) = _
    rw [Nat.ble_eq_true_of_le h]
    rfl
  · rintro v N ⟨b, rfl, rfl⟩
    exact ⟨[b], rfl, rfl, rfl⟩
theorem sSplit3 (n : Nat) (s a b c : List Nat) (h : s.length ≤ 1000000) (hw : words s [32] = [a, b, c]) : SpecQ (BB mx) (RN mx (n+1)) 48 [.str s, .str [32]] [] (RB 1 (fun b => .sl (b.getD 0 0) 0 3 (some 3) 1) (fun l => [⟨l.getD 0 0, true, .cells [.str a, .str b, .str c]⟩])) := by
  have := sSplit (mx := mx) n s h hw
  exact this
theorem sPU (n : Nat) (s : List Nat) {v : Nat} (h : s.length ≤ 1000000) (hw : Lib.parseUintB 8 (u8 s) = .ok v) : SV mx (n+1) 49 [.str s, .int .i64 10, .int .i64 8] (.tup [.int .u64 (v : Nat), .nili]) := memo_spec (m49 <| by
  show (bif s.length.ble 1000000 then tU8 109 (Lib.parseUintB 8 (u8 s)) else _ : Option (Tr Blk → Nat → Out)) = _
  rw [Nat.ble_eq_true_of_le h, hw]
  rfl)
def PUe (mx : Int) (n : Nat) (s : List Nat) (e : Int) : Prop := SpecQ (BB mx) (RN mx (n+1)) 49 [.str s, .int .i64 10, .int .i64 8] [] (RB 1 (fun b => .tup [.int .u64 e, .ifc 109 (.ptr (b.getD 0 0) 0)]) (fun b => []))
theorem sPUe (n : Nat) (s : List Nat) (h : s.length ≤ 1000000) (hw : ∀ v, Lib.parseUintB 8 (u8 s) ≠ .ok v) : ∃ e, (0 ≤ e ∧ e ≤ 255) ∧ PUe mx n s e := by
  have h0 : tPU 49 109 49 [.str s, .int .i64 10, .int .i64 8] = tU8 109 (Lib.parseUintB 8 (u8 s)) := by
    show (bif s.length.ble 1000000 then tU8 109 (Lib.parseUintB 8 (u8 s)) else _ : Option (Tr Blk → Nat → Out)) = _
    rw [Nat.ble_eq_true_of_le h]
    rfl
  match hk : Lib.parseUintB 8 (u8 s) with
  | .ok v => exact absurd hk (hw v)
  | Lib.NumEnd.syntax =>
    rw [hk] at h0
    refine ⟨0, by omega, SpecQ.mono (memo_specO (V := fun b => .tup [.int .u64 0, .ifc 109 (.ptr b 0)]) (m49 h0)) ?_⟩
    rintro v N ⟨b, rfl, rfl⟩
    exact ⟨[b], rfl, rfl, rfl⟩
  | .range =>
    rw [hk] at h0
    refine ⟨255, by omega, SpecQ.mono (memo_specO (V := fun b => .tup [.int .u64 255, .ifc 109 (.ptr b 0)]) (m49 h0)) ?_⟩
    rintro v N ⟨b, rfl, rfl⟩
    exact ⟨[b], rfl, rfl, rfl⟩
theorem sAt (n : Nat) (s : List Nat) {v : Int} (h : s.length ≤ 1000000) (hw : Lib.atoiAll (u8 s) = .ok v) : SV mx (n+1) 50 [.str s] (.tup [.int .i64 v, .nili]) := memo_spec (m50 <| by
  show (bif s.length.ble 1000000 then tNum 109 .i64 (Lib.atoiSat (u8 s)) (Lib.atoiAll (u8 s)) else _ : Option (Tr Blk → Nat → Out)) = _
  rw [Nat.ble_eq_true_of_le h, hw]
  rfl)
def ATe (mx : Int) (n : Nat) (s : List Nat) (e : Int) : Prop := SpecQ (BB mx) (RN mx (n+1)) 50 [.str s] [] (RB 1 (fun b => .tup [.int .i64 e, .ifc 109 (.ptr (b.getD 0 0) 0)]) (fun b => []))
theorem sAte (n : Nat) (s : List Nat) (h : s.length ≤ 1000000) (hw : ∀ v, Lib.atoiAll (u8 s) ≠ .ok v) : ∃ e, ATe mx n s e := by
  have h0 : tAtoi 50 109 50 [.str s] = tNum 109 .i64 (Lib.atoiSat (u8 s)) (Lib.atoiAll (u8 s)) := by
    show (bif s.length.ble 1000000 then tNum 109 .i64 (Lib.atoiSat (u8 s)) (Lib.atoiAll (u8 s)) else _ : Option (Tr Blk → Nat → Out)) = _
    rw [Nat.ble_eq_true_of_le h]
    rfl
  match hk : Lib.atoiAll (u8 s) with
  | .ok v => exact absurd hk (hw v)
  | Lib.NumEnd.syntax =>
    rw [hk] at h0
    refine ⟨0, SpecQ.mono (memo_specO (V := fun b => .tup [.int .i64 0, .ifc 109 (.ptr b 0)]) (m50 h0)) ?_⟩
    rintro v N ⟨b, rfl, rfl⟩
    exact ⟨[b], rfl, rfl, rfl⟩
  | .range =>
    rw [hk] at h0
    refine ⟨Lib.atoiSat (u8 s), SpecQ.mono (memo_specO (V := fun b => .tup [.int .i64 (Lib.atoiSat (u8 s)), .ifc 109 (.ptr b 0)]) (m50 h0)) ?_⟩
    rintro v N ⟨b, rfl, rfl⟩
    exact ⟨[b], rfl, rfl, rfl⟩
theorem s13t (n : Nat) (k x y : Int) (h0 : 0 ≤ k ∧ k ≤ 255) (hv : vm k x y) : SV mx (n+1) 13 [.agg [.int .u8 k, .int .i64 x, .int .i64 y]] (.int .i64 1) := by
  obtain ⟨v1, v2, v3, v4, v5, v6⟩ := hv
  refine SpecQ_run (c := k13) rfl rfl rfl ?_
  intro ro O _
  refine X_reg [1] [] [] (fun ν1 => (True)) (fun ν1 => []) (fun ν1 => [(1, (.ptr (ν1 0) 0))]) (fun ν1 => ⟨(ν1 0), true, .cells [(.int .u8 k), (.int .i64 x), (.int .i64 y)]⟩ :: O) (fun ν1 => by kernel_rfl) (fun ν1 => trivial) ?_
  intro ν1
  refine C_assoc ?_
  refine X_reg [34] [0] [.c, (.ld (.e 0)), .c, .c, (.g .c), (.g (.ld (.e 0))), (.g .c), .pk, .c, (.g .c), (.g (.ld (.e 0))), (.g .c), .pk, .c, (.g .c), (.g (.ld (.e 0))), (.g .c), .pk, .c, (.g .c), (.g (.ld (.e 0))), (.g .c), .pk, .c, (.g .c), (.g (.ld (.e 0))), (.g .c), (.g (.ld (.e 0))), (.g .c), (.g .c), (.g .c), .pk] (fun _ => (((!(((((decide (7 < k)) || (decide (x < (-16384)))) || (decide (16384 < x))) || (decide (y < (-16384)))) || (decide (16384 < y)))) = true → inR .i64 (x - y))) ∧ (((!(((((decide (7 < k)) || (decide (x < (-16384)))) || (decide (16384 < x))) || (decide (y < (-16384)))) || (decide (16384 < y)))) = true → (2 : Int) ≠ 0)) ∧ (True)) (fun _ => [(ν1 0), (ν1 0), (ν1 0), (ν1 0), (ν1 0), (ν1 0), (ν1 0)]) (fun _ => [(34, (.bool ((((((decide (7 < k)) || (decide (x < (-16384)))) || (decide (16384 < x))) || (decide (y < (-16384)))) || (decide (16384 < y))) || (decide ((((x - y)).tmod 2) ≠ 0)))))]) (fun _ => O) (fun _ => by kernel_rfl) (fun _ => ⟨(fun hg => by first | (simp only [inR]; omega) | (simp at hg; simp only [inR]; omega)), (fun hg => (by decide)), trivial⟩) ?_
  intro _
  refine C_if_f (x := _) (xp_f (by simp only [Bool.and_eq_true, Bool.or_eq_true, Bool.not_eq_true', Bool.and_eq_false_iff, Bool.or_eq_false_iff, Bool.not_eq_false', decide_eq_true_eq, decide_eq_false_iff_not, ne_eq, Decidable.not_not, tmod2]; omega)) ?_
  refine C_skip ?_
  refine X_reg [2] [] [] (fun _ => (True)) (fun _ => []) (fun _ => [(2, (.int .i64 1))]) (fun _ => O) (fun _ => by kernel_rfl) (fun _ => trivial) ?_
  intro _
  refine W_ret ?_
  exact RetQ_ret (vs := [(.int .i64 1)]) (N := []) (ResV.t rfl ResV.nil) ⟨by rfl, rfl⟩ (.refl _)
theorem s13n (n : Nat) (k x y : Int) (h0 : 0 ≤ k ∧ k ≤ 255) (hv : ¬ vm k x y) : SV mx (n+1) 13 [.agg [.int .u8 k, .int .i64 x, .int .i64 y]] (.int .i64 0) := by
  unfold vm at hv
  refine SpecQ_run (c := k13) rfl rfl rfl ?_
  intro ro O _
  refine X_reg [1] [] [] (fun ν1 => (True)) (fun ν1 => []) (fun ν1 => [(1, (.ptr (ν1 0) 0))]) (fun ν1 => ⟨(ν1 0), true, .cells [(.int .u8 k), (.int .i64 x), (.int .i64 y)]⟩ :: O) (fun ν1 => by kernel_rfl) (fun ν1 => trivial) ?_
  intro ν1
  refine C_assoc ?_
  refine X_reg [34] [0] [.c, (.ld (.e 0)), .c, .c, (.g .c), (.g (.ld (.e 0))), (.g .c), .pk, .c, (.g .c), (.g (.ld (.e 0))), (.g .c), .pk, .c, (.g .c), (.g (.ld (.e 0))), (.g .c), .pk, .c, (.g .c), (.g (.ld (.e 0))), (.g .c), .pk, .c, (.g .c), (.g (.ld (.e 0))), (.g .c), (.g (.ld (.e 0))), (.g .c), (.g .c), (.g .c), .pk] (fun _ => (((!(((((decide (7 < k)) || (decide (x < (-16384)))) || (decide (16384 < x))) || (decide (y < (-16384)))) || (decide (16384 < y)))) = true → inR .i64 (x - y))) ∧ (((!(((((decide (7 < k)) || (decide (x < (-16384)))) || (decide (16384 < x))) || (decide (y < (-16384)))) || (decide (16384 < y)))) = true → (2 : Int) ≠ 0)) ∧ (True)) (fun _ => [(ν1 0), (ν1 0), (ν1 0), (ν1 0), (ν1 0), (ν1 0), (ν1 0)]) (fun _ => [(34, (.bool ((((((decide (7 < k)) || (decide (x < (-16384)))) || (decide (16384 < x))) || (decide (y < (-16384)))) || (decide (16384 < y))) || (decide ((((x - y)).tmod 2) ≠ 0)))))]) (fun _ => O) (fun _ => by kernel_rfl) (fun _ => ⟨(fun hg => by first | (simp only [inR]; omega) | (simp at hg; simp only [inR]; omega)), (fun hg => (by decide)), trivial⟩) ?_
  intro _
  refine C_if_t (x := _) (xp_t (by simp only [Bool.and_eq_true, Bool.or_eq_true, Bool.not_eq_true', Bool.and_eq_false_iff, Bool.or_eq_false_iff, Bool.not_eq_false', decide_eq_true_eq, decide_eq_false_iff_not, ne_eq, Decidable.not_not, tmod2]; omega)) ?_
  refine C_assoc ?_
  refine X_reg [2] [] [] (fun _ => (True)) (fun _ => []) (fun _ => [(2, (.int .i64 0))]) (fun _ => O) (fun _ => by kernel_rfl) (fun _ => trivial) ?_
  intro _
  refine C_ret ?_
  exact RetQ_ret (vs := [(.int .i64 0)]) (N := []) (ResV.t rfl ResV.nil) ⟨by rfl, rfl⟩ (.refl _)
theorem s31 (n : Nat) (k x y : Int) (h0 : 0 ≤ k ∧ k ≤ 255) (hv : vm k x y) : SV mx (n+6) 31 [.agg [.int .u8 k, .int .i64 x, .int .i64 y]] (.str (TX k x y)) := by
  have hv' := hv
  obtain ⟨v1, v2, v3, v4, v5, v6⟩ := hv
  have l1 := Z_len (n := k) (by omega)
  have l2 := Z_len (n := x) (by omega)
  have l3 := Z_len (n := y) (by omega)
  refine SpecQ_run (c := k31) rfl rfl rfl ?_
  intro ro O _
  refine X_reg [1] [] [] (fun ν1 => (True)) (fun ν1 => []) (fun ν1 => [(1, (.ptr (ν1 0) 0))]) (fun ν1 => ⟨(ν1 0), true, .cells [(.int .u8 k), (.int .i64 x), (.int .i64 y)]⟩ :: O) (fun ν1 => by kernel_rfl) (fun ν1 => trivial) ?_
  intro ν1
  refine C_assoc ?_
  refine X_reg [1, 5] [] [(.ld (.e 0)), (.cl (.int .i64 0))] (fun _ => (SpecQ (BB mx) (RN mx (n+5)) 34 [(.agg [(.int .u8 k), (.int .i64 x), (.int .i64 y)])] [] fun u_ N_ => u_ = (.int .i64 0) ∧ N_ = []) ∧ (True)) (fun _ => [(ν1 0)]) (fun _ => [(1, (.ptr (ν1 0) 0)), (5, (.bool false))]) (fun _ => ⟨(ν1 0), true, .cells [(.int .u8 k), (.int .i64 x), (.int .i64 y)]⟩ :: O) (fun _ => by kernel_rfl) (fun _ => ⟨s34 _ _ _ _ h0 hv', trivial⟩) ?_
  intro _
  refine C_if_f rfl ?_
  refine C_skip ?_
  refine X_reg [2] [0] [.c, (.ld (.e 0)), .c, (.cl (.str (Z k))), .c, .c, (.ld (.e 0)), (.cl (.str (Z x))), .c, .c, .c, (.ld (.e 0)), (.cl (.str (Z y)))] (fun _ => (inR .i64 k) ∧ (SpecQ (BB mx) (RN mx (n+5)) 51 [(.int .i64 k)] [] fun u_ N_ => u_ = (.str (Z k)) ∧ N_ = []) ∧ ((Z k).length + [32].length ≤ 4000000000) ∧ (SpecQ (BB mx) (RN mx (n+5)) 51 [(.int .i64 x)] [] fun u_ N_ => u_ = (.str (Z x)) ∧ N_ = []) ∧ (((Z k) ++ [32]).length + (Z x).length ≤ 4000000000) ∧ ((((Z k) ++ [32]) ++ (Z x)).length + [32].length ≤ 4000000000) ∧ (SpecQ (BB mx) (RN mx (n+5)) 51 [(.int .i64 y)] [] fun u_ N_ => u_ = (.str (Z y)) ∧ N_ = []) ∧ (((((Z k) ++ [32]) ++ (Z x)) ++ [32]).length + (Z y).length ≤ 4000000000) ∧ (True)) (fun _ => [(ν1 0), (ν1 0), (ν1 0)]) (fun _ => [(2, (.str (((((Z k) ++ [32]) ++ (Z x)) ++ [32]) ++ (Z y))))]) (fun _ => O) (fun _ => by kernel_rfl) (fun _ => ⟨(by simp only [inR]; omega), s51 _ k (by omega), (by first | omega | (simp only [List.length_append, List.length_cons, List.length_nil]; omega)), s51 _ x (by omega), (by first | omega | (simp only [List.length_append, List.length_cons, List.length_nil]; omega)), (by first | omega | (simp only [List.length_append, List.length_cons, List.length_nil]; omega)), s51 _ y (by omega), (by first | omega | (simp only [List.length_append, List.length_cons, List.length_nil]; omega)), trivial⟩) ?_
  intro _
  refine W_ret ?_
  exact RetQ_ret (vs := [(.str (((((Z k) ++ [32]) ++ (Z x)) ++ [32]) ++ (Z y)))]) (N := []) (ResV.t rfl ResV.nil) ⟨by rfl, rfl⟩ (.refl _)
theorem s31n (n : Nat) (k x y : Int) (h0 : 0 ≤ k ∧ k ≤ 255) (hv : ¬ vm k x y) : SV mx (n+6) 31 [.agg [.int .u8 k, .int .i64 x, .int .i64 y]] (.str []) := by
  refine SpecQ_run (c := k31) rfl rfl rfl ?_
  intro ro O _
  refine X_reg [1] [] [] (fun ν1 => (True)) (fun ν1 => []) (fun ν1 => [(1, (.ptr (ν1 0) 0))]) (fun ν1 => ⟨(ν1 0), true, .cells [(.int .u8 k), (.int .i64 x), (.int .i64 y)]⟩ :: O) (fun ν1 => by kernel_rfl) (fun ν1 => trivial) ?_
  intro ν1
  refine C_assoc ?_
  refine X_reg [1, 5] [] [(.ld (.e 0)), (.cl (.int .i64 1))] (fun _ => (SpecQ (BB mx) (RN mx (n+5)) 34 [(.agg [(.int .u8 k), (.int .i64 x), (.int .i64 y)])] [] fun u_ N_ => u_ = (.int .i64 1) ∧ N_ = []) ∧ (True)) (fun _ => [(ν1 0)]) (fun _ => [(1, (.ptr (ν1 0) 0)), (5, (.bool true))]) (fun _ => ⟨(ν1 0), true, .cells [(.int .u8 k), (.int .i64 x), (.int .i64 y)]⟩ :: O) (fun _ => by kernel_rfl) (fun _ => ⟨s34_no _ _ _ _ h0 hv, trivial⟩) ?_
  intro _
  refine C_if_t rfl ?_
  refine C_assoc ?_
  refine X_reg [2] [0] [] (fun _ => (True)) (fun _ => []) (fun _ => [(2, (.str []))]) (fun _ => O) (fun _ => by kernel_rfl) (fun _ => trivial) ?_
  intro _
  refine C_ret ?_
  exact RetQ_ret (vs := [(.str [])]) (N := []) (ResV.t rfl ResV.nil) ⟨by rfl, rfl⟩ (.refl _)
theorem s30w (n : Nat) (s : List Nat) (ws : List (List Nat)) (h : s.length ≤ 1000000) (hw : words s [32] = ws) (hl : ws.length ≠ 3) : SV mx (n+7) 30 [.str s] (.tup [.agg [.int .u8 0, .int .i64 0, .int .i64 0], .int .i64 4]) := by
  refine SpecQ_run (c := k30) rfl rfl rfl ?_
  intro ro O _
  refine X_reg [0, 2] [] [] (fun ν1 => (True)) (fun ν1 => []) (fun ν1 => [(0, (.str s)), (2, (.ptr (ν1 0) 0))]) (fun ν1 => ⟨(ν1 0), true, .cells [(.int .u8 0), (.int .i64 0), (.int .i64 0)]⟩ :: O) (fun ν1 => by kernel_rfl) (fun ν1 => trivial) ?_
  intro ν1
  refine X_reg [0, 2, 4] [] [.c, (.cn 1 [] (fun l_ => (.sl (l_.getD 0 0) 0 ws.length (some ws.length) 1)) (fun l_ => [⟨(l_.getD 0 0), true, .cells (ws.map AV.str)⟩]))] (fun ν2 => ((SpecQ (BB mx) (RN mx (n+6)) 48 [(.str s), (.str [32])] [] (RB 1 (fun l_ => (.sl (l_.getD 0 0) 0 ws.length (some ws.length) 1)) (fun l_ => [⟨(l_.getD 0 0), true, .cells (ws.map AV.str)⟩]))) ∧ (True)) ∧ (True)) (fun ν2 => []) (fun ν2 => [(0, (.str s)), (2, (.ptr (ν1 0) 0)), (4, (.sl (ν2 0) 0 ws.length (some ws.length) 1))]) (fun ν2 => ⟨(ν2 0), true, .cells (ws.map AV.str)⟩ :: ⟨(ν1 0), true, .cells [(.int .u8 0), (.int .i64 0), (.int .i64 0)]⟩ :: O) (fun ν2 => by kernel_rfl) (fun ν2 => ⟨⟨sSplit _ _ h hw, trivial⟩, trivial⟩) ?_
  intro ν2
  refine C_assoc ?_
  refine X_reg [0, 2, 4, 16] [] [] (fun _ => (True)) (fun _ => []) (fun _ => [(0, (.str s)), (2, (.ptr (ν1 0) 0)), (4, (.sl (ν2 0) 0 ws.length (some ws.length) 1)), (16, (.bool (decide (((ws.length : Nat) : Int) ≠ 3))))]) (fun _ => ⟨(ν2 0), true, .cells (ws.map AV.str)⟩ :: ⟨(ν1 0), true, .cells [(.int .u8 0), (.int .i64 0), (.int .i64 0)]⟩ :: O) (fun _ => by kernel_rfl) (fun _ => trivial) ?_
  intro _
  refine C_if_t (x := _) (xp_t (by simp only [Bool.and_eq_true, Bool.or_eq_true, Bool.not_eq_true', Bool.and_eq_false_iff, Bool.or_eq_false_iff, Bool.not_eq_false', decide_eq_true_eq, decide_eq_false_iff_not, ne_eq, Decidable.not_not]; omega)) ?_
  refine C_assoc ?_
  refine X_reg [2, 3] [0] [.c, (.st 1)] (fun _ => (True)) (fun _ => [(ν1 0)]) (fun _ => [(2, (.ptr (ν1 0) 0)), (3, (.int .i64 4))]) (fun _ => ⟨(ν1 0), true, .cells [(.int .u8 0), (.int .i64 0), (.int .i64 0)]⟩ :: O) (fun _ => by kernel_rfl) (fun _ => trivial) ?_
  intro _
  refine C_ret ?_
  exact RetQ_ret (vs := [(.agg [(.int .u8 0), (.int .i64 0), (.int .i64 0)]), (.int .i64 4)]) (N := []) (ResV.cell rfl (.here) rfl (ResV.t rfl ResV.nil)) ⟨by rfl, rfl⟩ (.cons _ (.refl _))
theorem s30e0 (n : Nat) (s a b c : List Nat) (h : s.length ≤ 1000000) (hw : words s [32] = [a, b, c]) (ha : a.length ≤ 1000000) (hb : b.length ≤ 1000000) (hc : c.length ≤ 1000000) (x y : Int) (va : Int) (hv : 0 ≤ va ∧ va ≤ 255) (pa : PUe mx (n+5) a va) (pb : ATe mx (n+5) b x) (pc : ATe mx (n+5) c y)  : SV mx (n+7) 30 [.str s] (.tup [.agg [.int .u8 0, .int .i64 0, .int .i64 0], .int .i64 4]) := by
  refine SpecQ_run (c := k30) rfl rfl rfl ?_
  intro ro O _
  refine X_reg [0, 2] [] [] (fun ν1 => (True)) (fun ν1 => []) (fun ν1 => [(0, (.str s)), (2, (.ptr (ν1 0) 0))]) (fun ν1 => ⟨(ν1 0), true, .cells [(.int .u8 0), (.int .i64 0), (.int .i64 0)]⟩ :: O) (fun ν1 => by kernel_rfl) (fun ν1 => trivial) ?_
  intro ν1
  refine X_reg [0, 2, 4] [] [.c, (.cn 1 [] (fun l_ => (.sl (l_.getD 0 0) 0 3 (some 3) 1)) (fun l_ => [⟨(l_.getD 0 0), true, .cells [(.str a), (.str b), (.str c)]⟩]))] (fun ν2 => ((SpecQ (BB mx) (RN mx (n+6)) 48 [(.str s), (.str [32])] [] (RB 1 (fun l_ => (.sl (l_.getD 0 0) 0 3 (some 3) 1)) (fun l_ => [⟨(l_.getD 0 0), true, .cells [(.str a), (.str b), (.str c)]⟩]))) ∧ (True)) ∧ (True)) (fun ν2 => []) (fun ν2 => [(0, (.str s)), (2, (.ptr (ν1 0) 0)), (4, (.sl (ν2 0) 0 3 (some 3) 1))]) (fun ν2 => ⟨(ν2 0), true, .cells [(.str a), (.str b), (.str c)]⟩ :: ⟨(ν1 0), true, .cells [(.int .u8 0), (.int .i64 0), (.int .i64 0)]⟩ :: O) (fun ν2 => by kernel_rfl) (fun ν2 => ⟨⟨sSplit3 _ _ _ _ _ h hw, trivial⟩, trivial⟩) ?_
  intro ν2
  refine C_assoc ?_
  refine X_reg [0, 2, 4, 16] [] [] (fun _ => (True)) (fun _ => []) (fun _ => [(0, (.str s)), (2, (.ptr (ν1 0) 0)), (4, (.sl (ν2 0) 0 3 (some 3) 1)), (16, (.bool false))]) (fun _ => ⟨(ν2 0), true, .cells [(.str a), (.str b), (.str c)]⟩ :: ⟨(ν1 0), true, .cells [(.int .u8 0), (.int .i64 0), (.int .i64 0)]⟩ :: O) (fun _ => by kernel_rfl) (fun _ => trivial) ?_
  intro _
  refine C_if_f rfl ?_
  refine C_skip ?_
  refine X_reg [0, 2, 4, 5, 6] [] [.c, .c, (.ld (.e 0)), (.cn 1 [] (fun l_ => (.tup [(.int .u64 va), (.ifc 109 (.ptr (l_.getD 0 0) 0))])) (fun l_ => []))] (fun ν4 => (0 ≤ (0 : Int) ∧ (0 : Int) < (3 : Nat)) ∧ ((SpecQ (BB mx) (RN mx (n+6)) 49 [(.str a), (.int .i64 10), (.int .i64 8)] [] (RB 1 (fun l_ => (.tup [(.int .u64 va), (.ifc 109 (.ptr (l_.getD 0 0) 0))])) (fun l_ => []))) ∧ (True)) ∧ (True)) (fun ν4 => [(ν2 0)]) (fun ν4 => [(0, (.str s)), (2, (.ptr (ν1 0) 0)), (4, (.sl (ν2 0) 0 3 (some 3) 1)), (5, (.int .u64 va)), (6, (.ifc 109 (.ptr (ν4 0) 0)))]) (fun ν4 => ⟨(ν2 0), true, .cells [(.str a), (.str b), (.str c)]⟩ :: ⟨(ν1 0), true, .cells [(.int .u8 0), (.int .i64 0), (.int .i64 0)]⟩ :: O) (fun ν4 => by kernel_rfl) (fun ν4 => ⟨(by omega), ⟨pa, trivial⟩, trivial⟩) ?_
  intro ν4
  refine X_reg [0, 2, 4, 5, 6, 7, 8] [] [.c, .c, (.ld (.e 0)), (.cn 1 [] (fun l_ => (.tup [(.int .i64 x), (.ifc 109 (.ptr (l_.getD 0 0) 0))])) (fun l_ => []))] (fun ν5 => (0 ≤ (1 : Int) ∧ (1 : Int) < (3 : Nat)) ∧ ((SpecQ (BB mx) (RN mx (n+6)) 50 [(.str b)] [] (RB 1 (fun l_ => (.tup [(.int .i64 x), (.ifc 109 (.ptr (l_.getD 0 0) 0))])) (fun l_ => []))) ∧ (True)) ∧ (True)) (fun ν5 => [(ν2 0)]) (fun ν5 => [(0, (.str s)), (2, (.ptr (ν1 0) 0)), (4, (.sl (ν2 0) 0 3 (some 3) 1)), (5, (.int .u64 va)), (6, (.ifc 109 (.ptr (ν4 0) 0))), (7, (.int .i64 x)), (8, (.ifc 109 (.ptr (ν5 0) 0)))]) (fun ν5 => ⟨(ν2 0), true, .cells [(.str a), (.str b), (.str c)]⟩ :: ⟨(ν1 0), true, .cells [(.int .u8 0), (.int .i64 0), (.int .i64 0)]⟩ :: O) (fun ν5 => by kernel_rfl) (fun ν5 => ⟨(by omega), ⟨pb, trivial⟩, trivial⟩) ?_
  intro ν5
  refine X_reg [0, 2, 5, 6, 7, 8, 9, 10] [0] [.c, .c, (.ld (.e 0)), (.cn 1 [] (fun l_ => (.tup [(.int .i64 y), (.ifc 109 (.ptr (l_.getD 0 0) 0))])) (fun l_ => []))] (fun ν6 => (0 ≤ (2 : Int) ∧ (2 : Int) < (3 : Nat)) ∧ ((SpecQ (BB mx) (RN mx (n+6)) 50 [(.str c)] [] (RB 1 (fun l_ => (.tup [(.int .i64 y), (.ifc 109 (.ptr (l_.getD 0 0) 0))])) (fun l_ => []))) ∧ (True)) ∧ (True)) (fun ν6 => [(ν2 0)]) (fun ν6 => [(0, (.str s)), (2, (.ptr (ν1 0) 0)), (5, (.int .u64 va)), (6, (.ifc 109 (.ptr (ν4 0) 0))), (7, (.int .i64 x)), (8, (.ifc 109 (.ptr (ν5 0) 0))), (9, (.int .i64 y)), (10, (.ifc 109 (.ptr (ν6 0) 0)))]) (fun ν6 => ⟨(ν1 0), true, .cells [(.int .u8 0), (.int .i64 0), (.int .i64 0)]⟩ :: O) (fun ν6 => by kernel_rfl) (fun ν6 => ⟨(by omega), ⟨pc, trivial⟩, trivial⟩) ?_
  intro ν6
  refine X_reg [0, 2, 6, 8, 10, 11] [] [.c, .c, .c, .c, .c, .c, (.st 0)] (fun ν7 => (inR .u8 va) ∧ (True)) (fun ν7 => [(ν7 0)]) (fun ν7 => [(0, (.str s)), (2, (.ptr (ν1 0) 0)), (6, (.ifc 109 (.ptr (ν4 0) 0))), (8, (.ifc 109 (.ptr (ν5 0) 0))), (10, (.ifc 109 (.ptr (ν6 0) 0))), (11, (.ptr (ν7 0) 0))]) (fun ν7 => ⟨(ν7 0), true, .cells [(.int .u8 va), (.int .i64 x), (.int .i64 y)]⟩ :: ⟨(ν1 0), true, .cells [(.int .u8 0), (.int .i64 0), (.int .i64 0)]⟩ :: O) (fun ν7 => by kernel_rfl) (fun ν7 => ⟨(by simp only [inR]; omega), trivial⟩) ?_
  intro ν7
  refine C_assoc ?_
  refine X_reg [2, 11, 59] [] [] (fun _ => (True)) (fun _ => []) (fun _ => [(2, (.ptr (ν1 0) 0)), (11, (.ptr (ν7 0) 0)), (59, (.bool true))]) (fun _ => ⟨(ν7 0), true, .cells [(.int .u8 va), (.int .i64 x), (.int .i64 y)]⟩ :: ⟨(ν1 0), true, .cells [(.int .u8 0), (.int .i64 0), (.int .i64 0)]⟩ :: O) (fun _ => by kernel_rfl) (fun _ => trivial) ?_
  intro _
  refine C_if_t rfl ?_
  refine C_assoc ?_
  refine X_reg [2, 3] [0] [.c, (.st 1)] (fun _ => (True)) (fun _ => [(ν1 0)]) (fun _ => [(2, (.ptr (ν1 0) 0)), (3, (.int .i64 4))]) (fun _ => ⟨(ν1 0), true, .cells [(.int .u8 0), (.int .i64 0), (.int .i64 0)]⟩ :: O) (fun _ => by kernel_rfl) (fun _ => trivial) ?_
  intro _
  refine C_ret ?_
  exact RetQ_ret (vs := [(.agg [(.int .u8 0), (.int .i64 0), (.int .i64 0)]), (.int .i64 4)]) (N := []) (ResV.cell rfl (.here) rfl (ResV.t rfl ResV.nil)) ⟨by rfl, rfl⟩ (.cons _ (.refl _))
theorem s30e1 (n : Nat) (s a b c : List Nat) (h : s.length ≤ 1000000) (hw : words s [32] = [a, b, c]) (ha : a.length ≤ 1000000) (hb : b.length ≤ 1000000) (hc : c.length ≤ 1000000) (x y : Int) (v : Nat) (hv : v ≤ 255) (pa : Lib.parseUintB 8 (u8 a) = .ok v) (pb : ATe mx (n+5) b x) (pc : ATe mx (n+5) c y)  : SV mx (n+7) 30 [.str s] (.tup [.agg [.int .u8 0, .int .i64 0, .int .i64 0], .int .i64 4]) := by
  refine SpecQ_run (c := k30) rfl rfl rfl ?_
  intro ro O _
  refine X_reg [0, 2] [] [] (fun ν1 => (True)) (fun ν1 => []) (fun ν1 => [(0, (.str s)), (2, (.ptr (ν1 0) 0))]) (fun ν1 => ⟨(ν1 0), true, .cells [(.int .u8 0), (.int .i64 0), (.int .i64 0)]⟩ :: O) (fun ν1 => by kernel_rfl) (fun ν1 => trivial) ?_
  intro ν1
  refine X_reg [0, 2, 4] [] [.c, (.cn 1 [] (fun l_ => (.sl (l_.getD 0 0) 0 3 (some 3) 1)) (fun l_ => [⟨(l_.getD 0 0), true, .cells [(.str a), (.str b), (.str c)]⟩]))] (fun ν2 => ((SpecQ (BB mx) (RN mx (n+6)) 48 [(.str s), (.str [32])] [] (RB 1 (fun l_ => (.sl (l_.getD 0 0) 0 3 (some 3) 1)) (fun l_ => [⟨(l_.getD 0 0), true, .cells [(.str a), (.str b), (.str c)]⟩]))) ∧ (True)) ∧ (True)) (fun ν2 => []) (fun ν2 => [(0, (.str s)), (2, (.ptr (ν1 0) 0)), (4, (.sl (ν2 0) 0 3 (some 3) 1))]) (fun ν2 => ⟨(ν2 0), true, .cells [(.str a), (.str b), (.str c)]⟩ :: ⟨(ν1 0), true, .cells [(.int .u8 0), (.int .i64 0), (.int .i64 0)]⟩ :: O) (fun ν2 => by kernel_rfl) (fun ν2 => ⟨⟨sSplit3 _ _ _ _ _ h hw, trivial⟩, trivial⟩) ?_
  intro ν2
  refine C_assoc ?_
  refine X_reg [0, 2, 4, 16] [] [] (fun _ => (True)) (fun _ => []) (fun _ => [(0, (.str s)), (2, (.ptr (ν1 0) 0)), (4, (.sl (ν2 0) 0 3 (some 3) 1)), (16, (.bool false))]) (fun _ => ⟨(ν2 0), true, .cells [(.str a), (.str b), (.str c)]⟩ :: ⟨(ν1 0), true, .cells [(.int .u8 0), (.int .i64 0), (.int .i64 0)]⟩ :: O) (fun _ => by kernel_rfl) (fun _ => trivial) ?_
  intro _
  refine C_if_f rfl ?_
  refine C_skip ?_
  refine X_reg [0, 2, 4, 5, 6] [] [.c, .c, (.ld (.e 0)), (.cl (.tup [(.int .u64 ((v : Nat) : Int)), .nili]))] (fun _ => (0 ≤ (0 : Int) ∧ (0 : Int) < (3 : Nat)) ∧ (SpecQ (BB mx) (RN mx (n+6)) 49 [(.str a), (.int .i64 10), (.int .i64 8)] [] fun u_ N_ => u_ = (.tup [(.int .u64 ((v : Nat) : Int)), .nili]) ∧ N_ = []) ∧ (True)) (fun _ => [(ν2 0)]) (fun _ => [(0, (.str s)), (2, (.ptr (ν1 0) 0)), (4, (.sl (ν2 0) 0 3 (some 3) 1)), (5, (.int .u64 ((v : Nat) : Int))), (6, .nili)]) (fun _ => ⟨(ν2 0), true, .cells [(.str a), (.str b), (.str c)]⟩ :: ⟨(ν1 0), true, .cells [(.int .u8 0), (.int .i64 0), (.int .i64 0)]⟩ :: O) (fun _ => by kernel_rfl) (fun _ => ⟨(by omega), sPU _ _ ha pa, trivial⟩) ?_
  intro _
  refine X_reg [0, 2, 4, 5, 6, 7, 8] [] [.c, .c, (.ld (.e 0)), (.cn 1 [] (fun l_ => (.tup [(.int .i64 x), (.ifc 109 (.ptr (l_.getD 0 0) 0))])) (fun l_ => []))] (fun ν5 => (0 ≤ (1 : Int) ∧ (1 : Int) < (3 : Nat)) ∧ ((SpecQ (BB mx) (RN mx (n+6)) 50 [(.str b)] [] (RB 1 (fun l_ => (.tup [(.int .i64 x), (.ifc 109 (.ptr (l_.getD 0 0) 0))])) (fun l_ => []))) ∧ (True)) ∧ (True)) (fun ν5 => [(ν2 0)]) (fun ν5 => [(0, (.str s)), (2, (.ptr (ν1 0) 0)), (4, (.sl (ν2 0) 0 3 (some 3) 1)), (5, (.int .u64 ((v : Nat) : Int))), (6, .nili), (7, (.int .i64 x)), (8, (.ifc 109 (.ptr (ν5 0) 0)))]) (fun ν5 => ⟨(ν2 0), true, .cells [(.str a), (.str b), (.str c)]⟩ :: ⟨(ν1 0), true, .cells [(.int .u8 0), (.int .i64 0), (.int .i64 0)]⟩ :: O) (fun ν5 => by kernel_rfl) (fun ν5 => ⟨(by omega), ⟨pb, trivial⟩, trivial⟩) ?_
  intro ν5
  refine X_reg [0, 2, 5, 6, 7, 8, 9, 10] [0] [.c, .c, (.ld (.e 0)), (.cn 1 [] (fun l_ => (.tup [(.int .i64 y), (.ifc 109 (.ptr (l_.getD 0 0) 0))])) (fun l_ => []))] (fun ν6 => (0 ≤ (2 : Int) ∧ (2 : Int) < (3 : Nat)) ∧ ((SpecQ (BB mx) (RN mx (n+6)) 50 [(.str c)] [] (RB 1 (fun l_ => (.tup [(.int .i64 y), (.ifc 109 (.ptr (l_.getD 0 0) 0))])) (fun l_ => []))) ∧ (True)) ∧ (True)) (fun ν6 => [(ν2 0)]) (fun ν6 => [(0, (.str s)), (2, (.ptr (ν1 0) 0)), (5, (.int .u64 ((v : Nat) : Int))), (6, .nili), (7, (.int .i64 x)), (8, (.ifc 109 (.ptr (ν5 0) 0))), (9, (.int .i64 y)), (10, (.ifc 109 (.ptr (ν6 0) 0)))]) (fun ν6 => ⟨(ν1 0), true, .cells [(.int .u8 0), (.int .i64 0), (.int .i64 0)]⟩ :: O) (fun ν6 => by kernel_rfl) (fun ν6 => ⟨(by omega), ⟨pc, trivial⟩, trivial⟩) ?_
  intro ν6
  refine X_reg [0, 2, 6, 8, 10, 11] [] [.c, .c, .c, .c, .c, .c, (.st 0)] (fun ν7 => (inR .u8 ((v : Nat) : Int)) ∧ (True)) (fun ν7 => [(ν7 0)]) (fun ν7 => [(0, (.str s)), (2, (.ptr (ν1 0) 0)), (6, .nili), (8, (.ifc 109 (.ptr (ν5 0) 0))), (10, (.ifc 109 (.ptr (ν6 0) 0))), (11, (.ptr (ν7 0) 0))]) (fun ν7 => ⟨(ν7 0), true, .cells [(.int .u8 ((v : Nat) : Int)), (.int .i64 x), (.int .i64 y)]⟩ :: ⟨(ν1 0), true, .cells [(.int .u8 0), (.int .i64 0), (.int .i64 0)]⟩ :: O) (fun ν7 => by kernel_rfl) (fun ν7 => ⟨(by simp only [inR]; omega), trivial⟩) ?_
  intro ν7
  refine C_assoc ?_
  refine X_reg [2, 11, 59] [] [] (fun _ => (True)) (fun _ => []) (fun _ => [(2, (.ptr (ν1 0) 0)), (11, (.ptr (ν7 0) 0)), (59, (.bool true))]) (fun _ => ⟨(ν7 0), true, .cells [(.int .u8 ((v : Nat) : Int)), (.int .i64 x), (.int .i64 y)]⟩ :: ⟨(ν1 0), true, .cells [(.int .u8 0), (.int .i64 0), (.int .i64 0)]⟩ :: O) (fun _ => by kernel_rfl) (fun _ => trivial) ?_
  intro _
  refine C_if_t rfl ?_
  refine C_assoc ?_
  refine X_reg [2, 3] [0] [.c, (.st 1)] (fun _ => (True)) (fun _ => [(ν1 0)]) (fun _ => [(2, (.ptr (ν1 0) 0)), (3, (.int .i64 4))]) (fun _ => ⟨(ν1 0), true, .cells [(.int .u8 0), (.int .i64 0), (.int .i64 0)]⟩ :: O) (fun _ => by kernel_rfl) (fun _ => trivial) ?_
  intro _
  refine C_ret ?_
  exact RetQ_ret (vs := [(.agg [(.int .u8 0), (.int .i64 0), (.int .i64 0)]), (.int .i64 4)]) (N := []) (ResV.cell rfl (.here) rfl (ResV.t rfl ResV.nil)) ⟨by rfl, rfl⟩ (.cons _ (.refl _))
theorem s30e2 (n : Nat) (s a b c : List Nat) (h : s.length ≤ 1000000) (hw : words s [32] = [a, b, c]) (ha : a.length ≤ 1000000) (hb : b.length ≤ 1000000) (hc : c.length ≤ 1000000) (x y : Int) (va : Int) (hv : 0 ≤ va ∧ va ≤ 255) (pa : PUe mx (n+5) a va) (pb : Lib.atoiAll (u8 b) = .ok x) (pc : ATe mx (n+5) c y)  : SV mx (n+7) 30 [.str s] (.tup [.agg [.int .u8 0, .int .i64 0, .int .i64 0], .int .i64 4]) := by
  refine SpecQ_run (c := k30) rfl rfl rfl ?_
  intro ro O _
  refine X_reg [0, 2] [] [] (fun ν1 => (True)) (fun ν1 => []) (fun ν1 => [(0, (.str s)), (2, (.ptr (ν1 0) 0))]) (fun ν1 => ⟨(ν1 0), true, .cells [(.int .u8 0), (.int .i64 0), (.int .i64 0)]⟩ :: O) (fun ν1 => by kernel_rfl) (fun ν1 => trivial) ?_
  intro ν1
  refine X_reg [0, 2, 4] [] [.c, (.cn 1 [] (fun l_ => (.sl (l_.getD 0 0) 0 3 (some 3) 1)) (fun l_ => [⟨(l_.getD 0 0), true, .cells [(.str a), (.str b), (.str c)]⟩]))] (fun ν2 => ((SpecQ (BB mx) (RN mx (n+6)) 48 [(.str s), (.str [32])] [] (RB 1 (fun l_ => (.sl (l_.getD 0 0) 0 3 (some 3) 1)) (fun l_ => [⟨(l_.getD 0 0), true, .cells [(.str a), (.str b), (.str c)]⟩]))) ∧ (True)) ∧ (True)) (fun ν2 => []) (fun ν2 => [(0, (.str s)), (2, (.ptr (ν1 0) 0)), (4, (.sl (ν2 0) 0 3 (some 3) 1))]) (fun ν2 => ⟨(ν2 0), true, .cells [(.str a), (.str b), (.str c)]⟩ :: ⟨(ν1 0), true, .cells [(.int .u8 0), (.int .i64 0), (.int .i64 0)]⟩ :: O) (fun ν2 => by kernel_rfl) (fun ν2 => ⟨⟨sSplit3 _ _ _ _ _ h hw, trivial⟩, trivial⟩) ?_
  intro ν2
  refine C_assoc ?_
  refine X_reg [0, 2, 4, 16] [] [] (fun _ => (True)) (fun _ => []) (fun _ => [(0, (.str s)), (2, (.ptr (ν1 0) 0)), (4, (.sl (ν2 0) 0 3 (some 3) 1)), (16, (.bool false))]) (fun _ => ⟨(ν2 0), true, .cells [(.str a), (.str b), (.str c)]⟩ :: ⟨(ν1 0), true, .cells [(.int .u8 0), (.int .i64 0), (.int .i64 0)]⟩ :: O) (fun _ => by kernel_rfl) (fun _ => trivial) ?_
  intro _
  refine C_if_f rfl ?_
  refine C_skip ?_
  refine X_reg [0, 2, 4, 5, 6] [] [.c, .c, (.ld (.e 0)), (.cn 1 [] (fun l_ => (.tup [(.int .u64 va), (.ifc 109 (.ptr (l_.getD 0 0) 0))])) (fun l_ => []))] (fun ν4 => (0 ≤ (0 : Int) ∧ (0 : Int) < (3 : Nat)) ∧ ((SpecQ (BB mx) (RN mx (n+6)) 49 [(.str a), (.int .i64 10), (.int .i64 8)] [] (RB 1 (fun l_ => (.tup [(.int .u64 va), (.ifc 109 (.ptr (l_.getD 0 0) 0))])) (fun l_ => []))) ∧ (True)) ∧ (True)) (fun ν4 => [(ν2 0)]) (fun ν4 => [(0, (.str s)), (2, (.ptr (ν1 0) 0)), (4, (.sl (ν2 0) 0 3 (some 3) 1)), (5, (.int .u64 va)), (6, (.ifc 109 (.ptr (ν4 0) 0)))]) (fun ν4 => ⟨(ν2 0), true, .cells [(.str a), (.str b), (.str c)]⟩ :: ⟨(ν1 0), true, .cells [(.int .u8 0), (.int .i64 0), (.int .i64 0)]⟩ :: O) (fun ν4 => by kernel_rfl) (fun ν4 => ⟨(by omega), ⟨pa, trivial⟩, trivial⟩) ?_
  intro ν4
  refine X_reg [0, 2, 4, 5, 6, 7, 8] [] [.c, .c, (.ld (.e 0)), (.cl (.tup [(.int .i64 x), .nili]))] (fun _ => (0 ≤ (1 : Int) ∧ (1 : Int) < (3 : Nat)) ∧ (SpecQ (BB mx) (RN mx (n+6)) 50 [(.str b)] [] fun u_ N_ => u_ = (.tup [(.int .i64 x), .nili]) ∧ N_ = []) ∧ (True)) (fun _ => [(ν2 0)]) (fun _ => [(0, (.str s)), (2, (.ptr (ν1 0) 0)), (4, (.sl (ν2 0) 0 3 (some 3) 1)), (5, (.int .u64 va)), (6, (.ifc 109 (.ptr (ν4 0) 0))), (7, (.int .i64 x)), (8, .nili)]) (fun _ => ⟨(ν2 0), true, .cells [(.str a), (.str b), (.str c)]⟩ :: ⟨(ν1 0), true, .cells [(.int .u8 0), (.int .i64 0), (.int .i64 0)]⟩ :: O) (fun _ => by kernel_rfl) (fun _ => ⟨(by omega), sAt _ _ hb pb, trivial⟩) ?_
  intro _
  refine X_reg [0, 2, 5, 6, 7, 8, 9, 10] [0] [.c, .c, (.ld (.e 0)), (.cn 1 [] (fun l_ => (.tup [(.int .i64 y), (.ifc 109 (.ptr (l_.getD 0 0) 0))])) (fun l_ => []))] (fun ν6 => (0 ≤ (2 : Int) ∧ (2 : Int) < (3 : Nat)) ∧ ((SpecQ (BB mx) (RN mx (n+6)) 50 [(.str c)] [] (RB 1 (fun l_ => (.tup [(.int .i64 y), (.ifc 109 (.ptr (l_.getD 0 0) 0))])) (fun l_ => []))) ∧ (True)) ∧ (True)) (fun ν6 => [(ν2 0)]) (fun ν6 => [(0, (.str s)), (2, (.ptr (ν1 0) 0)), (5, (.int .u64 va)), (6, (.ifc 109 (.ptr (ν4 0) 0))), (7, (.int .i64 x)), (8, .nili), (9, (.int .i64 y)), (10, (.ifc 109 (.ptr (ν6 0) 0)))]) (fun ν6 => ⟨(ν1 0), true, .cells [(.int .u8 0), (.int .i64 0), (.int .i64 0)]⟩ :: O) (fun ν6 => by kernel_rfl) (fun ν6 => ⟨(by omega), ⟨pc, trivial⟩, trivial⟩) ?_
  intro ν6
  refine X_reg [0, 2, 6, 8, 10, 11] [] [.c, .c, .c, .c, .c, .c, (.st 0)] (fun ν7 => (inR .u8 va) ∧ (True)) (fun ν7 => [(ν7 0)]) (fun ν7 => [(0, (.str s)), (2, (.ptr (ν1 0) 0)), (6, (.ifc 109 (.ptr (ν4 0) 0))), (8, .nili), (10, (.ifc 109 (.ptr (ν6 0) 0))), (11, (.ptr (ν7 0) 0))]) (fun ν7 => ⟨(ν7 0), true, .cells [(.int .u8 va), (.int .i64 x), (.int .i64 y)]⟩ :: ⟨(ν1 0), true, .cells [(.int .u8 0), (.int .i64 0), (.int .i64 0)]⟩ :: O) (fun ν7 => by kernel_rfl) (fun ν7 => ⟨(by simp only [inR]; omega), trivial⟩) ?_
  intro ν7
  refine C_assoc ?_
  refine X_reg [2, 11, 59] [] [] (fun _ => (True)) (fun _ => []) (fun _ => [(2, (.ptr (ν1 0) 0)), (11, (.ptr (ν7 0) 0)), (59, (.bool true))]) (fun _ => ⟨(ν7 0), true, .cells [(.int .u8 va), (.int .i64 x), (.int .i64 y)]⟩ :: ⟨(ν1 0), true, .cells [(.int .u8 0), (.int .i64 0), (.int .i64 0)]⟩ :: O) (fun _ => by kernel_rfl) (fun _ => trivial) ?_
  intro _
  refine C_if_t rfl ?_
  refine C_assoc ?_
  refine X_reg [2, 3] [0] [.c, (.st 1)] (fun _ => (True)) (fun _ => [(ν1 0)]) (fun _ => [(2, (.ptr (ν1 0) 0)), (3, (.int .i64 4))]) (fun _ => ⟨(ν1 0), true, .cells [(.int .u8 0), (.int .i64 0), (.int .i64 0)]⟩ :: O) (fun _ => by kernel_rfl) (fun _ => trivial) ?_
  intro _
  refine C_ret ?_
  exact RetQ_ret (vs := [(.agg [(.int .u8 0), (.int .i64 0), (.int .i64 0)]), (.int .i64 4)]) (N := []) (ResV.cell rfl (.here) rfl (ResV.t rfl ResV.nil)) ⟨by rfl, rfl⟩ (.cons _ (.refl _))
theorem s30e3 (n : Nat) (s a b c : List Nat) (h : s.length ≤ 1000000) (hw : words s [32] = [a, b, c]) (ha : a.length ≤ 1000000) (hb : b.length ≤ 1000000) (hc : c.length ≤ 1000000) (x y : Int) (v : Nat) (hv : v ≤ 255) (pa : Lib.parseUintB 8 (u8 a) = .ok v) (pb : Lib.atoiAll (u8 b) = .ok x) (pc : ATe mx (n+5) c y)  : SV mx (n+7) 30 [.str s] (.tup [.agg [.int .u8 0, .int .i64 0, .int .i64 0], .int .i64 4]) := by
  refine SpecQ_run (c := k30) rfl rfl rfl ?_
  intro ro O _
  refine X_reg [0, 2] [] [] (fun ν1 => (True)) (fun ν1 => []) (fun ν1 => [(0, (.str s)), (2, (.ptr (ν1 0) 0))]) (fun ν1 => ⟨(ν1 0), true, .cells [(.int .u8 0), (.int .i64 0), (.int .i64 0)]⟩ :: O) (fun ν1 => by kernel_rfl) (fun ν1 => trivial) ?_
  intro ν1
  refine X_reg [0, 2, 4] [] [.c, (.cn 1 [] (fun l_ => (.sl (l_.getD 0 0) 0 3 (some 3) 1)) (fun l_ => [⟨(l_.getD 0 0), true, .cells [(.str a), (.str b), (.str c)]⟩]))] (fun ν2 => ((SpecQ (BB mx) (RN mx (n+6)) 48 [(.str s), (.str [32])] [] (RB 1 (fun l_ => (.sl (l_.getD 0 0) 0 3 (some 3) 1)) (fun l_ => [⟨(l_.getD 0 0), true, .cells [(.str a), (.str b), (.str c)]⟩]))) ∧ (True)) ∧ (True)) (fun ν2 => []) (fun ν2 => [(0, (.str s)), (2, (.ptr (ν1 0) 0)), (4, (.sl (ν2 0) 0 3 (some 3) 1))]) (fun ν2 => ⟨(ν2 0), true, .cells [(.str a), (.str b), (.str c)]⟩ :: ⟨(ν1 0), true, .cells [(.int .u8 0), (.int .i64 0), (.int .i64 0)]⟩ :: O) (fun ν2 => by kernel_rfl) (fun ν2 => ⟨⟨sSplit3 _ _ _ _ _ h hw, trivial⟩, trivial⟩) ?_
  intro ν2
  refine C_assoc ?_
  refine X_reg [0, 2, 4, 16] [] [] (fun _ => (True)) (fun _ => []) (fun _ => [(0, (.str s)), (2, (.ptr (ν1 0) 0)), (4, (.sl (ν2 0) 0 3 (some 3) 1)), (16, (.bool false))]) (fun _ => ⟨(ν2 0), true, .cells [(.str a), (.str b), (.str c)]⟩ :: ⟨(ν1 0), true, .cells [(.int .u8 0), (.int .i64 0), (.int .i64 0)]⟩ :: O) (fun _ => by kernel_rfl) (fun _ => trivial) ?_
  intro _
  refine C_if_f rfl ?_
  refine C_skip ?_
  refine X_reg [0, 2, 4, 5, 6] [] [.c, .c, (.ld (.e 0)), (.cl (.tup [(.int .u64 ((v : Nat) : Int)), .nili]))] (fun _ => (0 ≤ (0 : Int) ∧ (0 : Int) < (3 : Nat)) ∧ (SpecQ (BB mx) (RN mx (n+6)) 49 [(.str a), (.int .i64 10), (.int .i64 8)] [] fun u_ N_ => u_ = (.tup [(.int .u64 ((v : Nat) : Int)), .nili]) ∧ N_ = []) ∧ (True)) (fun _ => [(ν2 0)]) (fun _ => [(0, (.str s)), (2, (.ptr (ν1 0) 0)), (4, (.sl (ν2 0) 0 3 (some 3) 1)), (5, (.int .u64 ((v : Nat) : Int))), (6, .nili)]) (fun _ => ⟨(ν2 0), true, .cells [(.str a), (.str b), (.str c)]⟩ :: ⟨(ν1 0), true, .cells [(.int .u8 0), (.int .i64 0), (.int .i64 0)]⟩ :: O) (fun _ => by kernel_rfl) (fun _ => ⟨(by omega), sPU _ _ ha pa, trivial⟩) ?_
  intro _
  refine X_reg [0, 2, 4, 5, 6, 7, 8] [] [.c, .c, (.ld (.e 0)), (.cl (.tup [(.int .i64 x), .nili]))] (fun _ => (0 ≤ (1 : Int) ∧ (1 : Int) < (3 : Nat)) ∧ (SpecQ (BB mx) (RN mx (n+6)) 50 [(.str b)] [] fun u_ N_ => u_ = (.tup [(.int .i64 x), .nili]) ∧ N_ = []) ∧ (True)) (fun _ => [(ν2 0)]) (fun _ => [(0, (.str s)), (2, (.ptr (ν1 0) 0)), (4, (.sl (ν2 0) 0 3 (some 3) 1)), (5, (.int .u64 ((v : Nat) : Int))), (6, .nili), (7, (.int .i64 x)), (8, .nili)]) (fun _ => ⟨(ν2 0), true, .cells [(.str a), (.str b), (.str c)]⟩ :: ⟨(ν1 0), true, .cells [(.int .u8 0), (.int .i64 0), (.int .i64 0)]⟩ :: O) (fun _ => by kernel_rfl) (fun _ => ⟨(by omega), sAt _ _ hb pb, trivial⟩) ?_
  intro _
  refine X_reg [0, 2, 5, 6, 7, 8, 9, 10] [0] [.c, .c, (.ld (.e 0)), (.cn 1 [] (fun l_ => (.tup [(.int .i64 y), (.ifc 109 (.ptr (l_.getD 0 0) 0))])) (fun l_ => []))] (fun ν6 => (0 ≤ (2 : Int) ∧ (2 : Int) < (3 : Nat)) ∧ ((SpecQ (BB mx) (RN mx (n+6)) 50 [(.str c)] [] (RB 1 (fun l_ => (.tup [(.int .i64 y), (.ifc 109 (.ptr (l_.getD 0 0) 0))])) (fun l_ => []))) ∧ (True)) ∧ (True)) (fun ν6 => [(ν2 0)]) (fun ν6 => [(0, (.str s)), (2, (.ptr (ν1 0) 0)), (5, (.int .u64 ((v : Nat) : Int))), (6, .nili), (7, (.int .i64 x)), (8, .nili), (9, (.int .i64 y)), (10, (.ifc 109 (.ptr (ν6 0) 0)))]) (fun ν6 => ⟨(ν1 0), true, .cells [(.int .u8 0), (.int .i64 0), (.int .i64 0)]⟩ :: O) (fun ν6 => by kernel_rfl) (fun ν6 => ⟨(by omega), ⟨pc, trivial⟩, trivial⟩) ?_
  intro ν6
  refine X_reg [0, 2, 6, 8, 10, 11] [] [.c, .c, .c, .c, .c, .c, (.st 0)] (fun ν7 => (inR .u8 ((v : Nat) : Int)) ∧ (True)) (fun ν7 => [(ν7 0)]) (fun ν7 => [(0, (.str s)), (2, (.ptr (ν1 0) 0)), (6, .nili), (8, .nili), (10, (.ifc 109 (.ptr (ν6 0) 0))), (11, (.ptr (ν7 0) 0))]) (fun ν7 => ⟨(ν7 0), true, .cells [(.int .u8 ((v : Nat) : Int)), (.int .i64 x), (.int .i64 y)]⟩ :: ⟨(ν1 0), true, .cells [(.int .u8 0), (.int .i64 0), (.int .i64 0)]⟩ :: O) (fun ν7 => by kernel_rfl) (fun ν7 => ⟨(by simp only [inR]; omega), trivial⟩) ?_
  intro ν7
  refine C_assoc ?_
  refine X_reg [2, 11, 59] [] [] (fun _ => (True)) (fun _ => []) (fun _ => [(2, (.ptr (ν1 0) 0)), (11, (.ptr (ν7 0) 0)), (59, (.bool true))]) (fun _ => ⟨(ν7 0), true, .cells [(.int .u8 ((v : Nat) : Int)), (.int .i64 x), (.int .i64 y)]⟩ :: ⟨(ν1 0), true, .cells [(.int .u8 0), (.int .i64 0), (.int .i64 0)]⟩ :: O) (fun _ => by kernel_rfl) (fun _ => trivial) ?_
  intro _
  refine C_if_t rfl ?_
  refine C_assoc ?_
  refine X_reg [2, 3] [0] [.c, (.st 1)] (fun _ => (True)) (fun _ => [(ν1 0)]) (fun _ => [(2, (.ptr (ν1 0) 0)), (3, (.int .i64 4))]) (fun _ => ⟨(ν1 0), true, .cells [(.int .u8 0), (.int .i64 0), (.int .i64 0)]⟩ :: O) (fun _ => by kernel_rfl) (fun _ => trivial) ?_
  intro _
  refine C_ret ?_
  exact RetQ_ret (vs := [(.agg [(.int .u8 0), (.int .i64 0), (.int .i64 0)]), (.int .i64 4)]) (N := []) (ResV.cell rfl (.here) rfl (ResV.t rfl ResV.nil)) ⟨by rfl, rfl⟩ (.cons _ (.refl _))
theorem s30e4 (n : Nat) (s a b c : List Nat) (h : s.length ≤ 1000000) (hw : words s [32] = [a, b, c]) (ha : a.length ≤ 1000000) (hb : b.length ≤ 1000000) (hc : c.length ≤ 1000000) (x y : Int) (va : Int) (hv : 0 ≤ va ∧ va ≤ 255) (pa : PUe mx (n+5) a va) (pb : ATe mx (n+5) b x) (pc : Lib.atoiAll (u8 c) = .ok y)  : SV mx (n+7) 30 [.str s] (.tup [.agg [.int .u8 0, .int .i64 0, .int .i64 0], .int .i64 4]) := by
  refine SpecQ_run (c := k30) rfl rfl rfl ?_
  intro ro O _
  refine X_reg [0, 2] [] [] (fun ν1 => (True)) (fun ν1 => []) (fun ν1 => [(0, (.str s)), (2, (.ptr (ν1 0) 0))]) (fun ν1 => ⟨(ν1 0), true, .cells [(.int .u8 0), (.int .i64 0), (.int .i64 0)]⟩ :: O) (fun ν1 => by kernel_rfl) (fun ν1 => trivial) ?_
  intro ν1
  refine X_reg [0, 2, 4] [] [.c, (.cn 1 [] (fun l_ => (.sl (l_.getD 0 0) 0 3 (some 3) 1)) (fun l_ => [⟨(l_.getD 0 0), true, .cells [(.str a), (.str b), (.str c)]⟩]))] (fun ν2 => ((SpecQ (BB mx) (RN mx (n+6)) 48 [(.str s), (.str [32])] [] (RB 1 (fun l_ => (.sl (l_.getD 0 0) 0 3 (some 3) 1)) (fun l_ => [⟨(l_.getD 0 0), true, .cells [(.str a), (.str b), (.str c)]⟩]))) ∧ (True)) ∧ (True)) (fun ν2 => []) (fun ν2 => [(0, (.str s)), (2, (.ptr (ν1 0) 0)), (4, (.sl (ν2 0) 0 3 (some 3) 1))]) (fun ν2 => ⟨(ν2 0), true, .cells [(.str a), (.str b), (.str c)]⟩ :: ⟨(ν1 0), true, .cells [(.int .u8 0), (.int .i64 0), (.int .i64 0)]⟩ :: O) (fun ν2 => by kernel_rfl) (fun ν2 => ⟨⟨sSplit3 _ _ _ _ _ h hw, trivial⟩, trivial⟩) ?_
  intro ν2
  refine C_assoc ?_
  refine X_reg [0, 2, 4, 16] [] [] (fun _ => (True)) (fun _ => []) (fun _ => [(0, (.str s)), (2, (.ptr (ν1 0) 0)), (4, (.sl (ν2 0) 0 3 (some 3) 1)), (16, (.bool false))]) (fun _ => ⟨(ν2 0), true, .cells [(.str a), (.str b), (.str c)]⟩ :: ⟨(ν1 0), true, .cells [(.int .u8 0), (.int .i64 0), (.int .i64 0)]⟩ :: O) (fun _ => by kernel_rfl) (fun _ => trivial) ?_
  intro _
  refine C_if_f rfl ?_
  refine C_skip ?_
  refine X_reg [0, 2, 4, 5, 6] [] [.c, .c, (.ld (.e 0)), (.cn 1 [] (fun l_ => (.tup [(.int .u64 va), (.ifc 109 (.ptr (l_.getD 0 0) 0))])) (fun l_ => []))] (fun ν4 => (0 ≤ (0 : Int) ∧ (0 : Int) < (3 : Nat)) ∧ ((SpecQ (BB mx) (RN mx (n+6)) 49 [(.str a), (.int .i64 10), (.int .i64 8)] [] (RB 1 (fun l_ => (.tup [(.int .u64 va), (.ifc 109 (.ptr (l_.getD 0 0) 0))])) (fun l_ => []))) ∧ (True)) ∧ (True)) (fun ν4 => [(ν2 0)]) (fun ν4 => [(0, (.str s)), (2, (.ptr (ν1 0) 0)), (4, (.sl (ν2 0) 0 3 (some 3) 1)), (5, (.int .u64 va)), (6, (.ifc 109 (.ptr (ν4 0) 0)))]) (fun ν4 => ⟨(ν2 0), true, .cells [(.str a), (.str b), (.str c)]⟩ :: ⟨(ν1 0), true, .cells [(.int .u8 0), (.int .i64 0), (.int .i64 0)]⟩ :: O) (fun ν4 => by kernel_rfl) (fun ν4 => ⟨(by omega), ⟨pa, trivial⟩, trivial⟩) ?_
  intro ν4
  refine X_reg [0, 2, 4, 5, 6, 7, 8] [] [.c, .c, (.ld (.e 0)), (.cn 1 [] (fun l_ => (.tup [(.int .i64 x), (.ifc 109 (.ptr (l_.getD 0 0) 0))])) (fun l_ => []))] (fun ν5 => (0 ≤ (1 : Int) ∧ (1 : Int) < (3 : Nat)) ∧ ((SpecQ (BB mx) (RN mx (n+6)) 50 [(.str b)] [] (RB 1 (fun l_ => (.tup [(.int .i64 x), (.ifc 109 (.ptr (l_.getD 0 0) 0))])) (fun l_ => []))) ∧ (True)) ∧ (True)) (fun ν5 => [(ν2 0)]) (fun ν5 => [(0, (.str s)), (2, (.ptr (ν1 0) 0)), (4, (.sl (ν2 0) 0 3 (some 3) 1)), (5, (.int .u64 va)), (6, (.ifc 109 (.ptr (ν4 0) 0))), (7, (.int .i64 x)), (8, (.ifc 109 (.ptr (ν5 0) 0)))]) (fun ν5 => ⟨(ν2 0), true, .cells [(.str a), (.str b), (.str c)]⟩ :: ⟨(ν1 0), true, .cells [(.int .u8 0), (.int .i64 0), (.int .i64 0)]⟩ :: O) (fun ν5 => by kernel_rfl) (fun ν5 => ⟨(by omega), ⟨pb, trivial⟩, trivial⟩) ?_
  intro ν5
  refine X_reg [0, 2, 5, 6, 7, 8, 9, 10] [0] [.c, .c, (.ld (.e 0)), (.cl (.tup [(.int .i64 y), .nili]))] (fun _ => (0 ≤ (2 : Int) ∧ (2 : Int) < (3 : Nat)) ∧ (SpecQ (BB mx) (RN mx (n+6)) 50 [(.str c)] [] fun u_ N_ => u_ = (.tup [(.int .i64 y), .nili]) ∧ N_ = []) ∧ (True)) (fun _ => [(ν2 0)]) (fun _ => [(0, (.str s)), (2, (.ptr (ν1 0) 0)), (5, (.int .u64 va)), (6, (.ifc 109 (.ptr (ν4 0) 0))), (7, (.int .i64 x)), (8, (.ifc 109 (.ptr (ν5 0) 0))), (9, (.int .i64 y)), (10, .nili)]) (fun _ => ⟨(ν1 0), true, .cells [(.int .u8 0), (.int .i64 0), (.int .i64 0)]⟩ :: O) (fun _ => by kernel_rfl) (fun _ => ⟨(by omega), sAt _ _ hc pc, trivial⟩) ?_
  intro _
  refine X_reg [0, 2, 6, 8, 10, 11] [] [.c, .c, .c, .c, .c, .c, (.st 0)] (fun ν7 => (inR .u8 va) ∧ (True)) (fun ν7 => [(ν7 0)]) (fun ν7 => [(0, (.str s)), (2, (.ptr (ν1 0) 0)), (6, (.ifc 109 (.ptr (ν4 0) 0))), (8, (.ifc 109 (.ptr (ν5 0) 0))), (10, .nili), (11, (.ptr (ν7 0) 0))]) (fun ν7 => ⟨(ν7 0), true, .cells [(.int .u8 va), (.int .i64 x), (.int .i64 y)]⟩ :: ⟨(ν1 0), true, .cells [(.int .u8 0), (.int .i64 0), (.int .i64 0)]⟩ :: O) (fun ν7 => by kernel_rfl) (fun ν7 => ⟨(by simp only [inR]; omega), trivial⟩) ?_
  intro ν7
  refine C_assoc ?_
  refine X_reg [2, 11, 59] [] [] (fun _ => (True)) (fun _ => []) (fun _ => [(2, (.ptr (ν1 0) 0)), (11, (.ptr (ν7 0) 0)), (59, (.bool true))]) (fun _ => ⟨(ν7 0), true, .cells [(.int .u8 va), (.int .i64 x), (.int .i64 y)]⟩ :: ⟨(ν1 0), true, .cells [(.int .u8 0), (.int .i64 0), (.int .i64 0)]⟩ :: O) (fun _ => by kernel_rfl) (fun _ => trivial) ?_
  intro _
  refine C_if_t rfl ?_
  refine C_assoc ?_
  refine X_reg [2, 3] [0] [.c, (.st 1)] (fun _ => (True)) (fun _ => [(ν1 0)]) (fun _ => [(2, (.ptr (ν1 0) 0)), (3, (.int .i64 4))]) (fun _ => ⟨(ν1 0), true, .cells [(.int .u8 0), (.int .i64 0), (.int .i64 0)]⟩ :: O) (fun _ => by kernel_rfl) (fun _ => trivial) ?_
  intro _
  refine C_ret ?_
  exact RetQ_ret (vs := [(.agg [(.int .u8 0), (.int .i64 0), (.int .i64 0)]), (.int .i64 4)]) (N := []) (ResV.cell rfl (.here) rfl (ResV.t rfl ResV.nil)) ⟨by rfl, rfl⟩ (.cons _ (.refl _))
theorem s30e5 (n : Nat) (s a b c : List Nat) (h : s.length ≤ 1000000) (hw : words s [32] = [a, b, c]) (ha : a.length ≤ 1000000) (hb : b.length ≤ 1000000) (hc : c.length ≤ 1000000) (x y : Int) (v : Nat) (hv : v ≤ 255) (pa : Lib.parseUintB 8 (u8 a) = .ok v) (pb : ATe mx (n+5) b x) (pc : Lib.atoiAll (u8 c) = .ok y)  : SV mx (n+7) 30 [.str s] (.tup [.agg [.int .u8 0, .int .i64 0, .int .i64 0], .int .i64 4]) := by
  refine SpecQ_run (c := k30) rfl rfl rfl ?_
  intro ro O _
  refine X_reg [0, 2] [] [] (fun ν1 => (True)) (fun ν1 => []) (fun ν1 => [(0, (.str s)), (2, (.ptr (ν1 0) 0))]) (fun ν1 => ⟨(ν1 0), true, .cells [(.int .u8 0), (.int .i64 0), (.int .i64 0)]⟩ :: O) (fun ν1 => by kernel_rfl) (fun ν1 => trivial) ?_
  intro ν1
  refine X_reg [0, 2, 4] [] [.c, (.cn 1 [] (fun l_ => (.sl (l_.getD 0 0) 0 3 (some 3) 1)) (fun l_ => [⟨(l_.getD 0 0), true, .cells [(.str a), (.str b), (.str c)]⟩]))] (fun ν2 => ((SpecQ (BB mx) (RN mx (n+6)) 48 [(.str s), (.str [32])] [] (RB 1 (fun l_ => (.sl (l_.getD 0 0) 0 3 (some 3) 1)) (fun l_ => [⟨(l_.getD 0 0), true, .cells [(.str a), (.str b), (.str c)]⟩]))) ∧ (True)) ∧ (True)) (fun ν2 => []) (fun ν2 => [(0, (.str s)), (2, (.ptr (ν1 0) 0)), (4, (.sl (ν2 0) 0 3 (some 3) 1))]) (fun ν2 => ⟨(ν2 0), true, .cells [(.str a), (.str b), (.str c)]⟩ :: ⟨(ν1 0), true, .cells [(.int .u8 0), (.int .i64 0), (.int .i64 0)]⟩ :: O) (fun ν2 => by kernel_rfl) (fun ν2 => ⟨⟨sSplit3 _ _ _ _ _ h hw, trivial⟩, trivial⟩) ?_
  intro ν2
  refine C_assoc ?_
  refine X_reg [0, 2, 4, 16] [] [] (fun _ => (True)) (fun _ => []) (fun _ => [(0, (.str s)), (2, (.ptr (ν1 0) 0)), (4, (.sl (ν2 0) 0 3 (some 3) 1)), (16, (.bool false))]) (fun _ => ⟨(ν2 0), true, .cells [(.str a), (.str b), (.str c)]⟩ :: ⟨(ν1 0), true, .cells [(.int .u8 0), (.int .i64 0), (.int .i64 0)]⟩ :: O) (fun _ => by kernel_rfl) (fun _ => trivial) ?_
  intro _
  refine C_if_f rfl ?_
  refine C_skip ?_
  refine X_reg [0, 2, 4, 5, 6] [] [.c, .c, (.ld (.e 0)), (.cl (.tup [(.int .u64 ((v : Nat) : Int)), .nili]))] (fun _ => (0 ≤ (0 : Int) ∧ (0 : Int) < (3 : Nat)) ∧ (SpecQ (BB mx) (RN mx (n+6)) 49 [(.str a), (.int .i64 10), (.int .i64 8)] [] fun u_ N_ => u_ = (.tup [(.int .u64 ((v : Nat) : Int)), .nili]) ∧ N_ = []) ∧ (True)) (fun _ => [(ν2 0)]) (fun _ => [(0, (.str s)), (2, (.ptr (ν1 0) 0)), (4, (.sl (ν2 0) 0 3 (some 3) 1)), (5, (.int .u64 ((v : Nat) : Int))), (6, .nili)]) (fun _ => ⟨(ν2 0), true, .cells [(.str a), (.str b), (.str c)]⟩ :: ⟨(ν1 0), true, .cells [(.int .u8 0), (.int .i64 0), (.int .i64 0)]⟩ :: O) (fun _ => by kernel_rfl) (fun _ => ⟨(by omega), sPU _ _ ha pa, trivial⟩) ?_
  intro _
  refine X_reg [0, 2, 4, 5, 6, 7, 8] [] [.c, .c, (.ld (.e 0)), (.cn 1 [] (fun l_ => (.tup [(.int .i64 x), (.ifc 109 (.ptr (l_.getD 0 0) 0))])) (fun l_ => []))] (fun ν5 => (0 ≤ (1 : Int) ∧ (1 : Int) < (3 : Nat)) ∧ ((SpecQ (BB mx) (RN mx (n+6)) 50 [(.str b)] [] (RB 1 (fun l_ => (.tup [(.int .i64 x), (.ifc 109 (.ptr (l_.getD 0 0) 0))])) (fun l_ => []))) ∧ (True)) ∧ (True)) (fun ν5 => [(ν2 0)]) (fun ν5 => [(0, (.str s)), (2, (.ptr (ν1 0) 0)), (4, (.sl (ν2 0) 0 3 (some 3) 1)), (5, (.int .u64 ((v : Nat) : Int))), (6, .nili), (7, (.int .i64 x)), (8, (.ifc 109 (.ptr (ν5 0) 0)))]) (fun ν5 => ⟨(ν2 0), true, .cells [(.str a), (.str b), (.str c)]⟩ :: ⟨(ν1 0), true, .cells [(.int .u8 0), (.int .i64 0), (.int .i64 0)]⟩ :: O) (fun ν5 => by kernel_rfl) (fun ν5 => ⟨(by omega), ⟨pb, trivial⟩, trivial⟩) ?_
  intro ν5
  refine X_reg [0, 2, 5, 6, 7, 8, 9, 10] [0] [.c, .c, (.ld (.e 0)), (.cl (.tup [(.int .i64 y), .nili]))] (fun _ => (0 ≤ (2 : Int) ∧ (2 : Int) < (3 : Nat)) ∧ (SpecQ (BB mx) (RN mx (n+6)) 50 [(.str c)] [] fun u_ N_ => u_ = (.tup [(.int .i64 y), .nili]) ∧ N_ = []) ∧ (True)) (fun _ => [(ν2 0)]) (fun _ => [(0, (.str s)), (2, (.ptr (ν1 0) 0)), (5, (.int .u64 ((v : Nat) : Int))), (6, .nili), (7, (.int .i64 x)), (8, (.ifc 109 (.ptr (ν5 0) 0))), (9, (.int .i64 y)), (10, .nili)]) (fun _ => ⟨(ν1 0), true, .cells [(.int .u8 0), (.int .i64 0), (.int .i64 0)]⟩ :: O) (fun _ => by kernel_rfl) (fun _ => ⟨(by omega), sAt _ _ hc pc, trivial⟩) ?_
  intro _
  refine X_reg [0, 2, 6, 8, 10, 11] [] [.c, .c, .c, .c, .c, .c, (.st 0)] (fun ν7 => (inR .u8 ((v : Nat) : Int)) ∧ (True)) (fun ν7 => [(ν7 0)]) (fun ν7 => [(0, (.str s)), (2, (.ptr (ν1 0) 0)), (6, .nili), (8, (.ifc 109 (.ptr (ν5 0) 0))), (10, .nili), (11, (.ptr (ν7 0) 0))]) (fun ν7 => ⟨(ν7 0), true, .cells [(.int .u8 ((v : Nat) : Int)), (.int .i64 x), (.int .i64 y)]⟩ :: ⟨(ν1 0), true, .cells [(.int .u8 0), (.int .i64 0), (.int .i64 0)]⟩ :: O) (fun ν7 => by kernel_rfl) (fun ν7 => ⟨(by simp only [inR]; omega), trivial⟩) ?_
  intro ν7
  refine C_assoc ?_
  refine X_reg [2, 11, 59] [] [] (fun _ => (True)) (fun _ => []) (fun _ => [(2, (.ptr (ν1 0) 0)), (11, (.ptr (ν7 0) 0)), (59, (.bool true))]) (fun _ => ⟨(ν7 0), true, .cells [(.int .u8 ((v : Nat) : Int)), (.int .i64 x), (.int .i64 y)]⟩ :: ⟨(ν1 0), true, .cells [(.int .u8 0), (.int .i64 0), (.int .i64 0)]⟩ :: O) (fun _ => by kernel_rfl) (fun _ => trivial) ?_
  intro _
  refine C_if_t rfl ?_
  refine C_assoc ?_
  refine X_reg [2, 3] [0] [.c, (.st 1)] (fun _ => (True)) (fun _ => [(ν1 0)]) (fun _ => [(2, (.ptr (ν1 0) 0)), (3, (.int .i64 4))]) (fun _ => ⟨(ν1 0), true, .cells [(.int .u8 0), (.int .i64 0), (.int .i64 0)]⟩ :: O) (fun _ => by kernel_rfl) (fun _ => trivial) ?_
  intro _
  refine C_ret ?_
  exact RetQ_ret (vs := [(.agg [(.int .u8 0), (.int .i64 0), (.int .i64 0)]), (.int .i64 4)]) (N := []) (ResV.cell rfl (.here) rfl (ResV.t rfl ResV.nil)) ⟨by rfl, rfl⟩ (.cons _ (.refl _))
theorem s30e6 (n : Nat) (s a b c : List Nat) (h : s.length ≤ 1000000) (hw : words s [32] = [a, b, c]) (ha : a.length ≤ 1000000) (hb : b.length ≤ 1000000) (hc : c.length ≤ 1000000) (x y : Int) (va : Int) (hv : 0 ≤ va ∧ va ≤ 255) (pa : PUe mx (n+5) a va) (pb : Lib.atoiAll (u8 b) = .ok x) (pc : Lib.atoiAll (u8 c) = .ok y)  : SV mx (n+7) 30 [.str s] (.tup [.agg [.int .u8 0, .int .i64 0, .int .i64 0], .int .i64 4]) := by
  refine SpecQ_run (c := k30) rfl rfl rfl ?_
  intro ro O _
  refine X_reg [0, 2] [] [] (fun ν1 => (True)) (fun ν1 => []) (fun ν1 => [(0, (.str s)), (2, (.ptr (ν1 0) 0))]) (fun ν1 => ⟨(ν1 0), true, .cells [(.int .u8 0), (.int .i64 0), (.int .i64 0)]⟩ :: O) (fun ν1 => by kernel_rfl) (fun ν1 => trivial) ?_
  intro ν1
  refine X_reg [0, 2, 4] [] [.c, (.cn 1 [] (fun l_ => (.sl (l_.getD 0 0) 0 3 (some 3) 1)) (fun l_ => [⟨(l_.getD 0 0), true, .cells [(.str a), (.str b), (.str c)]⟩]))] (fun ν2 => ((SpecQ (BB mx) (RN mx (n+6)) 48 [(.str s), (.str [32])] [] (RB 1 (fun l_ => (.sl (l_.getD 0 0) 0 3 (some 3) 1)) (fun l_ => [⟨(l_.getD 0 0), true, .cells [(.str a), (.str b), (.str c)]⟩]))) ∧ (True)) ∧ (True)) (fun ν2 => []) (fun ν2 => [(0, (.str s)), (2, (.ptr (ν1 0) 0)), (4, (.sl (ν2 0) 0 3 (some 3) 1))]) (fun ν2 => ⟨(ν2 0), true, .cells [(.str a), (.str b), (.str c)]⟩ :: ⟨(ν1 0), true, .cells [(.int .u8 0), (.int .i64 0), (.int .i64 0)]⟩ :: O) (fun ν2 => by kernel_rfl) (fun ν2 => ⟨⟨sSplit3 _ _ _ _ _ h hw, trivial⟩, trivial⟩) ?_
  intro ν2
  refine C_assoc ?_
  refine X_reg [0, 2, 4, 16] [] [] (fun _ => (True)) (fun _ => []) (fun _ => [(0, (.str s)), (2, (.ptr (ν1 0) 0)), (4, (.sl (ν2 0) 0 3 (some 3) 1)), (16, (.bool false))]) (fun _ => ⟨(ν2 0), true, .cells [(.str a), (.str b), (.str c)]⟩ :: ⟨(ν1 0), true, .cells [(.int .u8 0), (.int .i64 0), (.int .i64 0)]⟩ :: O) (fun _ => by kernel_rfl) (fun _ => trivial) ?_
  intro _
  refine C_if_f rfl ?_
  refine C_skip ?_
  refine X_reg [0, 2, 4, 5, 6] [] [.c, .c, (.ld (.e 0)), (.cn 1 [] (fun l_ => (.tup [(.int .u64 va), (.ifc 109 (.ptr (l_.getD 0 0) 0))])) (fun l_ => []))] (fun ν4 => (0 ≤ (0 : Int) ∧ (0 : Int) < (3 : Nat)) ∧ ((SpecQ (BB mx) (RN mx (n+6)) 49 [(.str a), (.int .i64 10), (.int .i64 8)] [] (RB 1 (fun l_ => (.tup [(.int .u64 va), (.ifc 109 (.ptr (l_.getD 0 0) 0))])) (fun l_ => []))) ∧ (True)) ∧ (True)) (fun ν4 => [(ν2 0)]) (fun ν4 => [(0, (.str s)), (2, (.ptr (ν1 0) 0)), (4, (.sl (ν2 0) 0 3 (some 3) 1)), (5, (.int .u64 va)), (6, (.ifc 109 (.ptr (ν4 0) 0)))]) (fun ν4 => ⟨(ν2 0), true, .cells [(.str a), (.str b), (.str c)]⟩ :: ⟨(ν1 0), true, .cells [(.int .u8 0), (.int .i64 0), (.int .i64 0)]⟩ :: O) (fun ν4 => by kernel_rfl) (fun ν4 => ⟨(by omega), ⟨pa, trivial⟩, trivial⟩) ?_
  intro ν4
  refine X_reg [0, 2, 4, 5, 6, 7, 8] [] [.c, .c, (.ld (.e 0)), (.cl (.tup [(.int .i64 x), .nili]))] (fun _ => (0 ≤ (1 : Int) ∧ (1 : Int) < (3 : Nat)) ∧ (SpecQ (BB mx) (RN mx (n+6)) 50 [(.str b)] [] fun u_ N_ => u_ = (.tup [(.int .i64 x), .nili]) ∧ N_ = []) ∧ (True)) (fun _ => [(ν2 0)]) (fun _ => [(0, (.str s)), (2, (.ptr (ν1 0) 0)), (4, (.sl (ν2 0) 0 3 (some 3) 1)), (5, (.int .u64 va)), (6, (.ifc 109 (.ptr (ν4 0) 0))), (7, (.int .i64 x)), (8, .nili)]) (fun _ => ⟨(ν2 0), true, .cells [(.str a), (.str b), (.str c)]⟩ :: ⟨(ν1 0), true, .cells [(.int .u8 0), (.int .i64 0), (.int .i64 0)]⟩ :: O) (fun _ => by kernel_rfl) (fun _ => ⟨(by omega), sAt _ _ hb pb, trivial⟩) ?_
  intro _
  refine X_reg [0, 2, 5, 6, 7, 8, 9, 10] [0] [.c, .c, (.ld (.e 0)), (.cl (.tup [(.int .i64 y), .nili]))] (fun _ => (0 ≤ (2 : Int) ∧ (2 : Int) < (3 : Nat)) ∧ (SpecQ (BB mx) (RN mx (n+6)) 50 [(.str c)] [] fun u_ N_ => u_ = (.tup [(.int .i64 y), .nili]) ∧ N_ = []) ∧ (True)) (fun _ => [(ν2 0)]) (fun _ => [(0, (.str s)), (2, (.ptr (ν1 0) 0)), (5, (.int .u64 va)), (6, (.ifc 109 (.ptr (ν4 0) 0))), (7, (.int .i64 x)), (8, .nili), (9, (.int .i64 y)), (10, .nili)]) (fun _ => ⟨(ν1 0), true, .cells [(.int .u8 0), (.int .i64 0), (.int .i64 0)]⟩ :: O) (fun _ => by kernel_rfl) (fun _ => ⟨(by omega), sAt _ _ hc pc, trivial⟩) ?_
  intro _
  refine X_reg [0, 2, 6, 8, 10, 11] [] [.c, .c, .c, .c, .c, .c, (.st 0)] (fun ν7 => (inR .u8 va) ∧ (True)) (fun ν7 => [(ν7 0)]) (fun ν7 => [(0, (.str s)), (2, (.ptr (ν1 0) 0)), (6, (.ifc 109 (.ptr (ν4 0) 0))), (8, .nili), (10, .nili), (11, (.ptr (ν7 0) 0))]) (fun ν7 => ⟨(ν7 0), true, .cells [(.int .u8 va), (.int .i64 x), (.int .i64 y)]⟩ :: ⟨(ν1 0), true, .cells [(.int .u8 0), (.int .i64 0), (.int .i64 0)]⟩ :: O) (fun ν7 => by kernel_rfl) (fun ν7 => ⟨(by simp only [inR]; omega), trivial⟩) ?_
  intro ν7
  refine C_assoc ?_
  refine X_reg [2, 11, 59] [] [] (fun _ => (True)) (fun _ => []) (fun _ => [(2, (.ptr (ν1 0) 0)), (11, (.ptr (ν7 0) 0)), (59, (.bool true))]) (fun _ => ⟨(ν7 0), true, .cells [(.int .u8 va), (.int .i64 x), (.int .i64 y)]⟩ :: ⟨(ν1 0), true, .cells [(.int .u8 0), (.int .i64 0), (.int .i64 0)]⟩ :: O) (fun _ => by kernel_rfl) (fun _ => trivial) ?_
  intro _
  refine C_if_t rfl ?_
  refine C_assoc ?_
  refine X_reg [2, 3] [0] [.c, (.st 1)] (fun _ => (True)) (fun _ => [(ν1 0)]) (fun _ => [(2, (.ptr (ν1 0) 0)), (3, (.int .i64 4))]) (fun _ => ⟨(ν1 0), true, .cells [(.int .u8 0), (.int .i64 0), (.int .i64 0)]⟩ :: O) (fun _ => by kernel_rfl) (fun _ => trivial) ?_
  intro _
  refine C_ret ?_
  exact RetQ_ret (vs := [(.agg [(.int .u8 0), (.int .i64 0), (.int .i64 0)]), (.int .i64 4)]) (N := []) (ResV.cell rfl (.here) rfl (ResV.t rfl ResV.nil)) ⟨by rfl, rfl⟩ (.cons _ (.refl _))
theorem s30n (n : Nat) (s a b c : List Nat) (h : s.length ≤ 1000000) (hw : words s [32] = [a, b, c]) (ha : a.length ≤ 1000000) (hb : b.length ≤ 1000000) (hc : c.length ≤ 1000000) (x y : Int) (v : Nat) (hv : v ≤ 255) (pa : Lib.parseUintB 8 (u8 a) = .ok v) (pb : Lib.atoiAll (u8 b) = .ok x) (pc : Lib.atoiAll (u8 c) = .ok y) (S : List Nat) (hS : SV mx (n+6) 31 [.agg [.int .u8 ((v : Nat) : Int), .int .i64 x, .int .i64 y]] (.str S)) (he : S ≠ s) : SV mx (n+7) 30 [.str s] (.tup [.agg [.int .u8 0, .int .i64 0, .int .i64 0], .int .i64 4]) := by
  refine SpecQ_run (c := k30) rfl rfl rfl ?_
  intro ro O _
  refine X_reg [0, 2] [] [] (fun ν1 => (True)) (fun ν1 => []) (fun ν1 => [(0, (.str s)), (2, (.ptr (ν1 0) 0))]) (fun ν1 => ⟨(ν1 0), true, .cells [(.int .u8 0), (.int .i64 0), (.int .i64 0)]⟩ :: O) (fun ν1 => by kernel_rfl) (fun ν1 => trivial) ?_
  intro ν1
  refine X_reg [0, 2, 4] [] [.c, (.cn 1 [] (fun l_ => (.sl (l_.getD 0 0) 0 3 (some 3) 1)) (fun l_ => [⟨(l_.getD 0 0), true, .cells [(.str a), (.str b), (.str c)]⟩]))] (fun ν2 => ((SpecQ (BB mx) (RN mx (n+6)) 48 [(.str s), (.str [32])] [] (RB 1 (fun l_ => (.sl (l_.getD 0 0) 0 3 (some 3) 1)) (fun l_ => [⟨(l_.getD 0 0), true, .cells [(.str a), (.str b), (.str c)]⟩]))) ∧ (True)) ∧ (True)) (fun ν2 => []) (fun ν2 => [(0, (.str s)), (2, (.ptr (ν1 0) 0)), (4, (.sl (ν2 0) 0 3 (some 3) 1))]) (fun ν2 => ⟨(ν2 0), true, .cells [(.str a), (.str b), (.str c)]⟩ :: ⟨(ν1 0), true, .cells [(.int .u8 0), (.int .i64 0), (.int .i64 0)]⟩ :: O) (fun ν2 => by kernel_rfl) (fun ν2 => ⟨⟨sSplit3 _ _ _ _ _ h hw, trivial⟩, trivial⟩) ?_
  intro ν2
  refine C_assoc ?_
  refine X_reg [0, 2, 4, 16] [] [] (fun _ => (True)) (fun _ => []) (fun _ => [(0, (.str s)), (2, (.ptr (ν1 0) 0)), (4, (.sl (ν2 0) 0 3 (some 3) 1)), (16, (.bool false))]) (fun _ => ⟨(ν2 0), true, .cells [(.str a), (.str b), (.str c)]⟩ :: ⟨(ν1 0), true, .cells [(.int .u8 0), (.int .i64 0), (.int .i64 0)]⟩ :: O) (fun _ => by kernel_rfl) (fun _ => trivial) ?_
  intro _
  refine C_if_f rfl ?_
  refine C_skip ?_
  refine X_reg [0, 2, 4, 5, 6] [] [.c, .c, (.ld (.e 0)), (.cl (.tup [(.int .u64 ((v : Nat) : Int)), .nili]))] (fun _ => (0 ≤ (0 : Int) ∧ (0 : Int) < (3 : Nat)) ∧ (SpecQ (BB mx) (RN mx (n+6)) 49 [(.str a), (.int .i64 10), (.int .i64 8)] [] fun u_ N_ => u_ = (.tup [(.int .u64 ((v : Nat) : Int)), .nili]) ∧ N_ = []) ∧ (True)) (fun _ => [(ν2 0)]) (fun _ => [(0, (.str s)), (2, (.ptr (ν1 0) 0)), (4, (.sl (ν2 0) 0 3 (some 3) 1)), (5, (.int .u64 ((v : Nat) : Int))), (6, .nili)]) (fun _ => ⟨(ν2 0), true, .cells [(.str a), (.str b), (.str c)]⟩ :: ⟨(ν1 0), true, .cells [(.int .u8 0), (.int .i64 0), (.int .i64 0)]⟩ :: O) (fun _ => by kernel_rfl) (fun _ => ⟨(by omega), sPU _ _ ha pa, trivial⟩) ?_
  intro _
  refine X_reg [0, 2, 4, 5, 6, 7, 8] [] [.c, .c, (.ld (.e 0)), (.cl (.tup [(.int .i64 x), .nili]))] (fun _ => (0 ≤ (1 : Int) ∧ (1 : Int) < (3 : Nat)) ∧ (SpecQ (BB mx) (RN mx (n+6)) 50 [(.str b)] [] fun u_ N_ => u_ = (.tup [(.int .i64 x), .nili]) ∧ N_ = []) ∧ (True)) (fun _ => [(ν2 0)]) (fun _ => [(0, (.str s)), (2, (.ptr (ν1 0) 0)), (4, (.sl (ν2 0) 0 3 (some 3) 1)), (5, (.int .u64 ((v : Nat) : Int))), (6, .nili), (7, (.int .i64 x)), (8, .nili)]) (fun _ => ⟨(ν2 0), true, .cells [(.str a), (.str b), (.str c)]⟩ :: ⟨(ν1 0), true, .cells [(.int .u8 0), (.int .i64 0), (.int .i64 0)]⟩ :: O) (fun _ => by kernel_rfl) (fun _ => ⟨(by omega), sAt _ _ hb pb, trivial⟩) ?_
  intro _
  refine X_reg [0, 2, 5, 6, 7, 8, 9, 10] [0] [.c, .c, (.ld (.e 0)), (.cl (.tup [(.int .i64 y), .nili]))] (fun _ => (0 ≤ (2 : Int) ∧ (2 : Int) < (3 : Nat)) ∧ (SpecQ (BB mx) (RN mx (n+6)) 50 [(.str c)] [] fun u_ N_ => u_ = (.tup [(.int .i64 y), .nili]) ∧ N_ = []) ∧ (True)) (fun _ => [(ν2 0)]) (fun _ => [(0, (.str s)), (2, (.ptr (ν1 0) 0)), (5, (.int .u64 ((v : Nat) : Int))), (6, .nili), (7, (.int .i64 x)), (8, .nili), (9, (.int .i64 y)), (10, .nili)]) (fun _ => ⟨(ν1 0), true, .cells [(.int .u8 0), (.int .i64 0), (.int .i64 0)]⟩ :: O) (fun _ => by kernel_rfl) (fun _ => ⟨(by omega), sAt _ _ hc pc, trivial⟩) ?_
  intro _
  refine X_reg [0, 2, 6, 8, 10, 11] [] [.c, .c, .c, .c, .c, .c, (.st 0)] (fun ν7 => (inR .u8 ((v : Nat) : Int)) ∧ (True)) (fun ν7 => [(ν7 0)]) (fun ν7 => [(0, (.str s)), (2, (.ptr (ν1 0) 0)), (6, .nili), (8, .nili), (10, .nili), (11, (.ptr (ν7 0) 0))]) (fun ν7 => ⟨(ν7 0), true, .cells [(.int .u8 ((v : Nat) : Int)), (.int .i64 x), (.int .i64 y)]⟩ :: ⟨(ν1 0), true, .cells [(.int .u8 0), (.int .i64 0), (.int .i64 0)]⟩ :: O) (fun ν7 => by kernel_rfl) (fun ν7 => ⟨(by simp only [inR]; omega), trivial⟩) ?_
  intro ν7
  refine C_assoc ?_
  refine X_reg [2, 11, 59] [] [.c, .c, .c, .c, .c, .c, .c, .c, .c, .c, .c, (.ld (.e 0)), (.cl (.str S))] (fun _ => (SpecQ (BB mx) (RN mx (n+6)) 31 [(.agg [(.int .u8 ((v : Nat) : Int)), (.int .i64 x), (.int .i64 y)])] [] fun u_ N_ => u_ = (.str S) ∧ N_ = []) ∧ (True)) (fun _ => [(ν7 0)]) (fun _ => [(2, (.ptr (ν1 0) 0)), (11, (.ptr (ν7 0) 0)), (59, (.bool (decide (S ≠ s))))]) (fun _ => ⟨(ν7 0), true, .cells [(.int .u8 ((v : Nat) : Int)), (.int .i64 x), (.int .i64 y)]⟩ :: ⟨(ν1 0), true, .cells [(.int .u8 0), (.int .i64 0), (.int .i64 0)]⟩ :: O) (fun _ => by kernel_rfl) (fun _ => ⟨hS, trivial⟩) ?_
  intro _
  refine C_if_t (x := _) (xp_t (decide_eq_true he)) ?_
  refine C_assoc ?_
  refine X_reg [2, 3] [0] [.c, (.st 1)] (fun _ => (True)) (fun _ => [(ν1 0)]) (fun _ => [(2, (.ptr (ν1 0) 0)), (3, (.int .i64 4))]) (fun _ => ⟨(ν1 0), true, .cells [(.int .u8 0), (.int .i64 0), (.int .i64 0)]⟩ :: O) (fun _ => by kernel_rfl) (fun _ => trivial) ?_
  intro _
  refine C_ret ?_
  exact RetQ_ret (vs := [(.agg [(.int .u8 0), (.int .i64 0), (.int .i64 0)]), (.int .i64 4)]) (N := []) (ResV.cell rfl (.here) rfl (ResV.t rfl ResV.nil)) ⟨by rfl, rfl⟩ (.cons _ (.refl _))
theorem s30y (n : Nat) (s a b c : List Nat) (h : s.length ≤ 1000000) (hw : words s [32] = [a, b, c]) (ha : a.length ≤ 1000000) (hb : b.length ≤ 1000000) (hc : c.length ≤ 1000000) (x y : Int) (v : Nat) (hv : v ≤ 255) (pa : Lib.parseUintB 8 (u8 a) = .ok v) (pb : Lib.atoiAll (u8 b) = .ok x) (pc : Lib.atoiAll (u8 c) = .ok y) (S : List Nat) (hS : SV mx (n+6) 31 [.agg [.int .u8 ((v : Nat) : Int), .int .i64 x, .int .i64 y]] (.str S)) (he : S = s) : SV mx (n+7) 30 [.str s] (.tup [.agg [.int .u8 ((v : Nat) : Int), .int .i64 x, .int .i64 y], .int .i64 0]) := by
  refine SpecQ_run (c := k30) rfl rfl rfl ?_
  intro ro O _
  refine X_reg [0, 2] [] [] (fun ν1 => (True)) (fun ν1 => []) (fun ν1 => [(0, (.str s)), (2, (.ptr (ν1 0) 0))]) (fun ν1 => ⟨(ν1 0), true, .cells [(.int .u8 0), (.int .i64 0), (.int .i64 0)]⟩ :: O) (fun ν1 => by kernel_rfl) (fun ν1 => trivial) ?_
  intro ν1
  refine X_reg [0, 2, 4] [] [.c, (.cn 1 [] (fun l_ => (.sl (l_.getD 0 0) 0 3 (some 3) 1)) (fun l_ => [⟨(l_.getD 0 0), true, .cells [(.str a), (.str b), (.str c)]⟩]))] (fun ν2 => ((SpecQ (BB mx) (RN mx (n+6)) 48 [(.str s), (.str [32])] [] (RB 1 (fun l_ => (.sl (l_.getD 0 0) 0 3 (some 3) 1)) (fun l_ => [⟨(l_.getD 0 0), true, .cells [(.str a), (.str b), (.str c)]⟩]))) ∧ (True)) ∧ (True)) (fun ν2 => []) (fun ν2 => [(0, (.str s)), (2, (.ptr (ν1 0) 0)), (4, (.sl (ν2 0) 0 3 (some 3) 1))]) (fun ν2 => ⟨(ν2 0), true, .cells [(.str a), (.str b), (.str c)]⟩ :: ⟨(ν1 0), true, .cells [(.int .u8 0), (.int .i64 0), (.int .i64 0)]⟩ :: O) (fun ν2 => by kernel_rfl) (fun ν2 => ⟨⟨sSplit3 _ _ _ _ _ h hw, trivial⟩, trivial⟩) ?_
  intro ν2
  refine C_assoc ?_
  refine X_reg [0, 2, 4, 16] [] [] (fun _ => (True)) (fun _ => []) (fun _ => [(0, (.str s)), (2, (.ptr (ν1 0) 0)), (4, (.sl (ν2 0) 0 3 (some 3) 1)), (16, (.bool false))]) (fun _ => ⟨(ν2 0), true, .cells [(.str a), (.str b), (.str c)]⟩ :: ⟨(ν1 0), true, .cells [(.int .u8 0), (.int .i64 0), (.int .i64 0)]⟩ :: O) (fun _ => by kernel_rfl) (fun _ => trivial) ?_
  intro _
  refine C_if_f rfl ?_
  refine C_skip ?_
  refine X_reg [0, 2, 4, 5, 6] [] [.c, .c, (.ld (.e 0)), (.cl (.tup [(.int .u64 ((v : Nat) : Int)), .nili]))] (fun _ => (0 ≤ (0 : Int) ∧ (0 : Int) < (3 : Nat)) ∧ (SpecQ (BB mx) (RN mx (n+6)) 49 [(.str a), (.int .i64 10), (.int .i64 8)] [] fun u_ N_ => u_ = (.tup [(.int .u64 ((v : Nat) : Int)), .nili]) ∧ N_ = []) ∧ (True)) (fun _ => [(ν2 0)]) (fun _ => [(0, (.str s)), (2, (.ptr (ν1 0) 0)), (4, (.sl (ν2 0) 0 3 (some 3) 1)), (5, (.int .u64 ((v : Nat) : Int))), (6, .nili)]) (fun _ => ⟨(ν2 0), true, .cells [(.str a), (.str b), (.str c)]⟩ :: ⟨(ν1 0), true, .cells [(.int .u8 0), (.int .i64 0), (.int .i64 0)]⟩ :: O) (fun _ => by kernel_rfl) (fun _ => ⟨(by omega), sPU _ _ ha pa, trivial⟩) ?_
  intro _
  refine X_reg [0, 2, 4, 5, 6, 7, 8] [] [.c, .c, (.ld (.e 0)), (.cl (.tup [(.int .i64 x), .nili]))] (fun _ => (0 ≤ (1 : Int) ∧ (1 : Int) < (3 : Nat)) ∧ (SpecQ (BB mx) (RN mx (n+6)) 50 [(.str b)] [] fun u_ N_ => u_ = (.tup [(.int .i64 x), .nili]) ∧ N_ = []) ∧ (True)) (fun _ => [(ν2 0)]) (fun _ => [(0, (.str s)), (2, (.ptr (ν1 0) 0)), (4, (.sl (ν2 0) 0 3 (some 3) 1)), (5, (.int .u64 ((v : Nat) : Int))), (6, .nili), (7, (.int .i64 x)), (8, .nili)]) (fun _ => ⟨(ν2 0), true, .cells [(.str a), (.str b), (.str c)]⟩ :: ⟨(ν1 0), true, .cells [(.int .u8 0), (.int .i64 0), (.int .i64 0)]⟩ :: O) (fun _ => by kernel_rfl) (fun _ => ⟨(by omega), sAt _ _ hb pb, trivial⟩) ?_
  intro _
  refine X_reg [0, 2, 5, 6, 7, 8, 9, 10] [0] [.c, .c, (.ld (.e 0)), (.cl (.tup [(.int .i64 y), .nili]))] (fun _ => (0 ≤ (2 : Int) ∧ (2 : Int) < (3 : Nat)) ∧ (SpecQ (BB mx) (RN mx (n+6)) 50 [(.str c)] [] fun u_ N_ => u_ = (.tup [(.int .i64 y), .nili]) ∧ N_ = []) ∧ (True)) (fun _ => [(ν2 0)]) (fun _ => [(0, (.str s)), (2, (.ptr (ν1 0) 0)), (5, (.int .u64 ((v : Nat) : Int))), (6, .nili), (7, (.int .i64 x)), (8, .nili), (9, (.int .i64 y)), (10, .nili)]) (fun _ => ⟨(ν1 0), true, .cells [(.int .u8 0), (.int .i64 0), (.int .i64 0)]⟩ :: O) (fun _ => by kernel_rfl) (fun _ => ⟨(by omega), sAt _ _ hc pc, trivial⟩) ?_
  intro _
  refine X_reg [0, 2, 6, 8, 10, 11] [] [.c, .c, .c, .c, .c, .c, (.st 0)] (fun ν7 => (inR .u8 ((v : Nat) : Int)) ∧ (True)) (fun ν7 => [(ν7 0)]) (fun ν7 => [(0, (.str s)), (2, (.ptr (ν1 0) 0)), (6, .nili), (8, .nili), (10, .nili), (11, (.ptr (ν7 0) 0))]) (fun ν7 => ⟨(ν7 0), true, .cells [(.int .u8 ((v : Nat) : Int)), (.int .i64 x), (.int .i64 y)]⟩ :: ⟨(ν1 0), true, .cells [(.int .u8 0), (.int .i64 0), (.int .i64 0)]⟩ :: O) (fun ν7 => by kernel_rfl) (fun ν7 => ⟨(by simp only [inR]; omega), trivial⟩) ?_
  intro ν7
  refine C_assoc ?_
  refine X_reg [2, 11, 59] [] [.c, .c, .c, .c, .c, .c, .c, .c, .c, .c, .c, (.ld (.e 0)), (.cl (.str S))] (fun _ => (SpecQ (BB mx) (RN mx (n+6)) 31 [(.agg [(.int .u8 ((v : Nat) : Int)), (.int .i64 x), (.int .i64 y)])] [] fun u_ N_ => u_ = (.str S) ∧ N_ = []) ∧ (True)) (fun _ => [(ν7 0)]) (fun _ => [(2, (.ptr (ν1 0) 0)), (11, (.ptr (ν7 0) 0)), (59, (.bool (decide (S ≠ s))))]) (fun _ => ⟨(ν7 0), true, .cells [(.int .u8 ((v : Nat) : Int)), (.int .i64 x), (.int .i64 y)]⟩ :: ⟨(ν1 0), true, .cells [(.int .u8 0), (.int .i64 0), (.int .i64 0)]⟩ :: O) (fun _ => by kernel_rfl) (fun _ => ⟨hS, trivial⟩) ?_
  intro _
  refine C_if_f (x := _) (xp_f (decide_eq_false (not_not_intro he))) ?_
  refine C_skip ?_
  refine X_reg [2, 3] [0] [(.ld (.e 0)), (.st 1)] (fun _ => (True)) (fun _ => [(ν7 0), (ν1 0)]) (fun _ => [(2, (.ptr (ν1 0) 0)), (3, (.int .i64 0))]) (fun _ => ⟨(ν1 0), true, .cells [(.int .u8 ((v : Nat) : Int)), (.int .i64 x), (.int .i64 y)]⟩ :: O) (fun _ => by kernel_rfl) (fun _ => trivial) ?_
  intro _
  refine W_ret ?_
  exact RetQ_ret (vs := [(.agg [(.int .u8 ((v : Nat) : Int)), (.int .i64 x), (.int .i64 y)]), (.int .i64 0)]) (N := []) (ResV.cell rfl (.here) rfl (ResV.t rfl ResV.nil)) ⟨by rfl, rfl⟩ (.cons _ (.refl _))
end Vm
end Go.Proofs.YtgncjbodicabnaaDoor

