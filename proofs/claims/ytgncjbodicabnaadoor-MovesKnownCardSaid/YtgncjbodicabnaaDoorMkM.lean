/-
  Numbers as texts: what the program's and the library's functions give, as the machine runs them.
  strconv.Itoa at numbers of at most five digits, as the machine runs it.
-/
import Derived.Test.YtgncjbodicabnaaDoorMkA
set_option linter.unusedSimpArgs false
set_option linter.unusedVariables false

namespace Go.Proofs.YtgncjbodicabnaaDoor
namespace Vm
variable {mx : Int}
open Go Go.Vm Go.Vm.W
set_option maxRecDepth 100000
set_option linter.unusedVariables false
set_option linter.unusedSimpArgs false
attribute [local irreducible] W WO SpecQ SpecW runM

theorem s14t (n : Nat) : SV mx (n+1) 14 [] (.bool true) := memo_spec rfl
/-- The digits of a number. -/
def N (u : Nat) : List Nat := (Lib.decDigits u).map UInt8.toNat
theorem u8n {k : Nat} (h : k < 256) : (UInt8.ofNat k).toNat = k := by simp [UInt8.toNat_ofNat, Nat.mod_eq_of_lt h]
theorem N_lt {u : Nat} (h : u < 10) : N u = [48 + u] := by
  unfold N
  rw [Lib.decDigits, dif_pos h, List.map_cons, List.map_nil, u8n (by omega)]
theorem N_ge {u : Nat} (h : 10 ≤ u) : N u = N (u / 10) ++ [48 + u % 10] := by
  unfold N
  rw [Lib.decDigits, dif_neg (by omega), List.map_append, List.map_cons, List.map_nil, u8n (by omega)]
def Z (n : Int) : List Nat := if n < 0 then 45 :: N (-n).toNat else N n.toNat
theorem N_len : ∀ (k u : Nat), u < 10 ^ (k + 1) → (N u).length ≤ k + 1
  | 0, u, h => by rw [N_lt (by omega)]; simp
  | k + 1, u, h => by
    by_cases h1 : u < 10
    · rw [N_lt h1]; simp
    · rw [N_ge (by omega), List.length_append]
      have := N_len k (u / 10) (by rw [Nat.pow_succ] at h; omega)
      simp
      omega
theorem Z_len {n : Int} (h : -100000 < n ∧ n < 100000) : (Z n).length ≤ 6 := by
  unfold Z
  split
  · have := N_len 4 (-n).toNat (by omega)
    simp; omega
  · have := N_len 4 n.toNat (by omega)
    omega
theorem s47a (n : Nat) (x : Int) (h : 0 ≤ x ∧ x < 10) : SV mx (n+1) 47 [.int .i64 x] (.str [(48 + x).toNat]) := by
  refine SpecQ_run (c := k47) rfl rfl rfl ?_
  intro ro O _
  refine X_reg [0] [] [] (fun _ => (True)) (fun _ => []) (fun _ => [(0, (.int .i64 x))]) (fun _ => O) (fun _ => by kernel_rfl) (fun _ => trivial) ?_
  intro _
  refine C_assoc ?_
  refine X_reg [0, 4] [] [] (fun _ => (True)) (fun _ => []) (fun _ => [(0, (.int .i64 x)), (4, (.bool (decide (x < 0))))]) (fun _ => O) (fun _ => by kernel_rfl) (fun _ => trivial) ?_
  intro _
  refine C_if_f (x := _) (xp_f (by rw [decide_eq_false_iff_not]; omega)) ?_
  refine C_skip ?_
  refine C_assoc ?_
  refine X_reg [0, 10] [] [] (fun _ => (True)) (fun _ => []) (fun _ => [(0, (.int .i64 x)), (10, (.bool (decide (x < 10))))]) (fun _ => O) (fun _ => by kernel_rfl) (fun _ => trivial) ?_
  intro _
  refine C_if_t (x := _) (xp_t (by rw [decide_eq_true_eq]; omega)) ?_
  refine C_assoc ?_
  refine X_reg [2] [0] [.c, .c, .c, .c, (.ldt (.e 0) (.str [((48 + x)).toNat]))] (fun ν4 => (inR .i64 (48 + x)) ∧ (inR .u8 (48 + x)) ∧ (1 ≤ 1 ∧ u8s [(.int .u8 (48 + x))] = some [((48 + x)).toNat]) ∧ (True)) (fun ν4 => [(ν4 0)]) (fun ν4 => [(2, (.str [((48 + x)).toNat]))]) (fun ν4 => O) (fun ν4 => by kernel_rfl) (fun ν4 => ⟨(by simp only [inR]; omega), (by simp only [inR]; omega), ⟨by decide, u8s_cons (by omega) (by omega) (u8s_nil)⟩, trivial⟩) ?_
  intro ν4
  refine C_ret ?_
  exact RetQ_ret (vs := [(.str [((48 + x)).toNat])]) (N := []) (ResV.t rfl ResV.nil) ⟨by rfl, rfl⟩ (.refl _)
theorem s47b (n : Nat) (x : Int) (T : List Nat) (h : 10 ≤ x ∧ x ≤ 1000000) (hT : T.length ≤ 100) (ih : SV mx n 47 [.int .i64 (x / 10)] (.str T)) : SV mx (n+1) 47 [.int .i64 x] (.str (T ++ [(48 + x % 10).toNat])) := by
  refine SpecQ_run (c := k47) rfl rfl rfl ?_
  intro ro O _
  refine X_reg [0] [] [] (fun _ => (True)) (fun _ => []) (fun _ => [(0, (.int .i64 x))]) (fun _ => O) (fun _ => by kernel_rfl) (fun _ => trivial) ?_
  intro _
  refine C_assoc ?_
  refine X_reg [0, 4] [] [] (fun _ => (True)) (fun _ => []) (fun _ => [(0, (.int .i64 x)), (4, (.bool (decide (x < 0))))]) (fun _ => O) (fun _ => by kernel_rfl) (fun _ => trivial) ?_
  intro _
  refine C_if_f (x := _) (xp_f (by rw [decide_eq_false_iff_not]; omega)) ?_
  refine C_skip ?_
  refine C_assoc ?_
  refine X_reg [0, 10] [] [] (fun _ => (True)) (fun _ => []) (fun _ => [(0, (.int .i64 x)), (10, (.bool (decide (x < 10))))]) (fun _ => O) (fun _ => by kernel_rfl) (fun _ => trivial) ?_
  intro _
  refine C_if_f (x := _) (xp_f (by rw [decide_eq_false_iff_not]; omega)) ?_
  refine C_skip ?_
  refine X_reg [2] [0] [.c, .w, (.cl (.str T)), .c, .w, .c, .c, .c, (.ldt (.e 0) (.str [((48 + (x % 10))).toNat]))] (fun ν4 => (0 ≤ x ∧ 0 < (10 : Int) ∧ inR .i64 (x / 10)) ∧ (SpecQ (BB mx) (RN mx n) 47 [(.int .i64 (x / 10))] [] fun u_ N_ => u_ = (.str T) ∧ N_ = []) ∧ (0 ≤ x ∧ 0 < (10 : Int)) ∧ (inR .i64 (48 + (x % 10))) ∧ (inR .u8 (48 + (x % 10))) ∧ (1 ≤ 1 ∧ u8s [(.int .u8 (48 + (x % 10)))] = some [((48 + (x % 10))).toNat]) ∧ (T.length + [((48 + (x % 10))).toNat].length ≤ 4000000000) ∧ (True)) (fun ν4 => [(ν4 0)]) (fun ν4 => [(2, (.str (T ++ [((48 + (x % 10))).toNat])))]) (fun ν4 => O) (fun ν4 => by kernel_rfl) (fun ν4 => ⟨(by simp only [inR]; omega), ih, (by omega), (by simp only [inR]; omega), (by simp only [inR]; omega), ⟨by decide, u8s_cons (by omega) (by omega) (u8s_nil)⟩, (by first | omega | (simp only [List.length_append, List.length_cons, List.length_nil]; omega)), trivial⟩) ?_
  intro ν4
  refine W_ret ?_
  exact RetQ_ret (vs := [(.str (T ++ [((48 + (x % 10))).toNat]))]) (N := []) (ResV.t rfl ResV.nil) ⟨by rfl, rfl⟩ (.refl _)
theorem s47c (n : Nat) (x : Int) (T : List Nat) (h : -1000000 ≤ x ∧ x < 0) (hT : T.length ≤ 100) (ih : SV mx n 47 [.int .i64 (-x)] (.str T)) : SV mx (n+1) 47 [.int .i64 x] (.str ([45] ++ T)) := by
  refine SpecQ_run (c := k47) rfl rfl rfl ?_
  intro ro O _
  refine X_reg [0] [] [] (fun _ => (True)) (fun _ => []) (fun _ => [(0, (.int .i64 x))]) (fun _ => O) (fun _ => by kernel_rfl) (fun _ => trivial) ?_
  intro _
  refine C_assoc ?_
  refine X_reg [0, 4] [] [] (fun _ => (True)) (fun _ => []) (fun _ => [(0, (.int .i64 x)), (4, (.bool (decide (x < 0))))]) (fun _ => O) (fun _ => by kernel_rfl) (fun _ => trivial) ?_
  intro _
  refine C_if_t (x := _) (xp_t (by rw [decide_eq_true_eq]; omega)) ?_
  refine C_assoc ?_
  refine X_reg [2] [] [.c, .c, (.cl (.str T))] (fun _ => (inR .i64 (-x)) ∧ (SpecQ (BB mx) (RN mx n) 47 [(.int .i64 (-x))] [] fun u_ N_ => u_ = (.str T) ∧ N_ = []) ∧ ([45].length + T.length ≤ 4000000000) ∧ (True)) (fun _ => []) (fun _ => [(2, (.str ([45] ++ T)))]) (fun _ => O) (fun _ => by kernel_rfl) (fun _ => ⟨(by simp only [inR]; omega), ih, (by first | omega | (simp only [List.length_append, List.length_cons, List.length_nil]; omega)), trivial⟩) ?_
  intro _
  refine C_ret ?_
  exact RetQ_ret (vs := [(.str ([45] ++ T))]) (N := []) (ResV.t rfl ResV.nil) ⟨by rfl, rfl⟩ (.refl _)
theorem s47n : ∀ (k n : Nat) (x : Int), k ≤ 5 → 0 ≤ x → x < 10 ^ (k + 1) → SV mx (n+k+1) 47 [.int .i64 x] (.str (N x.toNat))
  | 0, n, x, _, h0, h1 => by
    have h1 : x < 10 := by simpa using h1
    have := s47a (mx := mx) n x ⟨h0, h1⟩
    rw [N_lt (by omega)]
    rw [show (48 + x).toNat = 48 + x.toNat by omega] at this
    exact this
  | k + 1, n, x, hk, h0, h1 => by
    by_cases h : x < 10
    · have := s47a (mx := mx) (n + (k + 1)) x ⟨h0, h⟩
      rw [N_lt (by omega)]
      rw [show (48 + x).toNat = 48 + x.toNat by omega] at this
      exact this
    · have hx : x / 10 < 10 ^ (k + 1) := by rw [Int.pow_succ] at h1; omega
      have hb : x ≤ 1000000 := by
        have : (10 : Int) ^ (k + 1 + 1) ≤ 10 ^ 6 := by
          have : (10 : Nat) ^ (k + 1 + 1) ≤ 10 ^ 6 := Nat.pow_le_pow_right (by omega) (by omega)
          exact_mod_cast this
        have e : (10 : Int) ^ 6 = 1000000 := by decide
        omega
      have ih := s47n k n (x / 10) (by omega) (by omega) hx
      have hl := N_len k (x / 10).toNat (by
        have : ((x / 10).toNat : Int) < ((10 ^ (k + 1) : Nat) : Int) := by rw [Int.toNat_of_nonneg (by omega)]; simpa using hx
        exact_mod_cast this)
      have := s47b (mx := mx) (n + k + 1) x _ ⟨by omega, hb⟩ (by omega) ih
      rw [N_ge (by omega), show x.toNat / 10 = (x / 10).toNat by omega, show 48 + x.toNat % 10 = (48 + x % 10).toNat by omega]
      exact this
theorem s47 (n : Nat) (x : Int) (h : -100000 < x ∧ x < 100000) : SV mx (n+7) 47 [.int .i64 x] (.str (Z x)) := by
  unfold Z
  split
  · have := s47n (mx := mx) 4 (n + 1) (-x) (by omega) (by omega) (by simp; omega)
    have hl := N_len 4 (-x).toNat (by omega)
    exact s47c (n + 6) x (N (-x).toNat) ⟨by omega, by omega⟩ (by omega) this
  · exact s47n 4 (n + 2) x (by omega) (by omega) (by simp; omega)
theorem s29 (n : Nat) (t x y : Int) (h : 0 ≤ t ∧ t ≤ 255 ∧ -100000 < x ∧ x < 100000 ∧ -100000 < y ∧ y < 100000) : SV mx (n+8) 29 [.agg [.int .u8 t, .int .i64 x, .int .i64 y]] (.str ((((Z t ++ [32]) ++ Z x) ++ [32]) ++ Z y)) := by
  have l1 := Z_len (n := t) (by omega)
  have l2 := Z_len (n := x) (by omega)
  have l3 := Z_len (n := y) (by omega)
  refine SpecQ_run (c := k29) rfl rfl rfl ?_
  intro ro O _
  refine X_reg [1] [] [] (fun ν1 => (True)) (fun ν1 => []) (fun ν1 => [(1, (.ptr (ν1 0) 0))]) (fun ν1 => ⟨(ν1 0), true, .cells [(.int .u8 t), (.int .i64 x), (.int .i64 y)]⟩ :: O) (fun ν1 => by kernel_rfl) (fun ν1 => trivial) ?_
  intro ν1
  refine X_reg [2] [0] [.c, (.ld (.e 0)), .c, (.cl (.str (Z t))), .c, .c, (.ld (.e 0)), (.cl (.str (Z x))), .c, .c, .c, (.ld (.e 0)), (.cl (.str (Z y)))] (fun _ => (inR .i64 t) ∧ (SpecQ (BB mx) (RN mx (n+7)) 47 [(.int .i64 t)] [] fun u_ N_ => u_ = (.str (Z t)) ∧ N_ = []) ∧ ((Z t).length + [32].length ≤ 4000000000) ∧ (SpecQ (BB mx) (RN mx (n+7)) 47 [(.int .i64 x)] [] fun u_ N_ => u_ = (.str (Z x)) ∧ N_ = []) ∧ (((Z t) ++ [32]).length + (Z x).length ≤ 4000000000) ∧ ((((Z t) ++ [32]) ++ (Z x)).length + [32].length ≤ 4000000000) ∧ (SpecQ (BB mx) (RN mx (n+7)) 47 [(.int .i64 y)] [] fun u_ N_ => u_ = (.str (Z y)) ∧ N_ = []) ∧ (((((Z t) ++ [32]) ++ (Z x)) ++ [32]).length + (Z y).length ≤ 4000000000) ∧ (True)) (fun _ => [(ν1 0), (ν1 0), (ν1 0)]) (fun _ => [(2, (.str (((((Z t) ++ [32]) ++ (Z x)) ++ [32]) ++ (Z y))))]) (fun _ => O) (fun _ => by kernel_rfl) (fun _ => ⟨(by simp only [inR]; omega), s47 _ t (by omega), (by first | omega | (simp only [List.length_append, List.length_cons, List.length_nil]; omega)), s47 _ x (by omega), (by first | omega | (simp only [List.length_append, List.length_cons, List.length_nil]; omega)), (by first | omega | (simp only [List.length_append, List.length_cons, List.length_nil]; omega)), s47 _ y (by omega), (by first | omega | (simp only [List.length_append, List.length_cons, List.length_nil]; omega)), trivial⟩) ?_
  intro _
  refine W_ret ?_
  exact RetQ_ret (vs := [(.str (((((Z t) ++ [32]) ++ (Z x)) ++ [32]) ++ (Z y)))]) (N := []) (ResV.t rfl ResV.nil) ⟨by rfl, rfl⟩ (.refl _)
end Vm
end Go.Proofs.YtgncjbodicabnaaDoor

namespace Go.Proofs.YtgncjbodicabnaaDoor
namespace Vm
variable {mx : Int}
open Go Go.Vm Go.Vm.W
set_option maxRecDepth 100000
set_option linter.unusedVariables false
set_option linter.unusedSimpArgs false
attribute [local irreducible] W WO SpecQ SpecW runM

def SM : List Nat := [48, 48, 48, 49, 48, 50, 48, 51, 48, 52, 48, 53, 48, 54, 48, 55, 48, 56, 48, 57, 49, 48, 49, 49, 49, 50, 49, 51, 49, 52, 49, 53, 49, 54, 49, 55, 49, 56, 49, 57, 50, 48, 50, 49, 50, 50, 50, 51, 50, 52, 50, 53, 50, 54, 50, 55, 50, 56, 50, 57, 51, 48, 51, 49, 51, 50, 51, 51, 51, 52, 51, 53, 51, 54, 51, 55, 51, 56, 51, 57, 52, 48, 52, 49, 52, 50, 52, 51, 52, 52, 52, 53, 52, 54, 52, 55, 52, 56, 52, 57, 53, 48, 53, 49, 53, 50, 53, 51, 53, 52, 53, 53, 53, 54, 53, 55, 53, 56, 53, 57, 54, 48, 54, 49, 54, 50, 54, 51, 54, 52, 54, 53, 54, 54, 54, 55, 54, 56, 54, 57, 55, 48, 55, 49, 55, 50, 55, 51, 55, 52, 55, 53, 55, 54, 55, 55, 55, 56, 55, 57, 56, 48, 56, 49, 56, 50, 56, 51, 56, 52, 56, 53, 56, 54, 56, 55, 56, 56, 56, 57, 57, 48, 57, 49, 57, 50, 57, 51, 57, 52, 57, 53, 57, 54, 57, 55, 57, 56, 57, 57]
def DG : List Nat := [48, 49, 50, 51, 52, 53, 54, 55, 56, 57, 97, 98, 99, 100, 101, 102, 103, 104, 105, 106, 107, 108, 109, 110, 111, 112, 113, 114, 115, 116, 117, 118, 119, 120, 121, 122]
theorem sm_all : ((List.range 100).all fun i => SM.getD (i * 2) 0 == 48 + i / 10 && SM.getD (i * 2 + 1) 0 == 48 + i % 10 && (SM.drop (i * 2)).take (i * 2 + 2 - i * 2) == [48 + i / 10, 48 + i % 10]) = true := by kernel_rfl
theorem sm_at (i : Nat) (h : i < 100) : SM.getD (i * 2) 0 = 48 + i / 10 ∧ SM.getD (i * 2 + 1) 0 = 48 + i % 10 ∧ (SM.drop (i * 2)).take (i * 2 + 2 - i * 2) = [48 + i / 10, 48 + i % 10] := by
  have := List.all_eq_true.1 sm_all i (List.mem_range.2 h)
  rw [Bool.and_eq_true, Bool.and_eq_true] at this
  exact ⟨eq_of_beq this.1.1, eq_of_beq this.1.2, eq_of_beq this.2⟩
theorem dg_all : ((List.range 10).all fun i => (DG.drop i).take (i + 1 - i) == [48 + i]) = true := by kernel_rfl
theorem dg_at (i : Nat) (h : i < 10) : (DG.drop i).take (i + 1 - i) = [48 + i] := eq_of_beq (List.all_eq_true.1 dg_all i (List.mem_range.2 h))
theorem sm0 (q : Int) (h0 : 0 ≤ q) (h1 : q < 100) : ((SM.getD (q * 2).toNat 0 : Nat) : Int) = 48 + q / 10 := by
  have := (sm_at q.toNat (by omega)).1
  rw [show (q * 2).toNat = q.toNat * 2 by omega, this]
  omega
theorem sm1 (q : Int) (h0 : 0 ≤ q) (h1 : q < 100) : ((SM.getD (q * 2 + 1).toNat 0 : Nat) : Int) = 48 + q % 10 := by
  have := (sm_at q.toNat (by omega)).2.1
  rw [show (q * 2 + 1).toNat = q.toNat * 2 + 1 by omega, this]
  omega
theorem bl_le : ∀ f x : Nat, Lib.bitLenAux f x ≤ f
  | 0, x => by unfold Lib.bitLenAux; omega
  | f + 1, x => by
    unfold Lib.bitLenAux
    have := bl_le f (x / 2)
    split <;> omega
def PT : List AV := [.int .u64 1, .int .u64 10, .int .u64 100, .int .u64 1000, .int .u64 10000, .int .u64 100000, .int .u64 1000000, .int .u64 10000000, .int .u64 100000000, .int .u64 1000000000, .int .u64 10000000000, .int .u64 100000000000, .int .u64 1000000000000, .int .u64 10000000000000, .int .u64 100000000000000, .int .u64 1000000000000000, .int .u64 10000000000000000, .int .u64 100000000000000000, .int .u64 1000000000000000000, .int .u64 10000000000000000000]
theorem glob_pt : Glob (BB mx) 4 PT := Glob_of (es := ex mx ++ es) (H0_eq mx).symm (by show 4 < nx0; decide) (by kernel_rfl)
theorem pt_at' : ∀ i : Nat, i < 20 → ldv false 1 (0 + i * 1) PT = some (.int .u64 ((10 ^ i : Nat) : Int))
  | 0, _ => rfl
  | 1, _ => rfl
  | 2, _ => rfl
  | 3, _ => rfl
  | 4, _ => rfl
  | 5, _ => rfl
  | 6, _ => rfl
  | 7, _ => rfl
  | 8, _ => rfl
  | 9, _ => rfl
  | 10, _ => rfl
  | 11, _ => rfl
  | 12, _ => rfl
  | 13, _ => rfl
  | 14, _ => rfl
  | 15, _ => rfl
  | 16, _ => rfl
  | 17, _ => rfl
  | 18, _ => rfl
  | 19, _ => rfl
  | n + 20, h => by omega
theorem pt_at {i o : Nat} (h : i < 20) (ho : o = i) : ldv false 1 (0 + o * 1) PT = some (.int .u64 ((10 ^ i : Nat) : Int)) := by subst ho; exact pt_at' o h
theorem bif01 (b : Bool) : 0 ≤ (bif b then (1 : Int) else 0) ∧ (bif b then (1 : Int) else 0) ≤ 1 := by cases b <;> decide
theorem s86 (n : Nat) (u : Int) (h : 0 ≤ u ∧ u ≤ 18446744073709551615) : SV mx (n+1) 86 [.int .u64 u] (.int .i64 (Lib.bitLen u.toNat : Nat)) := memo_spec (by
  show (match (if 0 ≤ u ∧ u ≤ 18446744073709551615 then some (fun H nx => some (AV.int .i64 (Lib.bitLen u.toNat), H, nx)) else none : Option (Tr Blk → Nat → Out)) with | some g => some g | none => tLog 85 86 [.int .u64 u]) = _
  rw [if_pos h])
theorem s85 (n : Nat) (b : Nat) (h : b ≤ 64) : SV mx (n+1) 85 [.int .i64 (b : Int)] (.int .i64 (Lib.l10 b : Nat)) := memo_spec (by
  show (if 0 ≤ (b : Int) ∧ (b : Int) ≤ 64 then some (fun H nx => some (AV.int .i64 (Lib.l10 (b : Int).toNat), H, nx)) else none : Option (Tr Blk → Nat → Out)) = _
  rw [if_pos (by omega)]
  rfl)
theorem s87 (n : Nat) (b : Bool) : SV mx (n+1) 87 [.bool b] (.int .i64 (bif b then 1 else 0)) := by
  refine SpecQ_run (c := k87) rfl rfl rfl ?_
  intro ro O _
  refine X_reg [0] [] [] (fun _ => (True)) (fun _ => []) (fun _ => [(0, (.bool b))]) (fun _ => O) (fun _ => by kernel_rfl) (fun _ => trivial) ?_
  intro _
  refine C_assoc ?_
  refine X_reg [3] [] [] (fun _ => (True)) (fun _ => []) (fun _ => [(3, (.bool b))]) (fun _ => O) (fun _ => by kernel_rfl) (fun _ => trivial) ?_
  intro _
  refine C_if rfl ?_ ?_
  · intro h1
    refine C_assoc ?_
    refine X_reg [2] [] [] (fun _ => (True)) (fun _ => []) (fun _ => [(2, (.int .i64 1))]) (fun _ => O) (fun _ => by kernel_rfl) (fun _ => trivial) ?_
    intro _
    refine C_ret ?_
    exact RetQ_ret (vs := [(.int .i64 1)]) (N := []) (ResV.t rfl ResV.nil) ⟨(by rw [h1]; rfl), rfl⟩ (.refl _)
  · intro h1
    refine C_skip ?_
    refine X_reg [2] [] [] (fun _ => (True)) (fun _ => []) (fun _ => [(2, (.int .i64 0))]) (fun _ => O) (fun _ => by kernel_rfl) (fun _ => trivial) ?_
    intro _
    refine W_ret ?_
    exact RetQ_ret (vs := [(.int .i64 0)]) (N := []) (ResV.t rfl ResV.nil) ⟨(by rw [h1]; rfl), rfl⟩ (.refl _)
theorem cls77 {L m : Nat} {u : Int} (hu : 0 ≤ u) (hq : L + (if 10 ^ L ≤ u.toNat then 1 else 0) = m) : AV.int .i64 (((L : Nat) : Int) + (bif (decide (((10 ^ L : Nat) : Int) ≤ u)) then (1 : Int) else 0)) = AV.int .i64 ((m : Nat) : Int) := by
  congr 1
  generalize 10 ^ L = q at hq ⊢
  by_cases hc : q ≤ u.toNat
  · rw [if_pos hc] at hq
    rw [decide_eq_true (by omega), cond_true]
    omega
  · rw [if_neg hc] at hq
    rw [decide_eq_false (by omega), cond_false]
    omega
theorem s77 (n : Nat) (u : Int) (h : 1 ≤ u ∧ u < 18446744073709551616) : SV mx (n+2) 77 [.int .u64 u] (.int .i64 ((Lib.nDigits u.toNat : Nat) : Int)) := by
  obtain ⟨hq, hL0⟩ := Lib.numDigits_eq u.toNat (by omega) (by omega)
  have hbl : Lib.bitLen u.toNat ≤ 64 := by
    unfold Lib.bitLen
    exact bl_le 64 u.toNat
  generalize hLe : Lib.l10 (Lib.bitLen u.toNat) = L at hq hL0
  have hL : L < 20 := by have := hL0; clear hq; omega
  have hb := bif01 (decide (((10 ^ L : Nat) : Int) ≤ u))
  refine SpecQ_run (c := k77) rfl rfl rfl ?_
  intro ro O _
  refine X_reg [0] [] [] (fun _ => (True)) (fun _ => []) (fun _ => [(0, (.int .u64 u))]) (fun _ => O) (fun _ => by kernel_rfl) (fun _ => trivial) ?_
  intro _
  refine X_reg [0, 3] [] [.c, (.cl (.int .i64 ((Lib.bitLen u.toNat : Nat) : Int))), (.cl (.int .i64 ((L : Nat) : Int)))] (fun _ => (SpecQ (BB mx) (RN mx (n+1)) 86 [(.int .u64 u)] [] fun u_ N_ => u_ = (.int .i64 ((Lib.bitLen u.toNat : Nat) : Int)) ∧ N_ = []) ∧ (SpecQ (BB mx) (RN mx (n+1)) 85 [(.int .i64 ((Lib.bitLen u.toNat : Nat) : Int))] [] fun u_ N_ => u_ = (.int .i64 ((L : Nat) : Int)) ∧ N_ = []) ∧ (True)) (fun _ => []) (fun _ => [(0, (.int .u64 u)), (3, (.int .i64 ((L : Nat) : Int)))]) (fun _ => O) (fun _ => by kernel_rfl) (fun _ => ⟨s86 _ _ (by omega), (by rw [← hLe]; exact s85 _ _ hbl), trivial⟩) ?_
  intro _
  refine X_reg [2] [] [.c, .c, .c, .c, (.ldg PT (.int .u64 ((10 ^ L : Nat) : Int))), .c, (.cl (.int .i64 (bif (decide (((10 ^ L : Nat) : Int) ≤ u)) then (1 : Int) else 0)))] (fun _ => (0 ≤ ((L : Nat) : Int) ∧ ((L : Nat) : Int) < (20 : Nat)) ∧ (Glob (BB mx) 4 PT ∧ ldv false 1 (0 + (((L : Nat) : Int) : Int).toNat * 1) PT = some (.int .u64 ((10 ^ L : Nat) : Int))) ∧ (SpecQ (BB mx) (RN mx (n+1)) 87 [(.bool (decide (((10 ^ L : Nat) : Int) ≤ u)))] [] fun u_ N_ => u_ = (.int .i64 (bif (decide (((10 ^ L : Nat) : Int) ≤ u)) then (1 : Int) else 0)) ∧ N_ = []) ∧ (inR .i64 (((L : Nat) : Int) + (bif (decide (((10 ^ L : Nat) : Int) ≤ u)) then (1 : Int) else 0))) ∧ (True)) (fun _ => []) (fun _ => [(2, (.int .i64 (((L : Nat) : Int) + (bif (decide (((10 ^ L : Nat) : Int) ≤ u)) then (1 : Int) else 0))))]) (fun _ => O) (fun _ => by kernel_rfl) (fun _ => ⟨(by omega), ⟨glob_pt, (pt_at hL (by omega))⟩, s87 _ _, (by simp only [inR]; omega), trivial⟩) ?_
  intro _
  refine W_ret ?_
  exact RetQ_ret (vs := [(.int .i64 (((L : Nat) : Int) + (bif (decide (((10 ^ L : Nat) : Int) ≤ u)) then (1 : Int) else 0)))]) (N := []) (ResV.t rfl ResV.nil) ⟨(cls77 (by omega) hq), rfl⟩ (.refl _)
end Vm
end Go.Proofs.YtgncjbodicabnaaDoor

