/-
  strconv.Itoa at numbers of at most five digits, as the machine runs it: the digits, the bytes, the text.
-/
import Derived.Test.YtgncjbodicabnaaDoorMkM
set_option linter.unusedSimpArgs false
set_option linter.unusedVariables false

namespace Go.Proofs.YtgncjbodicabnaaDoor
namespace Vm
variable {mx : Int}
open Go Go.Vm Go.Vm.W
set_option maxRecDepth 100000
set_option linter.unusedVariables false
set_option linter.unusedSimpArgs false
attribute [local irreducible] W WO SpecQ SpecW runM

abbrev z8 : AV := .int .u8 0
abbrev zz (n : Nat) : List AV := List.replicate n z8
theorem RetQ_norm {res : List CRes} {O O' : List Ent} {R : AV → List Ent → Prop} {t : Fr} {vs : List AV} {N : List Ent} (h1 : ResV t O' res vs) (h3 : R (pack vs) N) (h2 : (N ++ O).Sublist O') : RetQ res O R .normal t O' := ⟨vs, N, h1, h2, h3⟩
theorem dgz {x : Int} (h : 0 ≤ x ∧ x < 10) : (DG.drop x.toNat).take ((x + 1).toNat - x.toNat) = Z x := by
  rw [show (x + 1).toNat = x.toNat + 1 by omega, dg_at _ (by omega), Z, if_neg (by omega), N_lt (by omega)]
theorem smz {x : Int} (h : 10 ≤ x ∧ x < 100) : (SM.drop (x * 2).toNat).take (((x * 2) + 2).toNat - (x * 2).toNat) = Z x := by
  rw [show ((x * 2) + 2).toNat = x.toNat * 2 + 2 by omega, show (x * 2).toNat = x.toNat * 2 by omega, (sm_at x.toNat (by omega)).2.2, Z, if_neg (by omega), N_ge (by omega), N_lt (by omega)]
  rfl
theorem wrx {x : Int} (h : -100000 < x ∧ x < 0) : IntKind.u64.wrap x = 18446744073709551616 + x := by
  simp only [IntKind.wrap, IntKind.bits, IntKind.signed, Bool.false_and]
  simp
  omega
theorem wrn {x : Int} (h : -100000 < x ∧ x < 0) : IntKind.u64.wrap (-(18446744073709551616 + x)) = -x := by
  simp only [IntKind.wrap, IntKind.bits, IntKind.signed, Bool.false_and]
  simp
  omega
theorem s76a (n : Nat) (x : Int) (h : 0 ≤ x ∧ x < 10) : SV mx (n+1) 76 [.int .i64 x] (.str (Z x)) := by
  refine SpecQ_run (c := k76) rfl rfl rfl ?_
  intro ro O _
  refine X_reg [0] [] [] (fun _ => (True)) (fun _ => []) (fun _ => [(0, (.int .i64 x))]) (fun _ => O) (fun _ => by kernel_rfl) (fun _ => trivial) ?_
  intro _
  refine C_assoc ?_
  refine X_reg [0, 4] [] [] (fun _ => (True)) (fun _ => []) (fun _ => [(0, (.int .i64 x)), (4, (.bool (decide (x < 10))))]) (fun _ => O) (fun _ => by kernel_rfl) (fun _ => trivial) ?_
  intro _
  refine C_if_t (x := _) (xp_t (by rw [decide_eq_true_eq]; omega)) ?_
  refine C_assoc ?_
  refine X_reg [2] [] [] (fun _ => (inR .i64 (x + 1)) ∧ (0 ≤ x ∧ x ≤ (x + 1) ∧ (x + 1) ≤ ((36 : Nat) : Int)) ∧ (True)) (fun _ => []) (fun _ => [(2, (.str ((DG.drop (x).toNat).take (((x + 1)).toNat - (x).toNat))))]) (fun _ => O) (fun _ => by kernel_rfl) (fun _ => ⟨(by simp only [inR]; omega), (by omega), trivial⟩) ?_
  intro _
  refine C_ret ?_
  exact RetQ_ret (vs := [(.str ((DG.drop (x).toNat).take (((x + 1)).toNat - (x).toNat)))]) (N := []) (ResV.t rfl ResV.nil) ⟨(congrArg AV.str (dgz h)), rfl⟩ (.refl _)
theorem s76b (n : Nat) (x : Int) (h : 10 ≤ x ∧ x < 100) : SV mx (n+1) 76 [.int .i64 x] (.str (Z x)) := by
  refine SpecQ_run (c := k76) rfl rfl rfl ?_
  intro ro O _
  refine X_reg [0] [] [] (fun _ => (True)) (fun _ => []) (fun _ => [(0, (.int .i64 x))]) (fun _ => O) (fun _ => by kernel_rfl) (fun _ => trivial) ?_
  intro _
  refine C_assoc ?_
  refine X_reg [0, 4] [] [] (fun _ => (True)) (fun _ => []) (fun _ => [(0, (.int .i64 x)), (4, (.bool (decide (x < 10))))]) (fun _ => O) (fun _ => by kernel_rfl) (fun _ => trivial) ?_
  intro _
  refine C_if_f (x := _) (xp_f (by rw [decide_eq_false_iff_not]; omega)) ?_
  refine C_skip ?_
  refine X_reg [2] [] [] (fun _ => (inR .i64 (x * 2)) ∧ (inR .i64 (x * 2)) ∧ (inR .i64 ((x * 2) + 2)) ∧ (0 ≤ (x * 2) ∧ (x * 2) ≤ ((x * 2) + 2) ∧ ((x * 2) + 2) ≤ ((200 : Nat) : Int)) ∧ (True)) (fun _ => []) (fun _ => [(2, (.str ((SM.drop ((x * 2)).toNat).take ((((x * 2) + 2)).toNat - ((x * 2)).toNat))))]) (fun _ => O) (fun _ => by kernel_rfl) (fun _ => ⟨(by simp only [inR]; omega), (by simp only [inR]; omega), (by simp only [inR]; omega), (by omega), trivial⟩) ?_
  intro _
  refine W_ret ?_
  exact RetQ_ret (vs := [(.str ((SM.drop ((x * 2)).toNat).take ((((x * 2) + 2)).toNat - ((x * 2)).toNat)))]) (N := []) (ResV.t rfl ResV.nil) ⟨(congrArg AV.str (smz h)), rfl⟩ (.refl _)
theorem zk1 (u : Int) (h : 0 ≤ u ∧ u < 10) : [(48 + u).toNat] = N u.toNat := by
  rw [N_lt (by omega), show (48 + u).toNat = 48 + u.toNat by omega]
theorem nd1 (u : Int) (h : 0 ≤ u ∧ u < 10) : Lib.nDigits u.toNat = 1 := Lib.nDigits_small (by omega)
theorem s78_1 (n b : Nat) (u : Int) (h : 0 ≤ u ∧ u < 10) : SpecW (BB mx) (RN mx (n+1)) 78 [.sl b 1 1 (some 23) 1, .int .u64 u] [⟨b, true, .cells ([z8] ++ zz 23)⟩] (fun v N => v = .tup [] ∧ N = [⟨b, true, .cells ([z8, (.int .u8 (48 + u))] ++ zz 22)⟩]) := by
  refine SpecW_run (c := k78) rfl rfl rfl ?_
  intro ro O
  refine X_reg [0, 1, 4] [] [] (fun _ => (True)) (fun _ => []) (fun _ => [(0, (.sl b 1 1 (some 23) 1)), (1, (.int .u64 u)), (4, (.int .i64 1))]) (fun _ => ⟨b, true, .cells ([z8] ++ zz 23)⟩ :: O) (fun _ => by kernel_rfl) (fun _ => trivial) ?_
  intro _
  refine C_block ?_
  refine W_loop (σ := Unit) (fun _ => [(0, (.sl b 1 1 (some 23) 1)), (1, (.int .u64 u)), (4, (.int .i64 1))]) (fun _ => ⟨b, true, .cells ([z8] ++ zz 23)⟩ :: O) (fun _ => True) (fun _ => 0) () ⟨rfl, rfl, rfl, trivial⟩ (.cons_cons _ (.refl _)) trivial (by simp only [fuel]; omega) ?_
  rintro _ -
  refine C_assoc ?_
  refine X_reg [0, 1, 4, 20] [] [] (fun _ => (True)) (fun _ => []) (fun _ => [(0, (.sl b 1 1 (some 23) 1)), (1, (.int .u64 u)), (4, (.int .i64 1)), (20, (.bool false))]) (fun _ => ⟨b, true, .cells ([z8] ++ zz 23)⟩ :: O) (fun _ => by kernel_rfl) (fun _ => trivial) ?_
  intro _
  refine C_if_f rfl ?_
  refine C_exit ?_
  refine X_reg [0, 4, 12] [] [] (fun _ => (inR .u32 u) ∧ (True)) (fun _ => []) (fun _ => [(0, (.sl b 1 1 (some 23) 1)), (4, (.int .i64 1)), (12, (.int .u32 u))]) (fun _ => ⟨b, true, .cells ([z8] ++ zz 23)⟩ :: O) (fun _ => by kernel_rfl) (fun _ => ⟨(by simp only [inR]; omega), trivial⟩) ?_
  intro _
  refine C_assoc ?_
  refine X_reg [0, 4, 12, 99] [] [] (fun _ => (True)) (fun _ => []) (fun _ => [(0, (.sl b 1 1 (some 23) 1)), (4, (.int .i64 1)), (12, (.int .u32 u)), (99, (.bool false))]) (fun _ => ⟨b, true, .cells ([z8] ++ zz 23)⟩ :: O) (fun _ => by kernel_rfl) (fun _ => trivial) ?_
  intro _
  refine C_if_f rfl ?_
  refine C_skip ?_
  refine C_assoc ?_
  refine X_reg [0, 4, 12, 139] [] [] (fun _ => (True)) (fun _ => []) (fun _ => [(0, (.sl b 1 1 (some 23) 1)), (4, (.int .i64 1)), (12, (.int .u32 u)), (139, (.bool false))]) (fun _ => ⟨b, true, .cells ([z8] ++ zz 23)⟩ :: O) (fun _ => by kernel_rfl) (fun _ => trivial) ?_
  intro _
  refine C_if_f rfl ?_
  refine C_skip ?_
  refine X_reg [0, 12, 161] [] [] (fun _ => (True)) (fun _ => []) (fun _ => [(0, (.sl b 1 1 (some 23) 1)), (12, (.int .u32 u)), (161, (.bool true))]) (fun _ => ⟨b, true, .cells ([z8] ++ zz 23)⟩ :: O) (fun _ => by kernel_rfl) (fun _ => trivial) ?_
  intro _
  refine W_if_t rfl ?_
  refine X_end [] [] [.c, .c, .c, .c, .c, (.st 0)] (fun _ => (inR .u32 (48 + u)) ∧ (inR .u8 (48 + u)) ∧ (0 ≤ (0 : Int) ∧ (0 : Int) < (1 : Nat)) ∧ (True)) (fun _ => [b]) (fun _ => []) (fun _ => ⟨b, true, .cells ([z8, (.int .u8 (48 + u))] ++ zz 22)⟩ :: O) (fun _ => by kernel_rfl) (fun _ => ⟨(by simp only [inR]; omega), (by simp only [inR]; omega), (by omega), trivial⟩) ?_
  intro _
  exact RetQ_norm (vs := []) (N := [⟨b, true, .cells ([z8, (.int .u8 (48 + u))] ++ zz 22)⟩]) ResV.nil (by refine ⟨rfl, ?_⟩; show [(⟨b, true, .cells ([z8, (.int .u8 (48 + u))] ++ zz 22)⟩ : Ent)] = _; rfl) (.cons_cons _ (.refl _))
theorem zk2 (u : Int) (h : 10 ≤ u ∧ u < 100) : [(48 + u % 100 / 10).toNat, (48 + u % 100 % 10).toNat] = N u.toNat := by
  rw [N_ge (by omega), N_lt (by omega)]
  simp only [List.cons_append, List.nil_append, List.cons.injEq, and_true]
  refine ⟨by omega, by omega⟩
theorem nd2 (u : Int) (h : 10 ≤ u ∧ u < 100) : Lib.nDigits u.toNat = 2 := Lib.nDigits_unique 1 u.toNat (by simp; omega) (by simp; omega)
theorem s78_2 (n b : Nat) (u : Int) (h : 10 ≤ u ∧ u < 100) : SpecW (BB mx) (RN mx (n+1)) 78 [.sl b 1 2 (some 23) 1, .int .u64 u] [⟨b, true, .cells ([z8] ++ zz 23)⟩] (fun v N => v = .tup [] ∧ N = [⟨b, true, .cells ([z8, (.int .u8 (48 + u % 100 / 10)), (.int .u8 (48 + u % 100 % 10))] ++ zz 21)⟩]) := by
  refine SpecW_run (c := k78) rfl rfl rfl ?_
  intro ro O
  refine X_reg [0, 1, 4] [] [] (fun _ => (True)) (fun _ => []) (fun _ => [(0, (.sl b 1 2 (some 23) 1)), (1, (.int .u64 u)), (4, (.int .i64 2))]) (fun _ => ⟨b, true, .cells ([z8] ++ zz 23)⟩ :: O) (fun _ => by kernel_rfl) (fun _ => trivial) ?_
  intro _
  refine C_block ?_
  refine W_loop (σ := Unit) (fun _ => [(0, (.sl b 1 2 (some 23) 1)), (1, (.int .u64 u)), (4, (.int .i64 2))]) (fun _ => ⟨b, true, .cells ([z8] ++ zz 23)⟩ :: O) (fun _ => True) (fun _ => 0) () ⟨rfl, rfl, rfl, trivial⟩ (.cons_cons _ (.refl _)) trivial (by simp only [fuel]; omega) ?_
  rintro _ -
  refine C_assoc ?_
  refine X_reg [0, 1, 4, 20] [] [] (fun _ => (True)) (fun _ => []) (fun _ => [(0, (.sl b 1 2 (some 23) 1)), (1, (.int .u64 u)), (4, (.int .i64 2)), (20, (.bool false))]) (fun _ => ⟨b, true, .cells ([z8] ++ zz 23)⟩ :: O) (fun _ => by kernel_rfl) (fun _ => trivial) ?_
  intro _
  refine C_if_f rfl ?_
  refine C_exit ?_
  refine X_reg [0, 4, 12] [] [] (fun _ => (inR .u32 u) ∧ (True)) (fun _ => []) (fun _ => [(0, (.sl b 1 2 (some 23) 1)), (4, (.int .i64 2)), (12, (.int .u32 u))]) (fun _ => ⟨b, true, .cells ([z8] ++ zz 23)⟩ :: O) (fun _ => by kernel_rfl) (fun _ => ⟨(by simp only [inR]; omega), trivial⟩) ?_
  intro _
  refine C_assoc ?_
  refine X_reg [0, 4, 12, 99] [] [] (fun _ => (True)) (fun _ => []) (fun _ => [(0, (.sl b 1 2 (some 23) 1)), (4, (.int .i64 2)), (12, (.int .u32 u)), (99, (.bool false))]) (fun _ => ⟨b, true, .cells ([z8] ++ zz 23)⟩ :: O) (fun _ => by kernel_rfl) (fun _ => trivial) ?_
  intro _
  refine C_if_f rfl ?_
  refine C_skip ?_
  refine C_assoc ?_
  refine X_reg [0, 4, 12, 139] [] [] (fun _ => (True)) (fun _ => []) (fun _ => [(0, (.sl b 1 2 (some 23) 1)), (4, (.int .i64 2)), (12, (.int .u32 u)), (139, (.bool true))]) (fun _ => ⟨b, true, .cells ([z8] ++ zz 23)⟩ :: O) (fun _ => by kernel_rfl) (fun _ => trivial) ?_
  intro _
  refine C_if_t rfl ?_
  refine C_assoc ?_
  refine X_reg [0, 4, 12, 16] [] [.c, .w] (fun _ => (0 ≤ u ∧ 0 < (100 : Int)) ∧ (inR .u32 ((u % 100) * 2)) ∧ (True)) (fun _ => []) (fun _ => [(0, (.sl b 1 2 (some 23) 1)), (4, (.int .i64 2)), (12, (.int .u32 u)), (16, (.int .u32 ((u % 100) * 2)))]) (fun _ => ⟨b, true, .cells ([z8] ++ zz 23)⟩ :: O) (fun _ => by kernel_rfl) (fun _ => ⟨(by omega), (by simp only [inR]; omega), trivial⟩) ?_
  intro _
  refine C_assoc ?_
  refine X_reg [0, 4, 12, 16] [] [.c, .w] (fun _ => (0 ≤ u ∧ 0 < (100 : Int) ∧ inR .u32 (u / 100)) ∧ (True)) (fun _ => []) (fun _ => [(0, (.sl b 1 2 (some 23) 1)), (4, (.int .i64 2)), (12, (.int .u32 (u / 100))), (16, (.int .u32 ((u % 100) * 2)))]) (fun _ => ⟨b, true, .cells ([z8] ++ zz 23)⟩ :: O) (fun _ => by kernel_rfl) (fun _ => ⟨(by simp only [inR]; omega), trivial⟩) ?_
  intro _
  refine C_assoc ?_
  refine X_reg [0, 4, 12] [] [.c, .c, .c, .c, .c, .c, .c, .c, .c, .c, .c, .c, (.st 0), .c, (.st 0)] (fun _ => (inR .i64 1) ∧ (inR .i64 0) ∧ (inR .u32 (((u % 100) * 2) + 1)) ∧ (0 ≤ (((u % 100) * 2) + 1) ∧ (((u % 100) * 2) + 1) < ((200 : Nat) : Int)) ∧ (0 ≤ ((u % 100) * 2) ∧ ((u % 100) * 2) < ((200 : Nat) : Int)) ∧ (0 ≤ (1 : Int) ∧ (1 : Int) < (2 : Nat)) ∧ (0 ≤ (0 : Int) ∧ (0 : Int) < (2 : Nat)) ∧ (True)) (fun _ => [b, b]) (fun _ => [(0, (.sl b 1 2 (some 23) 1)), (4, (.int .i64 2)), (12, (.int .u32 (u / 100)))]) (fun _ => ⟨b, true, .cells ([z8, (.int .u8 ((SM.getD (((u % 100) * 2)).toNat 0 : Nat) : Int)), (.int .u8 ((SM.getD ((((u % 100) * 2) + 1)).toNat 0 : Nat) : Int))] ++ zz 21)⟩ :: O) (fun _ => by kernel_rfl) (fun _ => ⟨(by simp only [inR]; omega), (by simp only [inR]; omega), (by simp only [inR]; omega), (by omega), (by omega), (by omega), (by omega), trivial⟩) ?_
  intro _
  refine X_reg [0, 4, 12] [] [] (fun _ => (inR .i64 0) ∧ (True)) (fun _ => []) (fun _ => [(0, (.sl b 1 2 (some 23) 1)), (4, (.int .i64 0)), (12, (.int .u32 (u / 100)))]) (fun _ => ⟨b, true, .cells ([z8, (.int .u8 ((SM.getD (((u % 100) * 2)).toNat 0 : Nat) : Int)), (.int .u8 ((SM.getD ((((u % 100) * 2) + 1)).toNat 0 : Nat) : Int))] ++ zz 21)⟩ :: O) (fun _ => by kernel_rfl) (fun _ => ⟨(by simp only [inR]; omega), trivial⟩) ?_
  intro _
  refine X_reg [0, 12, 161] [] [] (fun _ => (True)) (fun _ => []) (fun _ => [(0, (.sl b 1 2 (some 23) 1)), (12, (.int .u32 (u / 100))), (161, (.bool false))]) (fun _ => ⟨b, true, .cells ([z8, (.int .u8 ((SM.getD (((u % 100) * 2)).toNat 0 : Nat) : Int)), (.int .u8 ((SM.getD ((((u % 100) * 2) + 1)).toNat 0 : Nat) : Int))] ++ zz 21)⟩ :: O) (fun _ => by kernel_rfl) (fun _ => trivial) ?_
  intro _
  refine W_if_f rfl ?_
  refine W_skip ?_
  exact RetQ_norm (vs := []) (N := [⟨b, true, .cells ([z8, (.int .u8 ((SM.getD (((u % 100) * 2)).toNat 0 : Nat) : Int)), (.int .u8 ((SM.getD ((((u % 100) * 2) + 1)).toNat 0 : Nat) : Int))] ++ zz 21)⟩]) ResV.nil (by refine ⟨rfl, ?_⟩; show [(⟨b, true, .cells ([z8, (.int .u8 ((SM.getD (((u % 100) * 2)).toNat 0 : Nat) : Int)), (.int .u8 ((SM.getD ((((u % 100) * 2) + 1)).toNat 0 : Nat) : Int))] ++ zz 21)⟩ : Ent)] = _; rw [sm0 (u % 100) (by omega) (by omega), sm1 (u % 100) (by omega) (by omega)]) (.cons_cons _ (.refl _))
theorem zk3 (u : Int) (h : 100 ≤ u ∧ u < 1000) : [(48 + u / 100).toNat, (48 + u % 100 / 10).toNat, (48 + u % 100 % 10).toNat] = N u.toNat := by
  rw [N_ge (by omega), N_ge (by omega), N_lt (by omega)]
  simp only [List.cons_append, List.nil_append, List.cons.injEq, and_true]
  refine ⟨by omega, by omega, by omega⟩
theorem nd3 (u : Int) (h : 100 ≤ u ∧ u < 1000) : Lib.nDigits u.toNat = 3 := Lib.nDigits_unique 2 u.toNat (by simp; omega) (by simp; omega)
theorem s78_3 (n b : Nat) (u : Int) (h : 100 ≤ u ∧ u < 1000) : SpecW (BB mx) (RN mx (n+1)) 78 [.sl b 1 3 (some 23) 1, .int .u64 u] [⟨b, true, .cells ([z8] ++ zz 23)⟩] (fun v N => v = .tup [] ∧ N = [⟨b, true, .cells ([z8, (.int .u8 (48 + u / 100)), (.int .u8 (48 + u % 100 / 10)), (.int .u8 (48 + u % 100 % 10))] ++ zz 20)⟩]) := by
  refine SpecW_run (c := k78) rfl rfl rfl ?_
  intro ro O
  refine X_reg [0, 1, 4] [] [] (fun _ => (True)) (fun _ => []) (fun _ => [(0, (.sl b 1 3 (some 23) 1)), (1, (.int .u64 u)), (4, (.int .i64 3))]) (fun _ => ⟨b, true, .cells ([z8] ++ zz 23)⟩ :: O) (fun _ => by kernel_rfl) (fun _ => trivial) ?_
  intro _
  refine C_block ?_
  refine W_loop (σ := Unit) (fun _ => [(0, (.sl b 1 3 (some 23) 1)), (1, (.int .u64 u)), (4, (.int .i64 3))]) (fun _ => ⟨b, true, .cells ([z8] ++ zz 23)⟩ :: O) (fun _ => True) (fun _ => 0) () ⟨rfl, rfl, rfl, trivial⟩ (.cons_cons _ (.refl _)) trivial (by simp only [fuel]; omega) ?_
  rintro _ -
  refine C_assoc ?_
  refine X_reg [0, 1, 4, 20] [] [] (fun _ => (True)) (fun _ => []) (fun _ => [(0, (.sl b 1 3 (some 23) 1)), (1, (.int .u64 u)), (4, (.int .i64 3)), (20, (.bool false))]) (fun _ => ⟨b, true, .cells ([z8] ++ zz 23)⟩ :: O) (fun _ => by kernel_rfl) (fun _ => trivial) ?_
  intro _
  refine C_if_f rfl ?_
  refine C_exit ?_
  refine X_reg [0, 4, 12] [] [] (fun _ => (inR .u32 u) ∧ (True)) (fun _ => []) (fun _ => [(0, (.sl b 1 3 (some 23) 1)), (4, (.int .i64 3)), (12, (.int .u32 u))]) (fun _ => ⟨b, true, .cells ([z8] ++ zz 23)⟩ :: O) (fun _ => by kernel_rfl) (fun _ => ⟨(by simp only [inR]; omega), trivial⟩) ?_
  intro _
  refine C_assoc ?_
  refine X_reg [0, 4, 12, 99] [] [] (fun _ => (True)) (fun _ => []) (fun _ => [(0, (.sl b 1 3 (some 23) 1)), (4, (.int .i64 3)), (12, (.int .u32 u)), (99, (.bool false))]) (fun _ => ⟨b, true, .cells ([z8] ++ zz 23)⟩ :: O) (fun _ => by kernel_rfl) (fun _ => trivial) ?_
  intro _
  refine C_if_f rfl ?_
  refine C_skip ?_
  refine C_assoc ?_
  refine X_reg [0, 4, 12, 139] [] [] (fun _ => (True)) (fun _ => []) (fun _ => [(0, (.sl b 1 3 (some 23) 1)), (4, (.int .i64 3)), (12, (.int .u32 u)), (139, (.bool true))]) (fun _ => ⟨b, true, .cells ([z8] ++ zz 23)⟩ :: O) (fun _ => by kernel_rfl) (fun _ => trivial) ?_
  intro _
  refine C_if_t rfl ?_
  refine C_assoc ?_
  refine X_reg [0, 4, 12, 16] [] [.c, .w] (fun _ => (0 ≤ u ∧ 0 < (100 : Int)) ∧ (inR .u32 ((u % 100) * 2)) ∧ (True)) (fun _ => []) (fun _ => [(0, (.sl b 1 3 (some 23) 1)), (4, (.int .i64 3)), (12, (.int .u32 u)), (16, (.int .u32 ((u % 100) * 2)))]) (fun _ => ⟨b, true, .cells ([z8] ++ zz 23)⟩ :: O) (fun _ => by kernel_rfl) (fun _ => ⟨(by omega), (by simp only [inR]; omega), trivial⟩) ?_
  intro _
  refine C_assoc ?_
  refine X_reg [0, 4, 12, 16] [] [.c, .w] (fun _ => (0 ≤ u ∧ 0 < (100 : Int) ∧ inR .u32 (u / 100)) ∧ (True)) (fun _ => []) (fun _ => [(0, (.sl b 1 3 (some 23) 1)), (4, (.int .i64 3)), (12, (.int .u32 (u / 100))), (16, (.int .u32 ((u % 100) * 2)))]) (fun _ => ⟨b, true, .cells ([z8] ++ zz 23)⟩ :: O) (fun _ => by kernel_rfl) (fun _ => ⟨(by simp only [inR]; omega), trivial⟩) ?_
  intro _
  refine C_assoc ?_
  refine X_reg [0, 4, 12] [] [.c, .c, .c, .c, .c, .c, .c, .c, .c, .c, .c, .c, (.st 0), .c, (.st 0)] (fun _ => (inR .i64 2) ∧ (inR .i64 1) ∧ (inR .u32 (((u % 100) * 2) + 1)) ∧ (0 ≤ (((u % 100) * 2) + 1) ∧ (((u % 100) * 2) + 1) < ((200 : Nat) : Int)) ∧ (0 ≤ ((u % 100) * 2) ∧ ((u % 100) * 2) < ((200 : Nat) : Int)) ∧ (0 ≤ (2 : Int) ∧ (2 : Int) < (3 : Nat)) ∧ (0 ≤ (1 : Int) ∧ (1 : Int) < (3 : Nat)) ∧ (True)) (fun _ => [b, b]) (fun _ => [(0, (.sl b 1 3 (some 23) 1)), (4, (.int .i64 3)), (12, (.int .u32 (u / 100)))]) (fun _ => ⟨b, true, .cells ([z8, z8, (.int .u8 ((SM.getD (((u % 100) * 2)).toNat 0 : Nat) : Int)), (.int .u8 ((SM.getD ((((u % 100) * 2) + 1)).toNat 0 : Nat) : Int))] ++ zz 20)⟩ :: O) (fun _ => by kernel_rfl) (fun _ => ⟨(by simp only [inR]; omega), (by simp only [inR]; omega), (by simp only [inR]; omega), (by omega), (by omega), (by omega), (by omega), trivial⟩) ?_
  intro _
  refine X_reg [0, 4, 12] [] [] (fun _ => (inR .i64 1) ∧ (True)) (fun _ => []) (fun _ => [(0, (.sl b 1 3 (some 23) 1)), (4, (.int .i64 1)), (12, (.int .u32 (u / 100)))]) (fun _ => ⟨b, true, .cells ([z8, z8, (.int .u8 ((SM.getD (((u % 100) * 2)).toNat 0 : Nat) : Int)), (.int .u8 ((SM.getD ((((u % 100) * 2) + 1)).toNat 0 : Nat) : Int))] ++ zz 20)⟩ :: O) (fun _ => by kernel_rfl) (fun _ => ⟨(by simp only [inR]; omega), trivial⟩) ?_
  intro _
  refine X_reg [0, 12, 161] [] [] (fun _ => (True)) (fun _ => []) (fun _ => [(0, (.sl b 1 3 (some 23) 1)), (12, (.int .u32 (u / 100))), (161, (.bool true))]) (fun _ => ⟨b, true, .cells ([z8, z8, (.int .u8 ((SM.getD (((u % 100) * 2)).toNat 0 : Nat) : Int)), (.int .u8 ((SM.getD ((((u % 100) * 2) + 1)).toNat 0 : Nat) : Int))] ++ zz 20)⟩ :: O) (fun _ => by kernel_rfl) (fun _ => trivial) ?_
  intro _
  refine W_if_t rfl ?_
  refine X_end [] [] [.c, .c, .c, .c, .c, (.st 0)] (fun _ => (inR .u32 (48 + (u / 100))) ∧ (inR .u8 (48 + (u / 100))) ∧ (0 ≤ (0 : Int) ∧ (0 : Int) < (3 : Nat)) ∧ (True)) (fun _ => [b]) (fun _ => []) (fun _ => ⟨b, true, .cells ([z8, (.int .u8 (48 + (u / 100))), (.int .u8 ((SM.getD (((u % 100) * 2)).toNat 0 : Nat) : Int)), (.int .u8 ((SM.getD ((((u % 100) * 2) + 1)).toNat 0 : Nat) : Int))] ++ zz 20)⟩ :: O) (fun _ => by kernel_rfl) (fun _ => ⟨(by simp only [inR]; omega), (by simp only [inR]; omega), (by omega), trivial⟩) ?_
  intro _
  exact RetQ_norm (vs := []) (N := [⟨b, true, .cells ([z8, (.int .u8 (48 + (u / 100))), (.int .u8 ((SM.getD (((u % 100) * 2)).toNat 0 : Nat) : Int)), (.int .u8 ((SM.getD ((((u % 100) * 2) + 1)).toNat 0 : Nat) : Int))] ++ zz 20)⟩]) ResV.nil (by refine ⟨rfl, ?_⟩; show [(⟨b, true, .cells ([z8, (.int .u8 (48 + (u / 100))), (.int .u8 ((SM.getD (((u % 100) * 2)).toNat 0 : Nat) : Int)), (.int .u8 ((SM.getD ((((u % 100) * 2) + 1)).toNat 0 : Nat) : Int))] ++ zz 20)⟩ : Ent)] = _; rw [sm0 (u % 100) (by omega) (by omega), sm1 (u % 100) (by omega) (by omega)]) (.cons_cons _ (.refl _))
theorem zk4 (u : Int) (h : 1000 ≤ u ∧ u < 10000) : [(48 + u % 10000 / 100 / 10).toNat, (48 + u % 10000 / 100 % 10).toNat, (48 + u % 10000 % 100 / 10).toNat, (48 + u % 10000 % 100 % 10).toNat] = N u.toNat := by
  rw [N_ge (by omega), N_ge (by omega), N_ge (by omega), N_lt (by omega)]
  simp only [List.cons_append, List.nil_append, List.cons.injEq, and_true]
  refine ⟨by omega, by omega, by omega, by omega⟩
theorem nd4 (u : Int) (h : 1000 ≤ u ∧ u < 10000) : Lib.nDigits u.toNat = 4 := Lib.nDigits_unique 3 u.toNat (by simp; omega) (by simp; omega)
theorem s78_4 (n b : Nat) (u : Int) (h : 1000 ≤ u ∧ u < 10000) : SpecW (BB mx) (RN mx (n+1)) 78 [.sl b 1 4 (some 23) 1, .int .u64 u] [⟨b, true, .cells ([z8] ++ zz 23)⟩] (fun v N => v = .tup [] ∧ N = [⟨b, true, .cells ([z8, (.int .u8 (48 + u % 10000 / 100 / 10)), (.int .u8 (48 + u % 10000 / 100 % 10)), (.int .u8 (48 + u % 10000 % 100 / 10)), (.int .u8 (48 + u % 10000 % 100 % 10))] ++ zz 19)⟩]) := by
  refine SpecW_run (c := k78) rfl rfl rfl ?_
  intro ro O
  refine X_reg [0, 1, 4] [] [] (fun _ => (True)) (fun _ => []) (fun _ => [(0, (.sl b 1 4 (some 23) 1)), (1, (.int .u64 u)), (4, (.int .i64 4))]) (fun _ => ⟨b, true, .cells ([z8] ++ zz 23)⟩ :: O) (fun _ => by kernel_rfl) (fun _ => trivial) ?_
  intro _
  refine C_block ?_
  refine W_loop (σ := Unit) (fun _ => [(0, (.sl b 1 4 (some 23) 1)), (1, (.int .u64 u)), (4, (.int .i64 4))]) (fun _ => ⟨b, true, .cells ([z8] ++ zz 23)⟩ :: O) (fun _ => True) (fun _ => 0) () ⟨rfl, rfl, rfl, trivial⟩ (.cons_cons _ (.refl _)) trivial (by simp only [fuel]; omega) ?_
  rintro _ -
  refine C_assoc ?_
  refine X_reg [0, 1, 4, 20] [] [] (fun _ => (True)) (fun _ => []) (fun _ => [(0, (.sl b 1 4 (some 23) 1)), (1, (.int .u64 u)), (4, (.int .i64 4)), (20, (.bool false))]) (fun _ => ⟨b, true, .cells ([z8] ++ zz 23)⟩ :: O) (fun _ => by kernel_rfl) (fun _ => trivial) ?_
  intro _
  refine C_if_f rfl ?_
  refine C_exit ?_
  refine X_reg [0, 4, 12] [] [] (fun _ => (inR .u32 u) ∧ (True)) (fun _ => []) (fun _ => [(0, (.sl b 1 4 (some 23) 1)), (4, (.int .i64 4)), (12, (.int .u32 u))]) (fun _ => ⟨b, true, .cells ([z8] ++ zz 23)⟩ :: O) (fun _ => by kernel_rfl) (fun _ => ⟨(by simp only [inR]; omega), trivial⟩) ?_
  intro _
  refine C_assoc ?_
  refine X_reg [0, 4, 12, 99] [] [] (fun _ => (True)) (fun _ => []) (fun _ => [(0, (.sl b 1 4 (some 23) 1)), (4, (.int .i64 4)), (12, (.int .u32 u)), (99, (.bool true))]) (fun _ => ⟨b, true, .cells ([z8] ++ zz 23)⟩ :: O) (fun _ => by kernel_rfl) (fun _ => trivial) ?_
  intro _
  refine C_if_t rfl ?_
  refine C_assoc ?_
  refine X_reg [0, 4, 12, 13] [] [.c, .w] (fun _ => (0 ≤ u ∧ 0 < (10000 : Int)) ∧ (True)) (fun _ => []) (fun _ => [(0, (.sl b 1 4 (some 23) 1)), (4, (.int .i64 4)), (12, (.int .u32 u)), (13, (.int .u32 (u % 10000)))]) (fun _ => ⟨b, true, .cells ([z8] ++ zz 23)⟩ :: O) (fun _ => by kernel_rfl) (fun _ => ⟨(by omega), trivial⟩) ?_
  intro _
  refine C_assoc ?_
  refine X_reg [0, 4, 12, 13] [] [.c, .w] (fun _ => (0 ≤ u ∧ 0 < (10000 : Int) ∧ inR .u32 (u / 10000)) ∧ (True)) (fun _ => []) (fun _ => [(0, (.sl b 1 4 (some 23) 1)), (4, (.int .i64 4)), (12, (.int .u32 (u / 10000))), (13, (.int .u32 (u % 10000)))]) (fun _ => ⟨b, true, .cells ([z8] ++ zz 23)⟩ :: O) (fun _ => by kernel_rfl) (fun _ => ⟨(by simp only [inR]; omega), trivial⟩) ?_
  intro _
  refine C_assoc ?_
  refine X_reg [0, 4, 12, 14, 15] [] [.c, .w, .c, .c, .w] (fun _ => (0 ≤ (u % 10000) ∧ 0 < (100 : Int) ∧ inR .u32 ((u % 10000) / 100)) ∧ (inR .u32 (((u % 10000) / 100) * 2)) ∧ (0 ≤ (u % 10000) ∧ 0 < (100 : Int)) ∧ (inR .u32 (((u % 10000) % 100) * 2)) ∧ (True)) (fun _ => []) (fun _ => [(0, (.sl b 1 4 (some 23) 1)), (4, (.int .i64 4)), (12, (.int .u32 (u / 10000))), (14, (.int .u32 (((u % 10000) / 100) * 2))), (15, (.int .u32 (((u % 10000) % 100) * 2)))]) (fun _ => ⟨b, true, .cells ([z8] ++ zz 23)⟩ :: O) (fun _ => by kernel_rfl) (fun _ => ⟨(by simp only [inR]; omega), (by simp only [inR]; omega), (by omega), (by simp only [inR]; omega), trivial⟩) ?_
  intro _
  refine C_assoc ?_
  refine X_reg [0, 4, 12, 14] [] [.c, .c, .c, .c, .c, .c, .c, .c, .c, .c, .c, .c, (.st 0), .c, (.st 0)] (fun _ => (inR .i64 3) ∧ (inR .i64 2) ∧ (inR .u32 ((((u % 10000) % 100) * 2) + 1)) ∧ (0 ≤ ((((u % 10000) % 100) * 2) + 1) ∧ ((((u % 10000) % 100) * 2) + 1) < ((200 : Nat) : Int)) ∧ (0 ≤ (((u % 10000) % 100) * 2) ∧ (((u % 10000) % 100) * 2) < ((200 : Nat) : Int)) ∧ (0 ≤ (3 : Int) ∧ (3 : Int) < (4 : Nat)) ∧ (0 ≤ (2 : Int) ∧ (2 : Int) < (4 : Nat)) ∧ (True)) (fun _ => [b, b]) (fun _ => [(0, (.sl b 1 4 (some 23) 1)), (4, (.int .i64 4)), (12, (.int .u32 (u / 10000))), (14, (.int .u32 (((u % 10000) / 100) * 2)))]) (fun _ => ⟨b, true, .cells ([z8, z8, z8, (.int .u8 ((SM.getD ((((u % 10000) % 100) * 2)).toNat 0 : Nat) : Int)), (.int .u8 ((SM.getD (((((u % 10000) % 100) * 2) + 1)).toNat 0 : Nat) : Int))] ++ zz 19)⟩ :: O) (fun _ => by kernel_rfl) (fun _ => ⟨(by simp only [inR]; omega), (by simp only [inR]; omega), (by simp only [inR]; omega), (by omega), (by omega), (by omega), (by omega), trivial⟩) ?_
  intro _
  refine C_assoc ?_
  refine X_reg [0, 4, 12] [] [.c, .c, .c, .c, .c, .c, .c, .c, .c, .c, .c, .c, (.st 0), .c, (.st 0)] (fun _ => (inR .i64 1) ∧ (inR .i64 0) ∧ (inR .u32 ((((u % 10000) / 100) * 2) + 1)) ∧ (0 ≤ ((((u % 10000) / 100) * 2) + 1) ∧ ((((u % 10000) / 100) * 2) + 1) < ((200 : Nat) : Int)) ∧ (0 ≤ (((u % 10000) / 100) * 2) ∧ (((u % 10000) / 100) * 2) < ((200 : Nat) : Int)) ∧ (0 ≤ (1 : Int) ∧ (1 : Int) < (4 : Nat)) ∧ (0 ≤ (0 : Int) ∧ (0 : Int) < (4 : Nat)) ∧ (True)) (fun _ => [b, b]) (fun _ => [(0, (.sl b 1 4 (some 23) 1)), (4, (.int .i64 4)), (12, (.int .u32 (u / 10000)))]) (fun _ => ⟨b, true, .cells ([z8, (.int .u8 ((SM.getD ((((u % 10000) / 100) * 2)).toNat 0 : Nat) : Int)), (.int .u8 ((SM.getD (((((u % 10000) / 100) * 2) + 1)).toNat 0 : Nat) : Int)), (.int .u8 ((SM.getD ((((u % 10000) % 100) * 2)).toNat 0 : Nat) : Int)), (.int .u8 ((SM.getD (((((u % 10000) % 100) * 2) + 1)).toNat 0 : Nat) : Int))] ++ zz 19)⟩ :: O) (fun _ => by kernel_rfl) (fun _ => ⟨(by simp only [inR]; omega), (by simp only [inR]; omega), (by simp only [inR]; omega), (by omega), (by omega), (by omega), (by omega), trivial⟩) ?_
  intro _
  refine X_reg [0, 4, 12] [] [] (fun _ => (inR .i64 0) ∧ (True)) (fun _ => []) (fun _ => [(0, (.sl b 1 4 (some 23) 1)), (4, (.int .i64 0)), (12, (.int .u32 (u / 10000)))]) (fun _ => ⟨b, true, .cells ([z8, (.int .u8 ((SM.getD ((((u % 10000) / 100) * 2)).toNat 0 : Nat) : Int)), (.int .u8 ((SM.getD (((((u % 10000) / 100) * 2) + 1)).toNat 0 : Nat) : Int)), (.int .u8 ((SM.getD ((((u % 10000) % 100) * 2)).toNat 0 : Nat) : Int)), (.int .u8 ((SM.getD (((((u % 10000) % 100) * 2) + 1)).toNat 0 : Nat) : Int))] ++ zz 19)⟩ :: O) (fun _ => by kernel_rfl) (fun _ => ⟨(by simp only [inR]; omega), trivial⟩) ?_
  intro _
  refine C_assoc ?_
  refine X_reg [0, 4, 12, 139] [] [] (fun _ => (True)) (fun _ => []) (fun _ => [(0, (.sl b 1 4 (some 23) 1)), (4, (.int .i64 0)), (12, (.int .u32 (u / 10000))), (139, (.bool false))]) (fun _ => ⟨b, true, .cells ([z8, (.int .u8 ((SM.getD ((((u % 10000) / 100) * 2)).toNat 0 : Nat) : Int)), (.int .u8 ((SM.getD (((((u % 10000) / 100) * 2) + 1)).toNat 0 : Nat) : Int)), (.int .u8 ((SM.getD ((((u % 10000) % 100) * 2)).toNat 0 : Nat) : Int)), (.int .u8 ((SM.getD (((((u % 10000) % 100) * 2) + 1)).toNat 0 : Nat) : Int))] ++ zz 19)⟩ :: O) (fun _ => by kernel_rfl) (fun _ => trivial) ?_
  intro _
  refine C_if_f rfl ?_
  refine C_skip ?_
  refine X_reg [0, 12, 161] [] [] (fun _ => (True)) (fun _ => []) (fun _ => [(0, (.sl b 1 4 (some 23) 1)), (12, (.int .u32 (u / 10000))), (161, (.bool false))]) (fun _ => ⟨b, true, .cells ([z8, (.int .u8 ((SM.getD ((((u % 10000) / 100) * 2)).toNat 0 : Nat) : Int)), (.int .u8 ((SM.getD (((((u % 10000) / 100) * 2) + 1)).toNat 0 : Nat) : Int)), (.int .u8 ((SM.getD ((((u % 10000) % 100) * 2)).toNat 0 : Nat) : Int)), (.int .u8 ((SM.getD (((((u % 10000) % 100) * 2) + 1)).toNat 0 : Nat) : Int))] ++ zz 19)⟩ :: O) (fun _ => by kernel_rfl) (fun _ => trivial) ?_
  intro _
  refine W_if_f rfl ?_
  refine W_skip ?_
  exact RetQ_norm (vs := []) (N := [⟨b, true, .cells ([z8, (.int .u8 ((SM.getD ((((u % 10000) / 100) * 2)).toNat 0 : Nat) : Int)), (.int .u8 ((SM.getD (((((u % 10000) / 100) * 2) + 1)).toNat 0 : Nat) : Int)), (.int .u8 ((SM.getD ((((u % 10000) % 100) * 2)).toNat 0 : Nat) : Int)), (.int .u8 ((SM.getD (((((u % 10000) % 100) * 2) + 1)).toNat 0 : Nat) : Int))] ++ zz 19)⟩]) ResV.nil (by refine ⟨rfl, ?_⟩; show [(⟨b, true, .cells ([z8, (.int .u8 ((SM.getD ((((u % 10000) / 100) * 2)).toNat 0 : Nat) : Int)), (.int .u8 ((SM.getD (((((u % 10000) / 100) * 2) + 1)).toNat 0 : Nat) : Int)), (.int .u8 ((SM.getD ((((u % 10000) % 100) * 2)).toNat 0 : Nat) : Int)), (.int .u8 ((SM.getD (((((u % 10000) % 100) * 2) + 1)).toNat 0 : Nat) : Int))] ++ zz 19)⟩ : Ent)] = _; rw [sm0 ((u % 10000) / 100) (by omega) (by omega), sm1 ((u % 10000) / 100) (by omega) (by omega), sm0 ((u % 10000) % 100) (by omega) (by omega), sm1 ((u % 10000) % 100) (by omega) (by omega)]) (.cons_cons _ (.refl _))
theorem zk5 (u : Int) (h : 10000 ≤ u ∧ u < 100000) : [(48 + u / 10000).toNat, (48 + u % 10000 / 100 / 10).toNat, (48 + u % 10000 / 100 % 10).toNat, (48 + u % 10000 % 100 / 10).toNat, (48 + u % 10000 % 100 % 10).toNat] = N u.toNat := by
  rw [N_ge (by omega), N_ge (by omega), N_ge (by omega), N_ge (by omega), N_lt (by omega)]
  simp only [List.cons_append, List.nil_append, List.cons.injEq, and_true]
  refine ⟨by omega, by omega, by omega, by omega, by omega⟩
theorem nd5 (u : Int) (h : 10000 ≤ u ∧ u < 100000) : Lib.nDigits u.toNat = 5 := Lib.nDigits_unique 4 u.toNat (by simp; omega) (by simp; omega)
theorem s78_5 (n b : Nat) (u : Int) (h : 10000 ≤ u ∧ u < 100000) : SpecW (BB mx) (RN mx (n+1)) 78 [.sl b 1 5 (some 23) 1, .int .u64 u] [⟨b, true, .cells ([z8] ++ zz 23)⟩] (fun v N => v = .tup [] ∧ N = [⟨b, true, .cells ([z8, (.int .u8 (48 + u / 10000)), (.int .u8 (48 + u % 10000 / 100 / 10)), (.int .u8 (48 + u % 10000 / 100 % 10)), (.int .u8 (48 + u % 10000 % 100 / 10)), (.int .u8 (48 + u % 10000 % 100 % 10))] ++ zz 18)⟩]) := by
  refine SpecW_run (c := k78) rfl rfl rfl ?_
  intro ro O
  refine X_reg [0, 1, 4] [] [] (fun _ => (True)) (fun _ => []) (fun _ => [(0, (.sl b 1 5 (some 23) 1)), (1, (.int .u64 u)), (4, (.int .i64 5))]) (fun _ => ⟨b, true, .cells ([z8] ++ zz 23)⟩ :: O) (fun _ => by kernel_rfl) (fun _ => trivial) ?_
  intro _
  refine C_block ?_
  refine W_loop (σ := Unit) (fun _ => [(0, (.sl b 1 5 (some 23) 1)), (1, (.int .u64 u)), (4, (.int .i64 5))]) (fun _ => ⟨b, true, .cells ([z8] ++ zz 23)⟩ :: O) (fun _ => True) (fun _ => 0) () ⟨rfl, rfl, rfl, trivial⟩ (.cons_cons _ (.refl _)) trivial (by simp only [fuel]; omega) ?_
  rintro _ -
  refine C_assoc ?_
  refine X_reg [0, 1, 4, 20] [] [] (fun _ => (True)) (fun _ => []) (fun _ => [(0, (.sl b 1 5 (some 23) 1)), (1, (.int .u64 u)), (4, (.int .i64 5)), (20, (.bool false))]) (fun _ => ⟨b, true, .cells ([z8] ++ zz 23)⟩ :: O) (fun _ => by kernel_rfl) (fun _ => trivial) ?_
  intro _
  refine C_if_f rfl ?_
  refine C_exit ?_
  refine X_reg [0, 4, 12] [] [] (fun _ => (inR .u32 u) ∧ (True)) (fun _ => []) (fun _ => [(0, (.sl b 1 5 (some 23) 1)), (4, (.int .i64 5)), (12, (.int .u32 u))]) (fun _ => ⟨b, true, .cells ([z8] ++ zz 23)⟩ :: O) (fun _ => by kernel_rfl) (fun _ => ⟨(by simp only [inR]; omega), trivial⟩) ?_
  intro _
  refine C_assoc ?_
  refine X_reg [0, 4, 12, 99] [] [] (fun _ => (True)) (fun _ => []) (fun _ => [(0, (.sl b 1 5 (some 23) 1)), (4, (.int .i64 5)), (12, (.int .u32 u)), (99, (.bool true))]) (fun _ => ⟨b, true, .cells ([z8] ++ zz 23)⟩ :: O) (fun _ => by kernel_rfl) (fun _ => trivial) ?_
  intro _
  refine C_if_t rfl ?_
  refine C_assoc ?_
  refine X_reg [0, 4, 12, 13] [] [.c, .w] (fun _ => (0 ≤ u ∧ 0 < (10000 : Int)) ∧ (True)) (fun _ => []) (fun _ => [(0, (.sl b 1 5 (some 23) 1)), (4, (.int .i64 5)), (12, (.int .u32 u)), (13, (.int .u32 (u % 10000)))]) (fun _ => ⟨b, true, .cells ([z8] ++ zz 23)⟩ :: O) (fun _ => by kernel_rfl) (fun _ => ⟨(by omega), trivial⟩) ?_
  intro _
  refine C_assoc ?_
  refine X_reg [0, 4, 12, 13] [] [.c, .w] (fun _ => (0 ≤ u ∧ 0 < (10000 : Int) ∧ inR .u32 (u / 10000)) ∧ (True)) (fun _ => []) (fun _ => [(0, (.sl b 1 5 (some 23) 1)), (4, (.int .i64 5)), (12, (.int .u32 (u / 10000))), (13, (.int .u32 (u % 10000)))]) (fun _ => ⟨b, true, .cells ([z8] ++ zz 23)⟩ :: O) (fun _ => by kernel_rfl) (fun _ => ⟨(by simp only [inR]; omega), trivial⟩) ?_
  intro _
  refine C_assoc ?_
  refine X_reg [0, 4, 12, 14, 15] [] [.c, .w, .c, .c, .w] (fun _ => (0 ≤ (u % 10000) ∧ 0 < (100 : Int) ∧ inR .u32 ((u % 10000) / 100)) ∧ (inR .u32 (((u % 10000) / 100) * 2)) ∧ (0 ≤ (u % 10000) ∧ 0 < (100 : Int)) ∧ (inR .u32 (((u % 10000) % 100) * 2)) ∧ (True)) (fun _ => []) (fun _ => [(0, (.sl b 1 5 (some 23) 1)), (4, (.int .i64 5)), (12, (.int .u32 (u / 10000))), (14, (.int .u32 (((u % 10000) / 100) * 2))), (15, (.int .u32 (((u % 10000) % 100) * 2)))]) (fun _ => ⟨b, true, .cells ([z8] ++ zz 23)⟩ :: O) (fun _ => by kernel_rfl) (fun _ => ⟨(by simp only [inR]; omega), (by simp only [inR]; omega), (by omega), (by simp only [inR]; omega), trivial⟩) ?_
  intro _
  refine C_assoc ?_
  refine X_reg [0, 4, 12, 14] [] [.c, .c, .c, .c, .c, .c, .c, .c, .c, .c, .c, .c, (.st 0), .c, (.st 0)] (fun _ => (inR .i64 4) ∧ (inR .i64 3) ∧ (inR .u32 ((((u % 10000) % 100) * 2) + 1)) ∧ (0 ≤ ((((u % 10000) % 100) * 2) + 1) ∧ ((((u % 10000) % 100) * 2) + 1) < ((200 : Nat) : Int)) ∧ (0 ≤ (((u % 10000) % 100) * 2) ∧ (((u % 10000) % 100) * 2) < ((200 : Nat) : Int)) ∧ (0 ≤ (4 : Int) ∧ (4 : Int) < (5 : Nat)) ∧ (0 ≤ (3 : Int) ∧ (3 : Int) < (5 : Nat)) ∧ (True)) (fun _ => [b, b]) (fun _ => [(0, (.sl b 1 5 (some 23) 1)), (4, (.int .i64 5)), (12, (.int .u32 (u / 10000))), (14, (.int .u32 (((u % 10000) / 100) * 2)))]) (fun _ => ⟨b, true, .cells ([z8, z8, z8, z8, (.int .u8 ((SM.getD ((((u % 10000) % 100) * 2)).toNat 0 : Nat) : Int)), (.int .u8 ((SM.getD (((((u % 10000) % 100) * 2) + 1)).toNat 0 : Nat) : Int))] ++ zz 18)⟩ :: O) (fun _ => by kernel_rfl) (fun _ => ⟨(by simp only [inR]; omega), (by simp only [inR]; omega), (by simp only [inR]; omega), (by omega), (by omega), (by omega), (by omega), trivial⟩) ?_
  intro _
  refine C_assoc ?_
  refine X_reg [0, 4, 12] [] [.c, .c, .c, .c, .c, .c, .c, .c, .c, .c, .c, .c, (.st 0), .c, (.st 0)] (fun _ => (inR .i64 2) ∧ (inR .i64 1) ∧ (inR .u32 ((((u % 10000) / 100) * 2) + 1)) ∧ (0 ≤ ((((u % 10000) / 100) * 2) + 1) ∧ ((((u % 10000) / 100) * 2) + 1) < ((200 : Nat) : Int)) ∧ (0 ≤ (((u % 10000) / 100) * 2) ∧ (((u % 10000) / 100) * 2) < ((200 : Nat) : Int)) ∧ (0 ≤ (2 : Int) ∧ (2 : Int) < (5 : Nat)) ∧ (0 ≤ (1 : Int) ∧ (1 : Int) < (5 : Nat)) ∧ (True)) (fun _ => [b, b]) (fun _ => [(0, (.sl b 1 5 (some 23) 1)), (4, (.int .i64 5)), (12, (.int .u32 (u / 10000)))]) (fun _ => ⟨b, true, .cells ([z8, z8, (.int .u8 ((SM.getD ((((u % 10000) / 100) * 2)).toNat 0 : Nat) : Int)), (.int .u8 ((SM.getD (((((u % 10000) / 100) * 2) + 1)).toNat 0 : Nat) : Int)), (.int .u8 ((SM.getD ((((u % 10000) % 100) * 2)).toNat 0 : Nat) : Int)), (.int .u8 ((SM.getD (((((u % 10000) % 100) * 2) + 1)).toNat 0 : Nat) : Int))] ++ zz 18)⟩ :: O) (fun _ => by kernel_rfl) (fun _ => ⟨(by simp only [inR]; omega), (by simp only [inR]; omega), (by simp only [inR]; omega), (by omega), (by omega), (by omega), (by omega), trivial⟩) ?_
  intro _
  refine X_reg [0, 4, 12] [] [] (fun _ => (inR .i64 1) ∧ (True)) (fun _ => []) (fun _ => [(0, (.sl b 1 5 (some 23) 1)), (4, (.int .i64 1)), (12, (.int .u32 (u / 10000)))]) (fun _ => ⟨b, true, .cells ([z8, z8, (.int .u8 ((SM.getD ((((u % 10000) / 100) * 2)).toNat 0 : Nat) : Int)), (.int .u8 ((SM.getD (((((u % 10000) / 100) * 2) + 1)).toNat 0 : Nat) : Int)), (.int .u8 ((SM.getD ((((u % 10000) % 100) * 2)).toNat 0 : Nat) : Int)), (.int .u8 ((SM.getD (((((u % 10000) % 100) * 2) + 1)).toNat 0 : Nat) : Int))] ++ zz 18)⟩ :: O) (fun _ => by kernel_rfl) (fun _ => ⟨(by simp only [inR]; omega), trivial⟩) ?_
  intro _
  refine C_assoc ?_
  refine X_reg [0, 4, 12, 139] [] [] (fun _ => (True)) (fun _ => []) (fun _ => [(0, (.sl b 1 5 (some 23) 1)), (4, (.int .i64 1)), (12, (.int .u32 (u / 10000))), (139, (.bool false))]) (fun _ => ⟨b, true, .cells ([z8, z8, (.int .u8 ((SM.getD ((((u % 10000) / 100) * 2)).toNat 0 : Nat) : Int)), (.int .u8 ((SM.getD (((((u % 10000) / 100) * 2) + 1)).toNat 0 : Nat) : Int)), (.int .u8 ((SM.getD ((((u % 10000) % 100) * 2)).toNat 0 : Nat) : Int)), (.int .u8 ((SM.getD (((((u % 10000) % 100) * 2) + 1)).toNat 0 : Nat) : Int))] ++ zz 18)⟩ :: O) (fun _ => by kernel_rfl) (fun _ => trivial) ?_
  intro _
  refine C_if_f rfl ?_
  refine C_skip ?_
  refine X_reg [0, 12, 161] [] [] (fun _ => (True)) (fun _ => []) (fun _ => [(0, (.sl b 1 5 (some 23) 1)), (12, (.int .u32 (u / 10000))), (161, (.bool true))]) (fun _ => ⟨b, true, .cells ([z8, z8, (.int .u8 ((SM.getD ((((u % 10000) / 100) * 2)).toNat 0 : Nat) : Int)), (.int .u8 ((SM.getD (((((u % 10000) / 100) * 2) + 1)).toNat 0 : Nat) : Int)), (.int .u8 ((SM.getD ((((u % 10000) % 100) * 2)).toNat 0 : Nat) : Int)), (.int .u8 ((SM.getD (((((u % 10000) % 100) * 2) + 1)).toNat 0 : Nat) : Int))] ++ zz 18)⟩ :: O) (fun _ => by kernel_rfl) (fun _ => trivial) ?_
  intro _
  refine W_if_t rfl ?_
  refine X_end [] [] [.c, .c, .c, .c, .c, (.st 0)] (fun _ => (inR .u32 (48 + (u / 10000))) ∧ (inR .u8 (48 + (u / 10000))) ∧ (0 ≤ (0 : Int) ∧ (0 : Int) < (5 : Nat)) ∧ (True)) (fun _ => [b]) (fun _ => []) (fun _ => ⟨b, true, .cells ([z8, (.int .u8 (48 + (u / 10000))), (.int .u8 ((SM.getD ((((u % 10000) / 100) * 2)).toNat 0 : Nat) : Int)), (.int .u8 ((SM.getD (((((u % 10000) / 100) * 2) + 1)).toNat 0 : Nat) : Int)), (.int .u8 ((SM.getD ((((u % 10000) % 100) * 2)).toNat 0 : Nat) : Int)), (.int .u8 ((SM.getD (((((u % 10000) % 100) * 2) + 1)).toNat 0 : Nat) : Int))] ++ zz 18)⟩ :: O) (fun _ => by kernel_rfl) (fun _ => ⟨(by simp only [inR]; omega), (by simp only [inR]; omega), (by omega), trivial⟩) ?_
  intro _
  exact RetQ_norm (vs := []) (N := [⟨b, true, .cells ([z8, (.int .u8 (48 + (u / 10000))), (.int .u8 ((SM.getD ((((u % 10000) / 100) * 2)).toNat 0 : Nat) : Int)), (.int .u8 ((SM.getD (((((u % 10000) / 100) * 2) + 1)).toNat 0 : Nat) : Int)), (.int .u8 ((SM.getD ((((u % 10000) % 100) * 2)).toNat 0 : Nat) : Int)), (.int .u8 ((SM.getD (((((u % 10000) % 100) * 2) + 1)).toNat 0 : Nat) : Int))] ++ zz 18)⟩]) ResV.nil (by refine ⟨rfl, ?_⟩; show [(⟨b, true, .cells ([z8, (.int .u8 (48 + (u / 10000))), (.int .u8 ((SM.getD ((((u % 10000) / 100) * 2)).toNat 0 : Nat) : Int)), (.int .u8 ((SM.getD (((((u % 10000) / 100) * 2) + 1)).toNat 0 : Nat) : Int)), (.int .u8 ((SM.getD ((((u % 10000) % 100) * 2)).toNat 0 : Nat) : Int)), (.int .u8 ((SM.getD (((((u % 10000) % 100) * 2) + 1)).toNat 0 : Nat) : Int))] ++ zz 18)⟩ : Ent)] = _; rw [sm0 ((u % 10000) / 100) (by omega) (by omega), sm1 ((u % 10000) / 100) (by omega) (by omega), sm0 ((u % 10000) % 100) (by omega) (by omega), sm1 ((u % 10000) % 100) (by omega) (by omega)]) (.cons_cons _ (.refl _))
theorem s69p3 (n : Nat) (x : Int) (h : 100 ≤ x ∧ x < 1000) : SV mx (n+3) 69 [.int .i64 x, .int .i64 10] (.str (Z x)) := by
  refine SpecQ_run (c := k69) rfl rfl rfl ?_
  intro ro O _
  refine X_reg [0, 1] [] [] (fun _ => (True)) (fun _ => []) (fun _ => [(0, (.int .i64 x)), (1, (.int .i64 10))]) (fun _ => O) (fun _ => by kernel_rfl) (fun _ => trivial) ?_
  intro _
  refine C_assoc ?_
  refine X_reg [0, 1, 11] [] [] (fun _ => (True)) (fun _ => []) (fun _ => [(0, (.int .i64 x)), (1, (.int .i64 10)), (11, (.bool true))]) (fun _ => O) (fun _ => by kernel_rfl) (fun _ => trivial) ?_
  intro _
  refine C_if_t rfl ?_
  refine C_assoc ?_
  refine C_assoc ?_
  refine X_reg [0, 17] [] [.c, .c, .c, (.g .c), (.g .c), .pk] (fun _ => (True)) (fun _ => []) (fun _ => [(0, (.int .i64 x)), (17, (.bool ((decide (0 ≤ x)) && (decide (x < 100)))))]) (fun _ => O) (fun _ => by kernel_rfl) (fun _ => trivial) ?_
  intro _
  refine C_if_f (x := _) (xp_f (by simp only [Bool.and_eq_true, Bool.or_eq_true, Bool.not_eq_true', Bool.and_eq_false_iff, Bool.or_eq_false_iff, Bool.not_eq_false', decide_eq_true_eq, decide_eq_false_iff_not, ne_eq, Decidable.not_not]; omega)) ?_
  refine C_skip ?_
  refine C_assoc ?_
  refine X_reg [0, 5] [] [] (fun ν4 => (True)) (fun ν4 => []) (fun ν4 => [(0, (.int .i64 x)), (5, (.ptr (ν4 0) 0))]) (fun ν4 => ⟨(ν4 0), true, .cells ([z8] ++ zz 23)⟩ :: O) (fun ν4 => by kernel_rfl) (fun ν4 => trivial) ?_
  intro ν4
  refine C_assoc ?_
  refine X_reg [0, 5, 6] [] [] (fun _ => (inR .u64 x) ∧ (True)) (fun _ => []) (fun _ => [(0, (.int .i64 x)), (5, (.ptr (ν4 0) 0)), (6, (.int .u64 x))]) (fun _ => ⟨(ν4 0), true, .cells ([z8] ++ zz 23)⟩ :: O) (fun _ => by kernel_rfl) (fun _ => ⟨(by simp only [inR]; omega), trivial⟩) ?_
  intro _
  refine C_assoc ?_
  refine C_assoc ?_
  refine X_reg [0, 5, 6, 23] [] [] (fun _ => (True)) (fun _ => []) (fun _ => [(0, (.int .i64 x)), (5, (.ptr (ν4 0) 0)), (6, (.int .u64 x)), (23, (.bool (decide (x < 0))))]) (fun _ => ⟨(ν4 0), true, .cells ([z8] ++ zz 23)⟩ :: O) (fun _ => by kernel_rfl) (fun _ => trivial) ?_
  intro _
  refine C_if_f (x := _) (xp_f (by rw [decide_eq_false_iff_not]; omega)) ?_
  refine C_skip ?_
  refine C_assoc ?_
  refine X_reg [0, 5, 6, 7] [] [.c, (.cl (.int .i64 3))] (fun _ => (SpecQ (BB mx) (RN mx (n+2)) 77 [(.int .u64 x)] [] fun u_ N_ => u_ = (.int .i64 3) ∧ N_ = []) ∧ (True)) (fun _ => []) (fun _ => [(0, (.int .i64 x)), (5, (.ptr (ν4 0) 0)), (6, (.int .u64 x)), (7, (.int .i64 3))]) (fun _ => ⟨(ν4 0), true, .cells ([z8] ++ zz 23)⟩ :: O) (fun _ => by kernel_rfl) (fun _ => ⟨(by have := s77 (mx := mx) n x (by omega); rw [nd3 x (by omega)] at this; exact this), trivial⟩) ?_
  intro _
  refine C_assoc ?_
  refine C_reg ?_
  refine X_some 4 [0, 5, 7, 30, 31] [] [.c, .c, (.ld (.e 0))] (fun _ => (inR .i64 4) ∧ (0 ≤ (1 : Int) ∧ (1 : Int) ≤ (4 : Int) ∧ (4 : Int) ≤ ((24 : Nat) : Int) ∧ 0 + 24 * 1 ≤ (([z8] ++ zz 23) : List AV).length) ∧ (True)) (fun _ => [(ν4 0)]) (fun _ => [(0, (.int .i64 x)), (5, (.ptr (ν4 0) 0)), (7, (.int .i64 3)), (30, (.sl (ν4 0) 1 3 (some 23) 1)), (31, (.int .u64 x))]) (fun _ => ⟨(ν4 0), true, .cells ([z8] ++ zz 23)⟩ :: O) (fun _ => by kernel_rfl) (fun _ => ⟨(by simp only [inR]; omega), ⟨by omega, by omega, by omega, Nat.le_of_ble_eq_true rfl⟩, trivial⟩) ?_
  intro _
  refine WO_callW (d := some 32) (O' := O) rfl (s78_3 _ _ x (by omega)) (.refl _) ?_
  rintro _ _ ⟨rfl, rfl⟩
  refine WO_nil ?_
  refine C_assoc ?_
  refine C_assoc ?_
  refine X_reg [5, 7, 34] [] [] (fun _ => (True)) (fun _ => []) (fun _ => [(5, (.ptr (ν4 0) 0)), (7, (.int .i64 3)), (34, (.bool (decide (x < 0))))]) (fun _ => ⟨(ν4 0), true, .cells ([z8, (.int .u8 (48 + x / 100)), (.int .u8 (48 + x % 100 / 10)), (.int .u8 (48 + x % 100 % 10))] ++ zz 20)⟩ :: O) (fun _ => by kernel_rfl) (fun _ => trivial) ?_
  intro _
  refine C_if_f (x := _) (xp_f (by rw [decide_eq_false_iff_not]; omega)) ?_
  refine C_skip ?_
  refine C_assoc ?_
  refine X_reg [4] [0] [.c, .c, (.ld (.e 0)), (.ldt (.e 0) (.str [((48 + x / 100)).toNat, ((48 + x % 100 / 10)).toNat, ((48 + x % 100 % 10)).toNat]))] (fun _ => (inR .i64 4) ∧ (0 ≤ (1 : Int) ∧ (1 : Int) ≤ (4 : Int) ∧ (4 : Int) ≤ ((24 : Nat) : Int) ∧ 0 + 24 * 1 ≤ (([z8, (.int .u8 (48 + x / 100)), (.int .u8 (48 + x % 100 / 10)), (.int .u8 (48 + x % 100 % 10))] ++ zz 20) : List AV).length) ∧ (4 ≤ 24 ∧ u8s [(.int .u8 (48 + x / 100)), (.int .u8 (48 + x % 100 / 10)), (.int .u8 (48 + x % 100 % 10))] = some [((48 + x / 100)).toNat, ((48 + x % 100 / 10)).toNat, ((48 + x % 100 % 10)).toNat]) ∧ (True)) (fun _ => [(ν4 0), (ν4 0)]) (fun _ => [(4, (.str [((48 + x / 100)).toNat, ((48 + x % 100 / 10)).toNat, ((48 + x % 100 % 10)).toNat]))]) (fun _ => O) (fun _ => by kernel_rfl) (fun _ => ⟨(by simp only [inR]; omega), ⟨by omega, by omega, by omega, Nat.le_of_ble_eq_true rfl⟩, ⟨by decide, u8s_cons (by omega) (by omega) (u8s_cons (by omega) (by omega) (u8s_cons (by omega) (by omega) (u8s_nil)))⟩, trivial⟩) ?_
  intro _
  refine C_ret ?_
  exact RetQ_ret (vs := [(.str [((48 + x / 100)).toNat, ((48 + x % 100 / 10)).toNat, ((48 + x % 100 % 10)).toNat])]) (N := []) (ResV.t rfl ResV.nil) ⟨(by rw [Z, if_neg (by omega)]; exact congrArg AV.str (zk3 x h)), rfl⟩ (.refl _)
theorem s69p4 (n : Nat) (x : Int) (h : 1000 ≤ x ∧ x < 10000) : SV mx (n+3) 69 [.int .i64 x, .int .i64 10] (.str (Z x)) := by
  refine SpecQ_run (c := k69) rfl rfl rfl ?_
  intro ro O _
  refine X_reg [0, 1] [] [] (fun _ => (True)) (fun _ => []) (fun _ => [(0, (.int .i64 x)), (1, (.int .i64 10))]) (fun _ => O) (fun _ => by kernel_rfl) (fun _ => trivial) ?_
  intro _
  refine C_assoc ?_
  refine X_reg [0, 1, 11] [] [] (fun _ => (True)) (fun _ => []) (fun _ => [(0, (.int .i64 x)), (1, (.int .i64 10)), (11, (.bool true))]) (fun _ => O) (fun _ => by kernel_rfl) (fun _ => trivial) ?_
  intro _
  refine C_if_t rfl ?_
  refine C_assoc ?_
  refine C_assoc ?_
  refine X_reg [0, 17] [] [.c, .c, .c, (.g .c), (.g .c), .pk] (fun _ => (True)) (fun _ => []) (fun _ => [(0, (.int .i64 x)), (17, (.bool ((decide (0 ≤ x)) && (decide (x < 100)))))]) (fun _ => O) (fun _ => by kernel_rfl) (fun _ => trivial) ?_
  intro _
  refine C_if_f (x := _) (xp_f (by simp only [Bool.and_eq_true, Bool.or_eq_true, Bool.not_eq_true', Bool.and_eq_false_iff, Bool.or_eq_false_iff, Bool.not_eq_false', decide_eq_true_eq, decide_eq_false_iff_not, ne_eq, Decidable.not_not]; omega)) ?_
  refine C_skip ?_
  refine C_assoc ?_
  refine X_reg [0, 5] [] [] (fun ν4 => (True)) (fun ν4 => []) (fun ν4 => [(0, (.int .i64 x)), (5, (.ptr (ν4 0) 0))]) (fun ν4 => ⟨(ν4 0), true, .cells ([z8] ++ zz 23)⟩ :: O) (fun ν4 => by kernel_rfl) (fun ν4 => trivial) ?_
  intro ν4
  refine C_assoc ?_
  refine X_reg [0, 5, 6] [] [] (fun _ => (inR .u64 x) ∧ (True)) (fun _ => []) (fun _ => [(0, (.int .i64 x)), (5, (.ptr (ν4 0) 0)), (6, (.int .u64 x))]) (fun _ => ⟨(ν4 0), true, .cells ([z8] ++ zz 23)⟩ :: O) (fun _ => by kernel_rfl) (fun _ => ⟨(by simp only [inR]; omega), trivial⟩) ?_
  intro _
  refine C_assoc ?_
  refine C_assoc ?_
  refine X_reg [0, 5, 6, 23] [] [] (fun _ => (True)) (fun _ => []) (fun _ => [(0, (.int .i64 x)), (5, (.ptr (ν4 0) 0)), (6, (.int .u64 x)), (23, (.bool (decide (x < 0))))]) (fun _ => ⟨(ν4 0), true, .cells ([z8] ++ zz 23)⟩ :: O) (fun _ => by kernel_rfl) (fun _ => trivial) ?_
  intro _
  refine C_if_f (x := _) (xp_f (by rw [decide_eq_false_iff_not]; omega)) ?_
  refine C_skip ?_
  refine C_assoc ?_
  refine X_reg [0, 5, 6, 7] [] [.c, (.cl (.int .i64 4))] (fun _ => (SpecQ (BB mx) (RN mx (n+2)) 77 [(.int .u64 x)] [] fun u_ N_ => u_ = (.int .i64 4) ∧ N_ = []) ∧ (True)) (fun _ => []) (fun _ => [(0, (.int .i64 x)), (5, (.ptr (ν4 0) 0)), (6, (.int .u64 x)), (7, (.int .i64 4))]) (fun _ => ⟨(ν4 0), true, .cells ([z8] ++ zz 23)⟩ :: O) (fun _ => by kernel_rfl) (fun _ => ⟨(by have := s77 (mx := mx) n x (by omega); rw [nd4 x (by omega)] at this; exact this), trivial⟩) ?_
  intro _
  refine C_assoc ?_
  refine C_reg ?_
  refine X_some 4 [0, 5, 7, 30, 31] [] [.c, .c, (.ld (.e 0))] (fun _ => (inR .i64 5) ∧ (0 ≤ (1 : Int) ∧ (1 : Int) ≤ (5 : Int) ∧ (5 : Int) ≤ ((24 : Nat) : Int) ∧ 0 + 24 * 1 ≤ (([z8] ++ zz 23) : List AV).length) ∧ (True)) (fun _ => [(ν4 0)]) (fun _ => [(0, (.int .i64 x)), (5, (.ptr (ν4 0) 0)), (7, (.int .i64 4)), (30, (.sl (ν4 0) 1 4 (some 23) 1)), (31, (.int .u64 x))]) (fun _ => ⟨(ν4 0), true, .cells ([z8] ++ zz 23)⟩ :: O) (fun _ => by kernel_rfl) (fun _ => ⟨(by simp only [inR]; omega), ⟨by omega, by omega, by omega, Nat.le_of_ble_eq_true rfl⟩, trivial⟩) ?_
  intro _
  refine WO_callW (d := some 32) (O' := O) rfl (s78_4 _ _ x (by omega)) (.refl _) ?_
  rintro _ _ ⟨rfl, rfl⟩
  refine WO_nil ?_
  refine C_assoc ?_
  refine C_assoc ?_
  refine X_reg [5, 7, 34] [] [] (fun _ => (True)) (fun _ => []) (fun _ => [(5, (.ptr (ν4 0) 0)), (7, (.int .i64 4)), (34, (.bool (decide (x < 0))))]) (fun _ => ⟨(ν4 0), true, .cells ([z8, (.int .u8 (48 + x % 10000 / 100 / 10)), (.int .u8 (48 + x % 10000 / 100 % 10)), (.int .u8 (48 + x % 10000 % 100 / 10)), (.int .u8 (48 + x % 10000 % 100 % 10))] ++ zz 19)⟩ :: O) (fun _ => by kernel_rfl) (fun _ => trivial) ?_
  intro _
  refine C_if_f (x := _) (xp_f (by rw [decide_eq_false_iff_not]; omega)) ?_
  refine C_skip ?_
  refine C_assoc ?_
  refine X_reg [4] [0] [.c, .c, (.ld (.e 0)), (.ldt (.e 0) (.str [((48 + x % 10000 / 100 / 10)).toNat, ((48 + x % 10000 / 100 % 10)).toNat, ((48 + x % 10000 % 100 / 10)).toNat, ((48 + x % 10000 % 100 % 10)).toNat]))] (fun _ => (inR .i64 5) ∧ (0 ≤ (1 : Int) ∧ (1 : Int) ≤ (5 : Int) ∧ (5 : Int) ≤ ((24 : Nat) : Int) ∧ 0 + 24 * 1 ≤ (([z8, (.int .u8 (48 + x % 10000 / 100 / 10)), (.int .u8 (48 + x % 10000 / 100 % 10)), (.int .u8 (48 + x % 10000 % 100 / 10)), (.int .u8 (48 + x % 10000 % 100 % 10))] ++ zz 19) : List AV).length) ∧ (5 ≤ 24 ∧ u8s [(.int .u8 (48 + x % 10000 / 100 / 10)), (.int .u8 (48 + x % 10000 / 100 % 10)), (.int .u8 (48 + x % 10000 % 100 / 10)), (.int .u8 (48 + x % 10000 % 100 % 10))] = some [((48 + x % 10000 / 100 / 10)).toNat, ((48 + x % 10000 / 100 % 10)).toNat, ((48 + x % 10000 % 100 / 10)).toNat, ((48 + x % 10000 % 100 % 10)).toNat]) ∧ (True)) (fun _ => [(ν4 0), (ν4 0)]) (fun _ => [(4, (.str [((48 + x % 10000 / 100 / 10)).toNat, ((48 + x % 10000 / 100 % 10)).toNat, ((48 + x % 10000 % 100 / 10)).toNat, ((48 + x % 10000 % 100 % 10)).toNat]))]) (fun _ => O) (fun _ => by kernel_rfl) (fun _ => ⟨(by simp only [inR]; omega), ⟨by omega, by omega, by omega, Nat.le_of_ble_eq_true rfl⟩, ⟨by decide, u8s_cons (by omega) (by omega) (u8s_cons (by omega) (by omega) (u8s_cons (by omega) (by omega) (u8s_cons (by omega) (by omega) (u8s_nil))))⟩, trivial⟩) ?_
  intro _
  refine C_ret ?_
  exact RetQ_ret (vs := [(.str [((48 + x % 10000 / 100 / 10)).toNat, ((48 + x % 10000 / 100 % 10)).toNat, ((48 + x % 10000 % 100 / 10)).toNat, ((48 + x % 10000 % 100 % 10)).toNat])]) (N := []) (ResV.t rfl ResV.nil) ⟨(by rw [Z, if_neg (by omega)]; exact congrArg AV.str (zk4 x h)), rfl⟩ (.refl _)
theorem s69p5 (n : Nat) (x : Int) (h : 10000 ≤ x ∧ x < 100000) : SV mx (n+3) 69 [.int .i64 x, .int .i64 10] (.str (Z x)) := by
  refine SpecQ_run (c := k69) rfl rfl rfl ?_
  intro ro O _
  refine X_reg [0, 1] [] [] (fun _ => (True)) (fun _ => []) (fun _ => [(0, (.int .i64 x)), (1, (.int .i64 10))]) (fun _ => O) (fun _ => by kernel_rfl) (fun _ => trivial) ?_
  intro _
  refine C_assoc ?_
  refine X_reg [0, 1, 11] [] [] (fun _ => (True)) (fun _ => []) (fun _ => [(0, (.int .i64 x)), (1, (.int .i64 10)), (11, (.bool true))]) (fun _ => O) (fun _ => by kernel_rfl) (fun _ => trivial) ?_
  intro _
  refine C_if_t rfl ?_
  refine C_assoc ?_
  refine C_assoc ?_
  refine X_reg [0, 17] [] [.c, .c, .c, (.g .c), (.g .c), .pk] (fun _ => (True)) (fun _ => []) (fun _ => [(0, (.int .i64 x)), (17, (.bool ((decide (0 ≤ x)) && (decide (x < 100)))))]) (fun _ => O) (fun _ => by kernel_rfl) (fun _ => trivial) ?_
  intro _
  refine C_if_f (x := _) (xp_f (by simp only [Bool.and_eq_true, Bool.or_eq_true, Bool.not_eq_true', Bool.and_eq_false_iff, Bool.or_eq_false_iff, Bool.not_eq_false', decide_eq_true_eq, decide_eq_false_iff_not, ne_eq, Decidable.not_not]; omega)) ?_
  refine C_skip ?_
  refine C_assoc ?_
  refine X_reg [0, 5] [] [] (fun ν4 => (True)) (fun ν4 => []) (fun ν4 => [(0, (.int .i64 x)), (5, (.ptr (ν4 0) 0))]) (fun ν4 => ⟨(ν4 0), true, .cells ([z8] ++ zz 23)⟩ :: O) (fun ν4 => by kernel_rfl) (fun ν4 => trivial) ?_
  intro ν4
  refine C_assoc ?_
  refine X_reg [0, 5, 6] [] [] (fun _ => (inR .u64 x) ∧ (True)) (fun _ => []) (fun _ => [(0, (.int .i64 x)), (5, (.ptr (ν4 0) 0)), (6, (.int .u64 x))]) (fun _ => ⟨(ν4 0), true, .cells ([z8] ++ zz 23)⟩ :: O) (fun _ => by kernel_rfl) (fun _ => ⟨(by simp only [inR]; omega), trivial⟩) ?_
  intro _
  refine C_assoc ?_
  refine C_assoc ?_
  refine X_reg [0, 5, 6, 23] [] [] (fun _ => (True)) (fun _ => []) (fun _ => [(0, (.int .i64 x)), (5, (.ptr (ν4 0) 0)), (6, (.int .u64 x)), (23, (.bool (decide (x < 0))))]) (fun _ => ⟨(ν4 0), true, .cells ([z8] ++ zz 23)⟩ :: O) (fun _ => by kernel_rfl) (fun _ => trivial) ?_
  intro _
  refine C_if_f (x := _) (xp_f (by rw [decide_eq_false_iff_not]; omega)) ?_
  refine C_skip ?_
  refine C_assoc ?_
  refine X_reg [0, 5, 6, 7] [] [.c, (.cl (.int .i64 5))] (fun _ => (SpecQ (BB mx) (RN mx (n+2)) 77 [(.int .u64 x)] [] fun u_ N_ => u_ = (.int .i64 5) ∧ N_ = []) ∧ (True)) (fun _ => []) (fun _ => [(0, (.int .i64 x)), (5, (.ptr (ν4 0) 0)), (6, (.int .u64 x)), (7, (.int .i64 5))]) (fun _ => ⟨(ν4 0), true, .cells ([z8] ++ zz 23)⟩ :: O) (fun _ => by kernel_rfl) (fun _ => ⟨(by have := s77 (mx := mx) n x (by omega); rw [nd5 x (by omega)] at this; exact this), trivial⟩) ?_
  intro _
  refine C_assoc ?_
  refine C_reg ?_
  refine X_some 4 [0, 5, 7, 30, 31] [] [.c, .c, (.ld (.e 0))] (fun _ => (inR .i64 6) ∧ (0 ≤ (1 : Int) ∧ (1 : Int) ≤ (6 : Int) ∧ (6 : Int) ≤ ((24 : Nat) : Int) ∧ 0 + 24 * 1 ≤ (([z8] ++ zz 23) : List AV).length) ∧ (True)) (fun _ => [(ν4 0)]) (fun _ => [(0, (.int .i64 x)), (5, (.ptr (ν4 0) 0)), (7, (.int .i64 5)), (30, (.sl (ν4 0) 1 5 (some 23) 1)), (31, (.int .u64 x))]) (fun _ => ⟨(ν4 0), true, .cells ([z8] ++ zz 23)⟩ :: O) (fun _ => by kernel_rfl) (fun _ => ⟨(by simp only [inR]; omega), ⟨by omega, by omega, by omega, Nat.le_of_ble_eq_true rfl⟩, trivial⟩) ?_
  intro _
  refine WO_callW (d := some 32) (O' := O) rfl (s78_5 _ _ x (by omega)) (.refl _) ?_
  rintro _ _ ⟨rfl, rfl⟩
  refine WO_nil ?_
  refine C_assoc ?_
  refine C_assoc ?_
  refine X_reg [5, 7, 34] [] [] (fun _ => (True)) (fun _ => []) (fun _ => [(5, (.ptr (ν4 0) 0)), (7, (.int .i64 5)), (34, (.bool (decide (x < 0))))]) (fun _ => ⟨(ν4 0), true, .cells ([z8, (.int .u8 (48 + x / 10000)), (.int .u8 (48 + x % 10000 / 100 / 10)), (.int .u8 (48 + x % 10000 / 100 % 10)), (.int .u8 (48 + x % 10000 % 100 / 10)), (.int .u8 (48 + x % 10000 % 100 % 10))] ++ zz 18)⟩ :: O) (fun _ => by kernel_rfl) (fun _ => trivial) ?_
  intro _
  refine C_if_f (x := _) (xp_f (by rw [decide_eq_false_iff_not]; omega)) ?_
  refine C_skip ?_
  refine C_assoc ?_
  refine X_reg [4] [0] [.c, .c, (.ld (.e 0)), (.ldt (.e 0) (.str [((48 + x / 10000)).toNat, ((48 + x % 10000 / 100 / 10)).toNat, ((48 + x % 10000 / 100 % 10)).toNat, ((48 + x % 10000 % 100 / 10)).toNat, ((48 + x % 10000 % 100 % 10)).toNat]))] (fun _ => (inR .i64 6) ∧ (0 ≤ (1 : Int) ∧ (1 : Int) ≤ (6 : Int) ∧ (6 : Int) ≤ ((24 : Nat) : Int) ∧ 0 + 24 * 1 ≤ (([z8, (.int .u8 (48 + x / 10000)), (.int .u8 (48 + x % 10000 / 100 / 10)), (.int .u8 (48 + x % 10000 / 100 % 10)), (.int .u8 (48 + x % 10000 % 100 / 10)), (.int .u8 (48 + x % 10000 % 100 % 10))] ++ zz 18) : List AV).length) ∧ (6 ≤ 24 ∧ u8s [(.int .u8 (48 + x / 10000)), (.int .u8 (48 + x % 10000 / 100 / 10)), (.int .u8 (48 + x % 10000 / 100 % 10)), (.int .u8 (48 + x % 10000 % 100 / 10)), (.int .u8 (48 + x % 10000 % 100 % 10))] = some [((48 + x / 10000)).toNat, ((48 + x % 10000 / 100 / 10)).toNat, ((48 + x % 10000 / 100 % 10)).toNat, ((48 + x % 10000 % 100 / 10)).toNat, ((48 + x % 10000 % 100 % 10)).toNat]) ∧ (True)) (fun _ => [(ν4 0), (ν4 0)]) (fun _ => [(4, (.str [((48 + x / 10000)).toNat, ((48 + x % 10000 / 100 / 10)).toNat, ((48 + x % 10000 / 100 % 10)).toNat, ((48 + x % 10000 % 100 / 10)).toNat, ((48 + x % 10000 % 100 % 10)).toNat]))]) (fun _ => O) (fun _ => by kernel_rfl) (fun _ => ⟨(by simp only [inR]; omega), ⟨by omega, by omega, by omega, Nat.le_of_ble_eq_true rfl⟩, ⟨by decide, u8s_cons (by omega) (by omega) (u8s_cons (by omega) (by omega) (u8s_cons (by omega) (by omega) (u8s_cons (by omega) (by omega) (u8s_cons (by omega) (by omega) (u8s_nil)))))⟩, trivial⟩) ?_
  intro _
  refine C_ret ?_
  exact RetQ_ret (vs := [(.str [((48 + x / 10000)).toNat, ((48 + x % 10000 / 100 / 10)).toNat, ((48 + x % 10000 / 100 % 10)).toNat, ((48 + x % 10000 % 100 / 10)).toNat, ((48 + x % 10000 % 100 % 10)).toNat])]) (N := []) (ResV.t rfl ResV.nil) ⟨(by rw [Z, if_neg (by omega)]; exact congrArg AV.str (zk5 x h)), rfl⟩ (.refl _)
theorem s69n1 (n : Nat) (x : Int) (h : 1 ≤ -x ∧ -x < 10) : SV mx (n+3) 69 [.int .i64 x, .int .i64 10] (.str (Z x)) := by
  refine SpecQ_run (c := k69) rfl rfl rfl ?_
  intro ro O _
  refine X_reg [0, 1] [] [] (fun _ => (True)) (fun _ => []) (fun _ => [(0, (.int .i64 x)), (1, (.int .i64 10))]) (fun _ => O) (fun _ => by kernel_rfl) (fun _ => trivial) ?_
  intro _
  refine C_assoc ?_
  refine X_reg [0, 1, 11] [] [] (fun _ => (True)) (fun _ => []) (fun _ => [(0, (.int .i64 x)), (1, (.int .i64 10)), (11, (.bool true))]) (fun _ => O) (fun _ => by kernel_rfl) (fun _ => trivial) ?_
  intro _
  refine C_if_t rfl ?_
  refine C_assoc ?_
  refine C_assoc ?_
  refine X_reg [0, 17] [] [.c, .c, .c, (.g .c), (.g .c), .pk] (fun _ => (True)) (fun _ => []) (fun _ => [(0, (.int .i64 x)), (17, (.bool ((decide (0 ≤ x)) && (decide (x < 100)))))]) (fun _ => O) (fun _ => by kernel_rfl) (fun _ => trivial) ?_
  intro _
  refine C_if_f (x := _) (xp_f (by simp only [Bool.and_eq_true, Bool.or_eq_true, Bool.not_eq_true', Bool.and_eq_false_iff, Bool.or_eq_false_iff, Bool.not_eq_false', decide_eq_true_eq, decide_eq_false_iff_not, ne_eq, Decidable.not_not]; omega)) ?_
  refine C_skip ?_
  refine C_assoc ?_
  refine X_reg [0, 5] [] [] (fun ν4 => (True)) (fun ν4 => []) (fun ν4 => [(0, (.int .i64 x)), (5, (.ptr (ν4 0) 0))]) (fun ν4 => ⟨(ν4 0), true, .cells ([z8] ++ zz 23)⟩ :: O) (fun ν4 => by kernel_rfl) (fun ν4 => trivial) ?_
  intro ν4
  refine C_assoc ?_
  refine X_reg [0, 5, 6] [] [.c, (.told (.int .u64 (18446744073709551616 + x)))] (fun _ => (some (AV.int .u64 (IntKind.u64.wrap x)) = some (.int .u64 (18446744073709551616 + x))) ∧ (True)) (fun _ => []) (fun _ => [(0, (.int .i64 x)), (5, (.ptr (ν4 0) 0)), (6, (.int .u64 (18446744073709551616 + x)))]) (fun _ => ⟨(ν4 0), true, .cells ([z8] ++ zz 23)⟩ :: O) (fun _ => by kernel_rfl) (fun _ => ⟨(congrArg (fun a => some (AV.int .u64 a)) (wrx (by omega))), trivial⟩) ?_
  intro _
  refine C_assoc ?_
  refine C_assoc ?_
  refine X_reg [0, 5, 6, 23] [] [] (fun _ => (True)) (fun _ => []) (fun _ => [(0, (.int .i64 x)), (5, (.ptr (ν4 0) 0)), (6, (.int .u64 (18446744073709551616 + x))), (23, (.bool (decide (x < 0))))]) (fun _ => ⟨(ν4 0), true, .cells ([z8] ++ zz 23)⟩ :: O) (fun _ => by kernel_rfl) (fun _ => trivial) ?_
  intro _
  refine C_if_t (x := _) (xp_t (by rw [decide_eq_true_eq]; omega)) ?_
  refine X_reg [0, 5, 6] [] [.c, (.told (.int .u64 (-x)))] (fun _ => (some (AV.int .u64 (IntKind.u64.wrap (-(18446744073709551616 + x)))) = some (.int .u64 (-x))) ∧ (True)) (fun _ => []) (fun _ => [(0, (.int .i64 x)), (5, (.ptr (ν4 0) 0)), (6, (.int .u64 (-x)))]) (fun _ => ⟨(ν4 0), true, .cells ([z8] ++ zz 23)⟩ :: O) (fun _ => by kernel_rfl) (fun _ => ⟨(congrArg (fun a => some (AV.int .u64 a)) (wrn (by omega))), trivial⟩) ?_
  intro _
  refine C_assoc ?_
  refine X_reg [0, 5, 6, 7] [] [.c, (.cl (.int .i64 1))] (fun _ => (SpecQ (BB mx) (RN mx (n+2)) 77 [(.int .u64 (-x))] [] fun u_ N_ => u_ = (.int .i64 1) ∧ N_ = []) ∧ (True)) (fun _ => []) (fun _ => [(0, (.int .i64 x)), (5, (.ptr (ν4 0) 0)), (6, (.int .u64 (-x))), (7, (.int .i64 1))]) (fun _ => ⟨(ν4 0), true, .cells ([z8] ++ zz 23)⟩ :: O) (fun _ => by kernel_rfl) (fun _ => ⟨(by have := s77 (mx := mx) n (-x) (by omega); rw [nd1 (-x) (by omega)] at this; exact this), trivial⟩) ?_
  intro _
  refine C_assoc ?_
  refine C_reg ?_
  refine X_some 4 [0, 5, 7, 30, 31] [] [.c, .c, (.ld (.e 0))] (fun _ => (inR .i64 2) ∧ (0 ≤ (1 : Int) ∧ (1 : Int) ≤ (2 : Int) ∧ (2 : Int) ≤ ((24 : Nat) : Int) ∧ 0 + 24 * 1 ≤ (([z8] ++ zz 23) : List AV).length) ∧ (True)) (fun _ => [(ν4 0)]) (fun _ => [(0, (.int .i64 x)), (5, (.ptr (ν4 0) 0)), (7, (.int .i64 1)), (30, (.sl (ν4 0) 1 1 (some 23) 1)), (31, (.int .u64 (-x)))]) (fun _ => ⟨(ν4 0), true, .cells ([z8] ++ zz 23)⟩ :: O) (fun _ => by kernel_rfl) (fun _ => ⟨(by simp only [inR]; omega), ⟨by omega, by omega, by omega, Nat.le_of_ble_eq_true rfl⟩, trivial⟩) ?_
  intro _
  refine WO_callW (d := some 32) (O' := O) rfl (s78_1 _ _ (-x) (by omega)) (.refl _) ?_
  rintro _ _ ⟨rfl, rfl⟩
  refine WO_nil ?_
  refine C_assoc ?_
  refine C_assoc ?_
  refine X_reg [5, 7, 34] [] [] (fun _ => (True)) (fun _ => []) (fun _ => [(5, (.ptr (ν4 0) 0)), (7, (.int .i64 1)), (34, (.bool (decide (x < 0))))]) (fun _ => ⟨(ν4 0), true, .cells ([z8, (.int .u8 (48 + (-x)))] ++ zz 22)⟩ :: O) (fun _ => by kernel_rfl) (fun _ => trivial) ?_
  intro _
  refine C_if_t (x := _) (xp_t (by rw [decide_eq_true_eq]; omega)) ?_
  refine C_assoc ?_
  refine X_reg [5, 7] [] [.c, (.st 0)] (fun _ => (0 ≤ (0 : Int) ∧ (0 : Int) < (24 : Nat)) ∧ (True)) (fun _ => [(ν4 0)]) (fun _ => [(5, (.ptr (ν4 0) 0)), (7, (.int .i64 1))]) (fun _ => ⟨(ν4 0), true, .cells ([(.int .u8 45), (.int .u8 (48 + (-x)))] ++ zz 22)⟩ :: O) (fun _ => by kernel_rfl) (fun _ => ⟨(by omega), trivial⟩) ?_
  intro _
  refine C_assoc ?_
  refine X_reg [4] [0] [.c, .c, (.ld (.e 0)), (.ldt (.e 0) (.str [45, ((48 + (-x))).toNat]))] (fun _ => (inR .i64 2) ∧ (0 ≤ (0 : Int) ∧ (0 : Int) ≤ (2 : Int) ∧ (2 : Int) ≤ ((24 : Nat) : Int) ∧ 0 + 24 * 1 ≤ (([(.int .u8 45), (.int .u8 (48 + (-x)))] ++ zz 22) : List AV).length) ∧ (2 ≤ 24 ∧ u8s [(.int .u8 45), (.int .u8 (48 + (-x)))] = some [45, ((48 + (-x))).toNat]) ∧ (True)) (fun _ => [(ν4 0), (ν4 0)]) (fun _ => [(4, (.str [45, ((48 + (-x))).toNat]))]) (fun _ => O) (fun _ => by kernel_rfl) (fun _ => ⟨(by simp only [inR]; omega), ⟨by omega, by omega, by omega, Nat.le_of_ble_eq_true rfl⟩, ⟨by decide, u8s_cons (by decide) (by decide) (u8s_cons (by omega) (by omega) (u8s_nil))⟩, trivial⟩) ?_
  intro _
  refine C_ret ?_
  exact RetQ_ret (vs := [(.str [45, ((48 + (-x))).toNat])]) (N := []) (ResV.t rfl ResV.nil) ⟨(by rw [Z, if_pos (by omega)]; exact congrArg (fun l => AV.str (45 :: l)) (zk1 (-x) (by omega))), rfl⟩ (.refl _)
theorem s69n2 (n : Nat) (x : Int) (h : 10 ≤ -x ∧ -x < 100) : SV mx (n+3) 69 [.int .i64 x, .int .i64 10] (.str (Z x)) := by
  refine SpecQ_run (c := k69) rfl rfl rfl ?_
  intro ro O _
  refine X_reg [0, 1] [] [] (fun _ => (True)) (fun _ => []) (fun _ => [(0, (.int .i64 x)), (1, (.int .i64 10))]) (fun _ => O) (fun _ => by kernel_rfl) (fun _ => trivial) ?_
  intro _
  refine C_assoc ?_
  refine X_reg [0, 1, 11] [] [] (fun _ => (True)) (fun _ => []) (fun _ => [(0, (.int .i64 x)), (1, (.int .i64 10)), (11, (.bool true))]) (fun _ => O) (fun _ => by kernel_rfl) (fun _ => trivial) ?_
  intro _
  refine C_if_t rfl ?_
  refine C_assoc ?_
  refine C_assoc ?_
  refine X_reg [0, 17] [] [.c, .c, .c, (.g .c), (.g .c), .pk] (fun _ => (True)) (fun _ => []) (fun _ => [(0, (.int .i64 x)), (17, (.bool ((decide (0 ≤ x)) && (decide (x < 100)))))]) (fun _ => O) (fun _ => by kernel_rfl) (fun _ => trivial) ?_
  intro _
  refine C_if_f (x := _) (xp_f (by simp only [Bool.and_eq_true, Bool.or_eq_true, Bool.not_eq_true', Bool.and_eq_false_iff, Bool.or_eq_false_iff, Bool.not_eq_false', decide_eq_true_eq, decide_eq_false_iff_not, ne_eq, Decidable.not_not]; omega)) ?_
  refine C_skip ?_
  refine C_assoc ?_
  refine X_reg [0, 5] [] [] (fun ν4 => (True)) (fun ν4 => []) (fun ν4 => [(0, (.int .i64 x)), (5, (.ptr (ν4 0) 0))]) (fun ν4 => ⟨(ν4 0), true, .cells ([z8] ++ zz 23)⟩ :: O) (fun ν4 => by kernel_rfl) (fun ν4 => trivial) ?_
  intro ν4
  refine C_assoc ?_
  refine X_reg [0, 5, 6] [] [.c, (.told (.int .u64 (18446744073709551616 + x)))] (fun _ => (some (AV.int .u64 (IntKind.u64.wrap x)) = some (.int .u64 (18446744073709551616 + x))) ∧ (True)) (fun _ => []) (fun _ => [(0, (.int .i64 x)), (5, (.ptr (ν4 0) 0)), (6, (.int .u64 (18446744073709551616 + x)))]) (fun _ => ⟨(ν4 0), true, .cells ([z8] ++ zz 23)⟩ :: O) (fun _ => by kernel_rfl) (fun _ => ⟨(congrArg (fun a => some (AV.int .u64 a)) (wrx (by omega))), trivial⟩) ?_
  intro _
  refine C_assoc ?_
  refine C_assoc ?_
  refine X_reg [0, 5, 6, 23] [] [] (fun _ => (True)) (fun _ => []) (fun _ => [(0, (.int .i64 x)), (5, (.ptr (ν4 0) 0)), (6, (.int .u64 (18446744073709551616 + x))), (23, (.bool (decide (x < 0))))]) (fun _ => ⟨(ν4 0), true, .cells ([z8] ++ zz 23)⟩ :: O) (fun _ => by kernel_rfl) (fun _ => trivial) ?_
  intro _
  refine C_if_t (x := _) (xp_t (by rw [decide_eq_true_eq]; omega)) ?_
  refine X_reg [0, 5, 6] [] [.c, (.told (.int .u64 (-x)))] (fun _ => (some (AV.int .u64 (IntKind.u64.wrap (-(18446744073709551616 + x)))) = some (.int .u64 (-x))) ∧ (True)) (fun _ => []) (fun _ => [(0, (.int .i64 x)), (5, (.ptr (ν4 0) 0)), (6, (.int .u64 (-x)))]) (fun _ => ⟨(ν4 0), true, .cells ([z8] ++ zz 23)⟩ :: O) (fun _ => by kernel_rfl) (fun _ => ⟨(congrArg (fun a => some (AV.int .u64 a)) (wrn (by omega))), trivial⟩) ?_
  intro _
  refine C_assoc ?_
  refine X_reg [0, 5, 6, 7] [] [.c, (.cl (.int .i64 2))] (fun _ => (SpecQ (BB mx) (RN mx (n+2)) 77 [(.int .u64 (-x))] [] fun u_ N_ => u_ = (.int .i64 2) ∧ N_ = []) ∧ (True)) (fun _ => []) (fun _ => [(0, (.int .i64 x)), (5, (.ptr (ν4 0) 0)), (6, (.int .u64 (-x))), (7, (.int .i64 2))]) (fun _ => ⟨(ν4 0), true, .cells ([z8] ++ zz 23)⟩ :: O) (fun _ => by kernel_rfl) (fun _ => ⟨(by have := s77 (mx := mx) n (-x) (by omega); rw [nd2 (-x) (by omega)] at this; exact this), trivial⟩) ?_
  intro _
  refine C_assoc ?_
  refine C_reg ?_
  refine X_some 4 [0, 5, 7, 30, 31] [] [.c, .c, (.ld (.e 0))] (fun _ => (inR .i64 3) ∧ (0 ≤ (1 : Int) ∧ (1 : Int) ≤ (3 : Int) ∧ (3 : Int) ≤ ((24 : Nat) : Int) ∧ 0 + 24 * 1 ≤ (([z8] ++ zz 23) : List AV).length) ∧ (True)) (fun _ => [(ν4 0)]) (fun _ => [(0, (.int .i64 x)), (5, (.ptr (ν4 0) 0)), (7, (.int .i64 2)), (30, (.sl (ν4 0) 1 2 (some 23) 1)), (31, (.int .u64 (-x)))]) (fun _ => ⟨(ν4 0), true, .cells ([z8] ++ zz 23)⟩ :: O) (fun _ => by kernel_rfl) (fun _ => ⟨(by simp only [inR]; omega), ⟨by omega, by omega, by omega, Nat.le_of_ble_eq_true rfl⟩, trivial⟩) ?_
  intro _
  refine WO_callW (d := some 32) (O' := O) rfl (s78_2 _ _ (-x) (by omega)) (.refl _) ?_
  rintro _ _ ⟨rfl, rfl⟩
  refine WO_nil ?_
  refine C_assoc ?_
  refine C_assoc ?_
  refine X_reg [5, 7, 34] [] [] (fun _ => (True)) (fun _ => []) (fun _ => [(5, (.ptr (ν4 0) 0)), (7, (.int .i64 2)), (34, (.bool (decide (x < 0))))]) (fun _ => ⟨(ν4 0), true, .cells ([z8, (.int .u8 (48 + (-x) % 100 / 10)), (.int .u8 (48 + (-x) % 100 % 10))] ++ zz 21)⟩ :: O) (fun _ => by kernel_rfl) (fun _ => trivial) ?_
  intro _
  refine C_if_t (x := _) (xp_t (by rw [decide_eq_true_eq]; omega)) ?_
  refine C_assoc ?_
  refine X_reg [5, 7] [] [.c, (.st 0)] (fun _ => (0 ≤ (0 : Int) ∧ (0 : Int) < (24 : Nat)) ∧ (True)) (fun _ => [(ν4 0)]) (fun _ => [(5, (.ptr (ν4 0) 0)), (7, (.int .i64 2))]) (fun _ => ⟨(ν4 0), true, .cells ([(.int .u8 45), (.int .u8 (48 + (-x) % 100 / 10)), (.int .u8 (48 + (-x) % 100 % 10))] ++ zz 21)⟩ :: O) (fun _ => by kernel_rfl) (fun _ => ⟨(by omega), trivial⟩) ?_
  intro _
  refine C_assoc ?_
  refine X_reg [4] [0] [.c, .c, (.ld (.e 0)), (.ldt (.e 0) (.str [45, ((48 + (-x) % 100 / 10)).toNat, ((48 + (-x) % 100 % 10)).toNat]))] (fun _ => (inR .i64 3) ∧ (0 ≤ (0 : Int) ∧ (0 : Int) ≤ (3 : Int) ∧ (3 : Int) ≤ ((24 : Nat) : Int) ∧ 0 + 24 * 1 ≤ (([(.int .u8 45), (.int .u8 (48 + (-x) % 100 / 10)), (.int .u8 (48 + (-x) % 100 % 10))] ++ zz 21) : List AV).length) ∧ (3 ≤ 24 ∧ u8s [(.int .u8 45), (.int .u8 (48 + (-x) % 100 / 10)), (.int .u8 (48 + (-x) % 100 % 10))] = some [45, ((48 + (-x) % 100 / 10)).toNat, ((48 + (-x) % 100 % 10)).toNat]) ∧ (True)) (fun _ => [(ν4 0), (ν4 0)]) (fun _ => [(4, (.str [45, ((48 + (-x) % 100 / 10)).toNat, ((48 + (-x) % 100 % 10)).toNat]))]) (fun _ => O) (fun _ => by kernel_rfl) (fun _ => ⟨(by simp only [inR]; omega), ⟨by omega, by omega, by omega, Nat.le_of_ble_eq_true rfl⟩, ⟨by decide, u8s_cons (by decide) (by decide) (u8s_cons (by omega) (by omega) (u8s_cons (by omega) (by omega) (u8s_nil)))⟩, trivial⟩) ?_
  intro _
  refine C_ret ?_
  exact RetQ_ret (vs := [(.str [45, ((48 + (-x) % 100 / 10)).toNat, ((48 + (-x) % 100 % 10)).toNat])]) (N := []) (ResV.t rfl ResV.nil) ⟨(by rw [Z, if_pos (by omega)]; exact congrArg (fun l => AV.str (45 :: l)) (zk2 (-x) (by omega))), rfl⟩ (.refl _)
theorem s69n3 (n : Nat) (x : Int) (h : 100 ≤ -x ∧ -x < 1000) : SV mx (n+3) 69 [.int .i64 x, .int .i64 10] (.str (Z x)) := by
  refine SpecQ_run (c := k69) rfl rfl rfl ?_
  intro ro O _
  refine X_reg [0, 1] [] [] (fun _ => (True)) (fun _ => []) (fun _ => [(0, (.int .i64 x)), (1, (.int .i64 10))]) (fun _ => O) (fun _ => by kernel_rfl) (fun _ => trivial) ?_
  intro _
  refine C_assoc ?_
  refine X_reg [0, 1, 11] [] [] (fun _ => (True)) (fun _ => []) (fun _ => [(0, (.int .i64 x)), (1, (.int .i64 10)), (11, (.bool true))]) (fun _ => O) (fun _ => by kernel_rfl) (fun _ => trivial) ?_
  intro _
  refine C_if_t rfl ?_
  refine C_assoc ?_
  refine C_assoc ?_
  refine X_reg [0, 17] [] [.c, .c, .c, (.g .c), (.g .c), .pk] (fun _ => (True)) (fun _ => []) (fun _ => [(0, (.int .i64 x)), (17, (.bool ((decide (0 ≤ x)) && (decide (x < 100)))))]) (fun _ => O) (fun _ => by kernel_rfl) (fun _ => trivial) ?_
  intro _
  refine C_if_f (x := _) (xp_f (by simp only [Bool.and_eq_true, Bool.or_eq_true, Bool.not_eq_true', Bool.and_eq_false_iff, Bool.or_eq_false_iff, Bool.not_eq_false', decide_eq_true_eq, decide_eq_false_iff_not, ne_eq, Decidable.not_not]; omega)) ?_
  refine C_skip ?_
  refine C_assoc ?_
  refine X_reg [0, 5] [] [] (fun ν4 => (True)) (fun ν4 => []) (fun ν4 => [(0, (.int .i64 x)), (5, (.ptr (ν4 0) 0))]) (fun ν4 => ⟨(ν4 0), true, .cells ([z8] ++ zz 23)⟩ :: O) (fun ν4 => by kernel_rfl) (fun ν4 => trivial) ?_
  intro ν4
  refine C_assoc ?_
  refine X_reg [0, 5, 6] [] [.c, (.told (.int .u64 (18446744073709551616 + x)))] (fun _ => (some (AV.int .u64 (IntKind.u64.wrap x)) = some (.int .u64 (18446744073709551616 + x))) ∧ (True)) (fun _ => []) (fun _ => [(0, (.int .i64 x)), (5, (.ptr (ν4 0) 0)), (6, (.int .u64 (18446744073709551616 + x)))]) (fun _ => ⟨(ν4 0), true, .cells ([z8] ++ zz 23)⟩ :: O) (fun _ => by kernel_rfl) (fun _ => ⟨(congrArg (fun a => some (AV.int .u64 a)) (wrx (by omega))), trivial⟩) ?_
  intro _
  refine C_assoc ?_
  refine C_assoc ?_
  refine X_reg [0, 5, 6, 23] [] [] (fun _ => (True)) (fun _ => []) (fun _ => [(0, (.int .i64 x)), (5, (.ptr (ν4 0) 0)), (6, (.int .u64 (18446744073709551616 + x))), (23, (.bool (decide (x < 0))))]) (fun _ => ⟨(ν4 0), true, .cells ([z8] ++ zz 23)⟩ :: O) (fun _ => by kernel_rfl) (fun _ => trivial) ?_
  intro _
  refine C_if_t (x := _) (xp_t (by rw [decide_eq_true_eq]; omega)) ?_
  refine X_reg [0, 5, 6] [] [.c, (.told (.int .u64 (-x)))] (fun _ => (some (AV.int .u64 (IntKind.u64.wrap (-(18446744073709551616 + x)))) = some (.int .u64 (-x))) ∧ (True)) (fun _ => []) (fun _ => [(0, (.int .i64 x)), (5, (.ptr (ν4 0) 0)), (6, (.int .u64 (-x)))]) (fun _ => ⟨(ν4 0), true, .cells ([z8] ++ zz 23)⟩ :: O) (fun _ => by kernel_rfl) (fun _ => ⟨(congrArg (fun a => some (AV.int .u64 a)) (wrn (by omega))), trivial⟩) ?_
  intro _
  refine C_assoc ?_
  refine X_reg [0, 5, 6, 7] [] [.c, (.cl (.int .i64 3))] (fun _ => (SpecQ (BB mx) (RN mx (n+2)) 77 [(.int .u64 (-x))] [] fun u_ N_ => u_ = (.int .i64 3) ∧ N_ = []) ∧ (True)) (fun _ => []) (fun _ => [(0, (.int .i64 x)), (5, (.ptr (ν4 0) 0)), (6, (.int .u64 (-x))), (7, (.int .i64 3))]) (fun _ => ⟨(ν4 0), true, .cells ([z8] ++ zz 23)⟩ :: O) (fun _ => by kernel_rfl) (fun _ => ⟨(by have := s77 (mx := mx) n (-x) (by omega); rw [nd3 (-x) (by omega)] at this; exact this), trivial⟩) ?_
  intro _
  refine C_assoc ?_
  refine C_reg ?_
  refine X_some 4 [0, 5, 7, 30, 31] [] [.c, .c, (.ld (.e 0))] (fun _ => (inR .i64 4) ∧ (0 ≤ (1 : Int) ∧ (1 : Int) ≤ (4 : Int) ∧ (4 : Int) ≤ ((24 : Nat) : Int) ∧ 0 + 24 * 1 ≤ (([z8] ++ zz 23) : List AV).length) ∧ (True)) (fun _ => [(ν4 0)]) (fun _ => [(0, (.int .i64 x)), (5, (.ptr (ν4 0) 0)), (7, (.int .i64 3)), (30, (.sl (ν4 0) 1 3 (some 23) 1)), (31, (.int .u64 (-x)))]) (fun _ => ⟨(ν4 0), true, .cells ([z8] ++ zz 23)⟩ :: O) (fun _ => by kernel_rfl) (fun _ => ⟨(by simp only [inR]; omega), ⟨by omega, by omega, by omega, Nat.le_of_ble_eq_true rfl⟩, trivial⟩) ?_
  intro _
  refine WO_callW (d := some 32) (O' := O) rfl (s78_3 _ _ (-x) (by omega)) (.refl _) ?_
  rintro _ _ ⟨rfl, rfl⟩
  refine WO_nil ?_
  refine C_assoc ?_
  refine C_assoc ?_
  refine X_reg [5, 7, 34] [] [] (fun _ => (True)) (fun _ => []) (fun _ => [(5, (.ptr (ν4 0) 0)), (7, (.int .i64 3)), (34, (.bool (decide (x < 0))))]) (fun _ => ⟨(ν4 0), true, .cells ([z8, (.int .u8 (48 + (-x) / 100)), (.int .u8 (48 + (-x) % 100 / 10)), (.int .u8 (48 + (-x) % 100 % 10))] ++ zz 20)⟩ :: O) (fun _ => by kernel_rfl) (fun _ => trivial) ?_
  intro _
  refine C_if_t (x := _) (xp_t (by rw [decide_eq_true_eq]; omega)) ?_
  refine C_assoc ?_
  refine X_reg [5, 7] [] [.c, (.st 0)] (fun _ => (0 ≤ (0 : Int) ∧ (0 : Int) < (24 : Nat)) ∧ (True)) (fun _ => [(ν4 0)]) (fun _ => [(5, (.ptr (ν4 0) 0)), (7, (.int .i64 3))]) (fun _ => ⟨(ν4 0), true, .cells ([(.int .u8 45), (.int .u8 (48 + (-x) / 100)), (.int .u8 (48 + (-x) % 100 / 10)), (.int .u8 (48 + (-x) % 100 % 10))] ++ zz 20)⟩ :: O) (fun _ => by kernel_rfl) (fun _ => ⟨(by omega), trivial⟩) ?_
  intro _
  refine C_assoc ?_
  refine X_reg [4] [0] [.c, .c, (.ld (.e 0)), (.ldt (.e 0) (.str [45, ((48 + (-x) / 100)).toNat, ((48 + (-x) % 100 / 10)).toNat, ((48 + (-x) % 100 % 10)).toNat]))] (fun _ => (inR .i64 4) ∧ (0 ≤ (0 : Int) ∧ (0 : Int) ≤ (4 : Int) ∧ (4 : Int) ≤ ((24 : Nat) : Int) ∧ 0 + 24 * 1 ≤ (([(.int .u8 45), (.int .u8 (48 + (-x) / 100)), (.int .u8 (48 + (-x) % 100 / 10)), (.int .u8 (48 + (-x) % 100 % 10))] ++ zz 20) : List AV).length) ∧ (4 ≤ 24 ∧ u8s [(.int .u8 45), (.int .u8 (48 + (-x) / 100)), (.int .u8 (48 + (-x) % 100 / 10)), (.int .u8 (48 + (-x) % 100 % 10))] = some [45, ((48 + (-x) / 100)).toNat, ((48 + (-x) % 100 / 10)).toNat, ((48 + (-x) % 100 % 10)).toNat]) ∧ (True)) (fun _ => [(ν4 0), (ν4 0)]) (fun _ => [(4, (.str [45, ((48 + (-x) / 100)).toNat, ((48 + (-x) % 100 / 10)).toNat, ((48 + (-x) % 100 % 10)).toNat]))]) (fun _ => O) (fun _ => by kernel_rfl) (fun _ => ⟨(by simp only [inR]; omega), ⟨by omega, by omega, by omega, Nat.le_of_ble_eq_true rfl⟩, ⟨by decide, u8s_cons (by decide) (by decide) (u8s_cons (by omega) (by omega) (u8s_cons (by omega) (by omega) (u8s_cons (by omega) (by omega) (u8s_nil))))⟩, trivial⟩) ?_
  intro _
  refine C_ret ?_
  exact RetQ_ret (vs := [(.str [45, ((48 + (-x) / 100)).toNat, ((48 + (-x) % 100 / 10)).toNat, ((48 + (-x) % 100 % 10)).toNat])]) (N := []) (ResV.t rfl ResV.nil) ⟨(by rw [Z, if_pos (by omega)]; exact congrArg (fun l => AV.str (45 :: l)) (zk3 (-x) (by omega))), rfl⟩ (.refl _)
theorem s69n4 (n : Nat) (x : Int) (h : 1000 ≤ -x ∧ -x < 10000) : SV mx (n+3) 69 [.int .i64 x, .int .i64 10] (.str (Z x)) := by
  refine SpecQ_run (c := k69) rfl rfl rfl ?_
  intro ro O _
  refine X_reg [0, 1] [] [] (fun _ => (True)) (fun _ => []) (fun _ => [(0, (.int .i64 x)), (1, (.int .i64 10))]) (fun _ => O) (fun _ => by kernel_rfl) (fun _ => trivial) ?_
  intro _
  refine C_assoc ?_
  refine X_reg [0, 1, 11] [] [] (fun _ => (True)) (fun _ => []) (fun _ => [(0, (.int .i64 x)), (1, (.int .i64 10)), (11, (.bool true))]) (fun _ => O) (fun _ => by kernel_rfl) (fun _ => trivial) ?_
  intro _
  refine C_if_t rfl ?_
  refine C_assoc ?_
  refine C_assoc ?_
  refine X_reg [0, 17] [] [.c, .c, .c, (.g .c), (.g .c), .pk] (fun _ => (True)) (fun _ => []) (fun _ => [(0, (.int .i64 x)), (17, (.bool ((decide (0 ≤ x)) && (decide (x < 100)))))]) (fun _ => O) (fun _ => by kernel_rfl) (fun _ => trivial) ?_
  intro _
  refine C_if_f (x := _) (xp_f (by simp only [Bool.and_eq_true, Bool.or_eq_true, Bool.not_eq_true', Bool.and_eq_false_iff, Bool.or_eq_false_iff, Bool.not_eq_false', decide_eq_true_eq, decide_eq_false_iff_not, ne_eq, Decidable.not_not]; omega)) ?_
  refine C_skip ?_
  refine C_assoc ?_
  refine X_reg [0, 5] [] [] (fun ν4 => (True)) (fun ν4 => []) (fun ν4 => [(0, (.int .i64 x)), (5, (.ptr (ν4 0) 0))]) (fun ν4 => ⟨(ν4 0), true, .cells ([z8] ++ zz 23)⟩ :: O) (fun ν4 => by kernel_rfl) (fun ν4 => trivial) ?_
  intro ν4
  refine C_assoc ?_
  refine X_reg [0, 5, 6] [] [.c, (.told (.int .u64 (18446744073709551616 + x)))] (fun _ => (some (AV.int .u64 (IntKind.u64.wrap x)) = some (.int .u64 (18446744073709551616 + x))) ∧ (True)) (fun _ => []) (fun _ => [(0, (.int .i64 x)), (5, (.ptr (ν4 0) 0)), (6, (.int .u64 (18446744073709551616 + x)))]) (fun _ => ⟨(ν4 0), true, .cells ([z8] ++ zz 23)⟩ :: O) (fun _ => by kernel_rfl) (fun _ => ⟨(congrArg (fun a => some (AV.int .u64 a)) (wrx (by omega))), trivial⟩) ?_
  intro _
  refine C_assoc ?_
  refine C_assoc ?_
  refine X_reg [0, 5, 6, 23] [] [] (fun _ => (True)) (fun _ => []) (fun _ => [(0, (.int .i64 x)), (5, (.ptr (ν4 0) 0)), (6, (.int .u64 (18446744073709551616 + x))), (23, (.bool (decide (x < 0))))]) (fun _ => ⟨(ν4 0), true, .cells ([z8] ++ zz 23)⟩ :: O) (fun _ => by kernel_rfl) (fun _ => trivial) ?_
  intro _
  refine C_if_t (x := _) (xp_t (by rw [decide_eq_true_eq]; omega)) ?_
  refine X_reg [0, 5, 6] [] [.c, (.told (.int .u64 (-x)))] (fun _ => (some (AV.int .u64 (IntKind.u64.wrap (-(18446744073709551616 + x)))) = some (.int .u64 (-x))) ∧ (True)) (fun _ => []) (fun _ => [(0, (.int .i64 x)), (5, (.ptr (ν4 0) 0)), (6, (.int .u64 (-x)))]) (fun _ => ⟨(ν4 0), true, .cells ([z8] ++ zz 23)⟩ :: O) (fun _ => by kernel_rfl) (fun _ => ⟨(congrArg (fun a => some (AV.int .u64 a)) (wrn (by omega))), trivial⟩) ?_
  intro _
  refine C_assoc ?_
  refine X_reg [0, 5, 6, 7] [] [.c, (.cl (.int .i64 4))] (fun _ => (SpecQ (BB mx) (RN mx (n+2)) 77 [(.int .u64 (-x))] [] fun u_ N_ => u_ = (.int .i64 4) ∧ N_ = []) ∧ (True)) (fun _ => []) (fun _ => [(0, (.int .i64 x)), (5, (.ptr (ν4 0) 0)), (6, (.int .u64 (-x))), (7, (.int .i64 4))]) (fun _ => ⟨(ν4 0), true, .cells ([z8] ++ zz 23)⟩ :: O) (fun _ => by kernel_rfl) (fun _ => ⟨(by have := s77 (mx := mx) n (-x) (by omega); rw [nd4 (-x) (by omega)] at this; exact this), trivial⟩) ?_
  intro _
  refine C_assoc ?_
  refine C_reg ?_
  refine X_some 4 [0, 5, 7, 30, 31] [] [.c, .c, (.ld (.e 0))] (fun _ => (inR .i64 5) ∧ (0 ≤ (1 : Int) ∧ (1 : Int) ≤ (5 : Int) ∧ (5 : Int) ≤ ((24 : Nat) : Int) ∧ 0 + 24 * 1 ≤ (([z8] ++ zz 23) : List AV).length) ∧ (True)) (fun _ => [(ν4 0)]) (fun _ => [(0, (.int .i64 x)), (5, (.ptr (ν4 0) 0)), (7, (.int .i64 4)), (30, (.sl (ν4 0) 1 4 (some 23) 1)), (31, (.int .u64 (-x)))]) (fun _ => ⟨(ν4 0), true, .cells ([z8] ++ zz 23)⟩ :: O) (fun _ => by kernel_rfl) (fun _ => ⟨(by simp only [inR]; omega), ⟨by omega, by omega, by omega, Nat.le_of_ble_eq_true rfl⟩, trivial⟩) ?_
  intro _
  refine WO_callW (d := some 32) (O' := O) rfl (s78_4 _ _ (-x) (by omega)) (.refl _) ?_
  rintro _ _ ⟨rfl, rfl⟩
  refine WO_nil ?_
  refine C_assoc ?_
  refine C_assoc ?_
  refine X_reg [5, 7, 34] [] [] (fun _ => (True)) (fun _ => []) (fun _ => [(5, (.ptr (ν4 0) 0)), (7, (.int .i64 4)), (34, (.bool (decide (x < 0))))]) (fun _ => ⟨(ν4 0), true, .cells ([z8, (.int .u8 (48 + (-x) % 10000 / 100 / 10)), (.int .u8 (48 + (-x) % 10000 / 100 % 10)), (.int .u8 (48 + (-x) % 10000 % 100 / 10)), (.int .u8 (48 + (-x) % 10000 % 100 % 10))] ++ zz 19)⟩ :: O) (fun _ => by kernel_rfl) (fun _ => trivial) ?_
  intro _
  refine C_if_t (x := _) (xp_t (by rw [decide_eq_true_eq]; omega)) ?_
  refine C_assoc ?_
  refine X_reg [5, 7] [] [.c, (.st 0)] (fun _ => (0 ≤ (0 : Int) ∧ (0 : Int) < (24 : Nat)) ∧ (True)) (fun _ => [(ν4 0)]) (fun _ => [(5, (.ptr (ν4 0) 0)), (7, (.int .i64 4))]) (fun _ => ⟨(ν4 0), true, .cells ([(.int .u8 45), (.int .u8 (48 + (-x) % 10000 / 100 / 10)), (.int .u8 (48 + (-x) % 10000 / 100 % 10)), (.int .u8 (48 + (-x) % 10000 % 100 / 10)), (.int .u8 (48 + (-x) % 10000 % 100 % 10))] ++ zz 19)⟩ :: O) (fun _ => by kernel_rfl) (fun _ => ⟨(by omega), trivial⟩) ?_
  intro _
  refine C_assoc ?_
  refine X_reg [4] [0] [.c, .c, (.ld (.e 0)), (.ldt (.e 0) (.str [45, ((48 + (-x) % 10000 / 100 / 10)).toNat, ((48 + (-x) % 10000 / 100 % 10)).toNat, ((48 + (-x) % 10000 % 100 / 10)).toNat, ((48 + (-x) % 10000 % 100 % 10)).toNat]))] (fun _ => (inR .i64 5) ∧ (0 ≤ (0 : Int) ∧ (0 : Int) ≤ (5 : Int) ∧ (5 : Int) ≤ ((24 : Nat) : Int) ∧ 0 + 24 * 1 ≤ (([(.int .u8 45), (.int .u8 (48 + (-x) % 10000 / 100 / 10)), (.int .u8 (48 + (-x) % 10000 / 100 % 10)), (.int .u8 (48 + (-x) % 10000 % 100 / 10)), (.int .u8 (48 + (-x) % 10000 % 100 % 10))] ++ zz 19) : List AV).length) ∧ (5 ≤ 24 ∧ u8s [(.int .u8 45), (.int .u8 (48 + (-x) % 10000 / 100 / 10)), (.int .u8 (48 + (-x) % 10000 / 100 % 10)), (.int .u8 (48 + (-x) % 10000 % 100 / 10)), (.int .u8 (48 + (-x) % 10000 % 100 % 10))] = some [45, ((48 + (-x) % 10000 / 100 / 10)).toNat, ((48 + (-x) % 10000 / 100 % 10)).toNat, ((48 + (-x) % 10000 % 100 / 10)).toNat, ((48 + (-x) % 10000 % 100 % 10)).toNat]) ∧ (True)) (fun _ => [(ν4 0), (ν4 0)]) (fun _ => [(4, (.str [45, ((48 + (-x) % 10000 / 100 / 10)).toNat, ((48 + (-x) % 10000 / 100 % 10)).toNat, ((48 + (-x) % 10000 % 100 / 10)).toNat, ((48 + (-x) % 10000 % 100 % 10)).toNat]))]) (fun _ => O) (fun _ => by kernel_rfl) (fun _ => ⟨(by simp only [inR]; omega), ⟨by omega, by omega, by omega, Nat.le_of_ble_eq_true rfl⟩, ⟨by decide, u8s_cons (by decide) (by decide) (u8s_cons (by omega) (by omega) (u8s_cons (by omega) (by omega) (u8s_cons (by omega) (by omega) (u8s_cons (by omega) (by omega) (u8s_nil)))))⟩, trivial⟩) ?_
  intro _
  refine C_ret ?_
  exact RetQ_ret (vs := [(.str [45, ((48 + (-x) % 10000 / 100 / 10)).toNat, ((48 + (-x) % 10000 / 100 % 10)).toNat, ((48 + (-x) % 10000 % 100 / 10)).toNat, ((48 + (-x) % 10000 % 100 % 10)).toNat])]) (N := []) (ResV.t rfl ResV.nil) ⟨(by rw [Z, if_pos (by omega)]; exact congrArg (fun l => AV.str (45 :: l)) (zk4 (-x) (by omega))), rfl⟩ (.refl _)
theorem s69n5 (n : Nat) (x : Int) (h : 10000 ≤ -x ∧ -x < 100000) : SV mx (n+3) 69 [.int .i64 x, .int .i64 10] (.str (Z x)) := by
  refine SpecQ_run (c := k69) rfl rfl rfl ?_
  intro ro O _
  refine X_reg [0, 1] [] [] (fun _ => (True)) (fun _ => []) (fun _ => [(0, (.int .i64 x)), (1, (.int .i64 10))]) (fun _ => O) (fun _ => by kernel_rfl) (fun _ => trivial) ?_
  intro _
  refine C_assoc ?_
  refine X_reg [0, 1, 11] [] [] (fun _ => (True)) (fun _ => []) (fun _ => [(0, (.int .i64 x)), (1, (.int .i64 10)), (11, (.bool true))]) (fun _ => O) (fun _ => by kernel_rfl) (fun _ => trivial) ?_
  intro _
  refine C_if_t rfl ?_
  refine C_assoc ?_
  refine C_assoc ?_
  refine X_reg [0, 17] [] [.c, .c, .c, (.g .c), (.g .c), .pk] (fun _ => (True)) (fun _ => []) (fun _ => [(0, (.int .i64 x)), (17, (.bool ((decide (0 ≤ x)) && (decide (x < 100)))))]) (fun _ => O) (fun _ => by kernel_rfl) (fun _ => trivial) ?_
  intro _
  refine C_if_f (x := _) (xp_f (by simp only [Bool.and_eq_true, Bool.or_eq_true, Bool.not_eq_true', Bool.and_eq_false_iff, Bool.or_eq_false_iff, Bool.not_eq_false', decide_eq_true_eq, decide_eq_false_iff_not, ne_eq, Decidable.not_not]; omega)) ?_
  refine C_skip ?_
  refine C_assoc ?_
  refine X_reg [0, 5] [] [] (fun ν4 => (True)) (fun ν4 => []) (fun ν4 => [(0, (.int .i64 x)), (5, (.ptr (ν4 0) 0))]) (fun ν4 => ⟨(ν4 0), true, .cells ([z8] ++ zz 23)⟩ :: O) (fun ν4 => by kernel_rfl) (fun ν4 => trivial) ?_
  intro ν4
  refine C_assoc ?_
  refine X_reg [0, 5, 6] [] [.c, (.told (.int .u64 (18446744073709551616 + x)))] (fun _ => (some (AV.int .u64 (IntKind.u64.wrap x)) = some (.int .u64 (18446744073709551616 + x))) ∧ (True)) (fun _ => []) (fun _ => [(0, (.int .i64 x)), (5, (.ptr (ν4 0) 0)), (6, (.int .u64 (18446744073709551616 + x)))]) (fun _ => ⟨(ν4 0), true, .cells ([z8] ++ zz 23)⟩ :: O) (fun _ => by kernel_rfl) (fun _ => ⟨(congrArg (fun a => some (AV.int .u64 a)) (wrx (by omega))), trivial⟩) ?_
  intro _
  refine C_assoc ?_
  refine C_assoc ?_
  refine X_reg [0, 5, 6, 23] [] [] (fun _ => (True)) (fun _ => []) (fun _ => [(0, (.int .i64 x)), (5, (.ptr (ν4 0) 0)), (6, (.int .u64 (18446744073709551616 + x))), (23, (.bool (decide (x < 0))))]) (fun _ => ⟨(ν4 0), true, .cells ([z8] ++ zz 23)⟩ :: O) (fun _ => by kernel_rfl) (fun _ => trivial) ?_
  intro _
  refine C_if_t (x := _) (xp_t (by rw [decide_eq_true_eq]; omega)) ?_
  refine X_reg [0, 5, 6] [] [.c, (.told (.int .u64 (-x)))] (fun _ => (some (AV.int .u64 (IntKind.u64.wrap (-(18446744073709551616 + x)))) = some (.int .u64 (-x))) ∧ (True)) (fun _ => []) (fun _ => [(0, (.int .i64 x)), (5, (.ptr (ν4 0) 0)), (6, (.int .u64 (-x)))]) (fun _ => ⟨(ν4 0), true, .cells ([z8] ++ zz 23)⟩ :: O) (fun _ => by kernel_rfl) (fun _ => ⟨(congrArg (fun a => some (AV.int .u64 a)) (wrn (by omega))), trivial⟩) ?_
  intro _
  refine C_assoc ?_
  refine X_reg [0, 5, 6, 7] [] [.c, (.cl (.int .i64 5))] (fun _ => (SpecQ (BB mx) (RN mx (n+2)) 77 [(.int .u64 (-x))] [] fun u_ N_ => u_ = (.int .i64 5) ∧ N_ = []) ∧ (True)) (fun _ => []) (fun _ => [(0, (.int .i64 x)), (5, (.ptr (ν4 0) 0)), (6, (.int .u64 (-x))), (7, (.int .i64 5))]) (fun _ => ⟨(ν4 0), true, .cells ([z8] ++ zz 23)⟩ :: O) (fun _ => by kernel_rfl) (fun _ => ⟨(by have := s77 (mx := mx) n (-x) (by omega); rw [nd5 (-x) (by omega)] at this; exact this), trivial⟩) ?_
  intro _
  refine C_assoc ?_
  refine C_reg ?_
  refine X_some 4 [0, 5, 7, 30, 31] [] [.c, .c, (.ld (.e 0))] (fun _ => (inR .i64 6) ∧ (0 ≤ (1 : Int) ∧ (1 : Int) ≤ (6 : Int) ∧ (6 : Int) ≤ ((24 : Nat) : Int) ∧ 0 + 24 * 1 ≤ (([z8] ++ zz 23) : List AV).length) ∧ (True)) (fun _ => [(ν4 0)]) (fun _ => [(0, (.int .i64 x)), (5, (.ptr (ν4 0) 0)), (7, (.int .i64 5)), (30, (.sl (ν4 0) 1 5 (some 23) 1)), (31, (.int .u64 (-x)))]) (fun _ => ⟨(ν4 0), true, .cells ([z8] ++ zz 23)⟩ :: O) (fun _ => by kernel_rfl) (fun _ => ⟨(by simp only [inR]; omega), ⟨by omega, by omega, by omega, Nat.le_of_ble_eq_true rfl⟩, trivial⟩) ?_
  intro _
  refine WO_callW (d := some 32) (O' := O) rfl (s78_5 _ _ (-x) (by omega)) (.refl _) ?_
  rintro _ _ ⟨rfl, rfl⟩
  refine WO_nil ?_
  refine C_assoc ?_
  refine C_assoc ?_
  refine X_reg [5, 7, 34] [] [] (fun _ => (True)) (fun _ => []) (fun _ => [(5, (.ptr (ν4 0) 0)), (7, (.int .i64 5)), (34, (.bool (decide (x < 0))))]) (fun _ => ⟨(ν4 0), true, .cells ([z8, (.int .u8 (48 + (-x) / 10000)), (.int .u8 (48 + (-x) % 10000 / 100 / 10)), (.int .u8 (48 + (-x) % 10000 / 100 % 10)), (.int .u8 (48 + (-x) % 10000 % 100 / 10)), (.int .u8 (48 + (-x) % 10000 % 100 % 10))] ++ zz 18)⟩ :: O) (fun _ => by kernel_rfl) (fun _ => trivial) ?_
  intro _
  refine C_if_t (x := _) (xp_t (by rw [decide_eq_true_eq]; omega)) ?_
  refine C_assoc ?_
  refine X_reg [5, 7] [] [.c, (.st 0)] (fun _ => (0 ≤ (0 : Int) ∧ (0 : Int) < (24 : Nat)) ∧ (True)) (fun _ => [(ν4 0)]) (fun _ => [(5, (.ptr (ν4 0) 0)), (7, (.int .i64 5))]) (fun _ => ⟨(ν4 0), true, .cells ([(.int .u8 45), (.int .u8 (48 + (-x) / 10000)), (.int .u8 (48 + (-x) % 10000 / 100 / 10)), (.int .u8 (48 + (-x) % 10000 / 100 % 10)), (.int .u8 (48 + (-x) % 10000 % 100 / 10)), (.int .u8 (48 + (-x) % 10000 % 100 % 10))] ++ zz 18)⟩ :: O) (fun _ => by kernel_rfl) (fun _ => ⟨(by omega), trivial⟩) ?_
  intro _
  refine C_assoc ?_
  refine X_reg [4] [0] [.c, .c, (.ld (.e 0)), (.ldt (.e 0) (.str [45, ((48 + (-x) / 10000)).toNat, ((48 + (-x) % 10000 / 100 / 10)).toNat, ((48 + (-x) % 10000 / 100 % 10)).toNat, ((48 + (-x) % 10000 % 100 / 10)).toNat, ((48 + (-x) % 10000 % 100 % 10)).toNat]))] (fun _ => (inR .i64 6) ∧ (0 ≤ (0 : Int) ∧ (0 : Int) ≤ (6 : Int) ∧ (6 : Int) ≤ ((24 : Nat) : Int) ∧ 0 + 24 * 1 ≤ (([(.int .u8 45), (.int .u8 (48 + (-x) / 10000)), (.int .u8 (48 + (-x) % 10000 / 100 / 10)), (.int .u8 (48 + (-x) % 10000 / 100 % 10)), (.int .u8 (48 + (-x) % 10000 % 100 / 10)), (.int .u8 (48 + (-x) % 10000 % 100 % 10))] ++ zz 18) : List AV).length) ∧ (6 ≤ 24 ∧ u8s [(.int .u8 45), (.int .u8 (48 + (-x) / 10000)), (.int .u8 (48 + (-x) % 10000 / 100 / 10)), (.int .u8 (48 + (-x) % 10000 / 100 % 10)), (.int .u8 (48 + (-x) % 10000 % 100 / 10)), (.int .u8 (48 + (-x) % 10000 % 100 % 10))] = some [45, ((48 + (-x) / 10000)).toNat, ((48 + (-x) % 10000 / 100 / 10)).toNat, ((48 + (-x) % 10000 / 100 % 10)).toNat, ((48 + (-x) % 10000 % 100 / 10)).toNat, ((48 + (-x) % 10000 % 100 % 10)).toNat]) ∧ (True)) (fun _ => [(ν4 0), (ν4 0)]) (fun _ => [(4, (.str [45, ((48 + (-x) / 10000)).toNat, ((48 + (-x) % 10000 / 100 / 10)).toNat, ((48 + (-x) % 10000 / 100 % 10)).toNat, ((48 + (-x) % 10000 % 100 / 10)).toNat, ((48 + (-x) % 10000 % 100 % 10)).toNat]))]) (fun _ => O) (fun _ => by kernel_rfl) (fun _ => ⟨(by simp only [inR]; omega), ⟨by omega, by omega, by omega, Nat.le_of_ble_eq_true rfl⟩, ⟨by decide, u8s_cons (by decide) (by decide) (u8s_cons (by omega) (by omega) (u8s_cons (by omega) (by omega) (u8s_cons (by omega) (by omega) (u8s_cons (by omega) (by omega) (u8s_cons (by omega) (by omega) (u8s_nil))))))⟩, trivial⟩) ?_
  intro _
  refine C_ret ?_
  exact RetQ_ret (vs := [(.str [45, ((48 + (-x) / 10000)).toNat, ((48 + (-x) % 10000 / 100 / 10)).toNat, ((48 + (-x) % 10000 / 100 % 10)).toNat, ((48 + (-x) % 10000 % 100 / 10)).toNat, ((48 + (-x) % 10000 % 100 % 10)).toNat])]) (N := []) (ResV.t rfl ResV.nil) ⟨(by rw [Z, if_pos (by omega)]; exact congrArg (fun l => AV.str (45 :: l)) (zk5 (-x) (by omega))), rfl⟩ (.refl _)
theorem s69s (n : Nat) (x : Int) (h : 0 ≤ x ∧ x < 100) : SV mx (n+3) 69 [.int .i64 x, .int .i64 10] (.str (Z x)) := by
  have c76 : SV mx (n+2) 76 [.int .i64 x] (.str (Z x)) := by
    by_cases a : x < 10
    · exact s76a (n+1) x ⟨h.1, a⟩
    · exact s76b (n+1) x ⟨by omega, h.2⟩
  refine SpecQ_run (c := k69) rfl rfl rfl ?_
  intro ro O _
  refine X_reg [0, 1] [] [] (fun _ => (True)) (fun _ => []) (fun _ => [(0, (.int .i64 x)), (1, (.int .i64 10))]) (fun _ => O) (fun _ => by kernel_rfl) (fun _ => trivial) ?_
  intro _
  refine C_assoc ?_
  refine X_reg [0, 1, 11] [] [] (fun _ => (True)) (fun _ => []) (fun _ => [(0, (.int .i64 x)), (1, (.int .i64 10)), (11, (.bool true))]) (fun _ => O) (fun _ => by kernel_rfl) (fun _ => trivial) ?_
  intro _
  refine C_if_t rfl ?_
  refine C_assoc ?_
  refine C_assoc ?_
  refine X_reg [0, 17] [] [.c, .c, .c, (.g .c), (.g .c), .pk] (fun _ => (True)) (fun _ => []) (fun _ => [(0, (.int .i64 x)), (17, (.bool ((decide (0 ≤ x)) && (decide (x < 100)))))]) (fun _ => O) (fun _ => by kernel_rfl) (fun _ => trivial) ?_
  intro _
  refine C_if_t (x := _) (xp_t (by simp only [Bool.and_eq_true, Bool.or_eq_true, Bool.not_eq_true', Bool.and_eq_false_iff, Bool.or_eq_false_iff, Bool.not_eq_false', decide_eq_true_eq, decide_eq_false_iff_not, ne_eq, Decidable.not_not]; omega)) ?_
  refine C_assoc ?_
  refine X_reg [4] [] [.c, (.cl (.str (Z x)))] (fun _ => (SpecQ (BB mx) (RN mx (n+2)) 76 [(.int .i64 x)] [] fun u_ N_ => u_ = (.str (Z x)) ∧ N_ = []) ∧ (True)) (fun _ => []) (fun _ => [(4, (.str (Z x)))]) (fun _ => O) (fun _ => by kernel_rfl) (fun _ => ⟨c76, trivial⟩) ?_
  intro _
  refine C_ret ?_
  exact RetQ_ret (vs := [(.str (Z x))]) (N := []) (ResV.t rfl ResV.nil) ⟨by rfl, rfl⟩ (.refl _)
theorem s69 (n : Nat) (x : Int) (h : -100000 < x ∧ x < 100000) : SV mx (n+3) 69 [.int .i64 x, .int .i64 10] (.str (Z x)) := by
  by_cases h1 : x < 0
  · by_cases a1 : -x < 10
    · exact s69n1 n x ⟨by omega, a1⟩
    by_cases a2 : -x < 100
    · exact s69n2 n x ⟨by omega, a2⟩
    by_cases a3 : -x < 1000
    · exact s69n3 n x ⟨by omega, a3⟩
    by_cases a4 : -x < 10000
    · exact s69n4 n x ⟨by omega, a4⟩
    · exact s69n5 n x ⟨by omega, by omega⟩
  · by_cases a2 : x < 100
    · exact s69s n x ⟨by omega, a2⟩
    by_cases a3 : x < 1000
    · exact s69p3 n x ⟨by omega, a3⟩
    by_cases a4 : x < 10000
    · exact s69p4 n x ⟨by omega, a4⟩
    · exact s69p5 n x ⟨by omega, by omega⟩
theorem s58 (n : Nat) (x : Int) (h : -100000 < x ∧ x < 100000) : SV mx (n+4) 58 [.int .i64 x] (.str (Z x)) := by
  refine SpecQ_run (c := k58) rfl rfl rfl ?_
  intro ro O _
  refine X_reg [0] [] [] (fun _ => (True)) (fun _ => []) (fun _ => [(0, (.int .i64 x))]) (fun _ => O) (fun _ => by kernel_rfl) (fun _ => trivial) ?_
  intro _
  refine X_reg [2] [] [.c, (.cl (.str (Z x)))] (fun _ => (SpecQ (BB mx) (RN mx (n+3)) 69 [(.int .i64 x), (.int .i64 10)] [] fun u_ N_ => u_ = (.str (Z x)) ∧ N_ = []) ∧ (True)) (fun _ => []) (fun _ => [(2, (.str (Z x)))]) (fun _ => O) (fun _ => by kernel_rfl) (fun _ => ⟨s69 n x h, trivial⟩) ?_
  intro _
  refine W_ret ?_
  exact RetQ_ret (vs := [(.str (Z x))]) (N := []) (ResV.t rfl ResV.nil) ⟨by rfl, rfl⟩ (.refl _)
theorem s51 (n : Nat) (x : Int) (h : -100000 < x ∧ x < 100000) : SV mx (n+5) 51 [.int .i64 x] (.str (Z x)) := by
  refine SpecQ_run (c := k51) rfl rfl rfl ?_
  intro ro O _
  refine X_reg [0] [] [] (fun _ => (True)) (fun _ => []) (fun _ => [(0, (.int .i64 x))]) (fun _ => O) (fun _ => by kernel_rfl) (fun _ => trivial) ?_
  intro _
  refine X_reg [2] [] [.c, (.cl (.str (Z x)))] (fun _ => (SpecQ (BB mx) (RN mx (n+4)) 58 [(.int .i64 x)] [] fun u_ N_ => u_ = (.str (Z x)) ∧ N_ = []) ∧ (True)) (fun _ => []) (fun _ => [(2, (.str (Z x)))]) (fun _ => O) (fun _ => by kernel_rfl) (fun _ => ⟨s58 n x h, trivial⟩) ?_
  intro _
  refine W_ret ?_
  exact RetQ_ret (vs := [(.str (Z x))]) (N := []) (ResV.t rfl ResV.nil) ⟨by rfl, rfl⟩ (.refl _)
end Vm
end Go.Proofs.YtgncjbodicabnaaDoor

