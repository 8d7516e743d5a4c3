/-
  The eight turns: where they bring a point, and their products.
  Moves: what the functions of the packages answer, as the machine runs them.
-/
import Derived.Test.YtgncjbodicabnaaDoorVmP
import Derived.Test.YtgncjbodicabnaaDoorVmWT
import Derived.Test.YtgncjbodicabnaaDoorVmWJ
set_option linter.unusedSimpArgs false
set_option linter.unusedVariables false

namespace Go.Proofs.YtgncjbodicabnaaDoor
namespace Vm
variable {mL : Int}
open Go Go.Vm Go.Vm.W
set_option maxRecDepth 100000

def mx (t x y : Int) : Int := if t = 1 then -y else if t = 2 then -x else if t = 3 then y else if t = 4 then -x else if t = 5 then -y else if t = 6 then x else if t = 7 then y else x
def my (t x y : Int) : Int := if t = 1 then x else if t = 2 then -y else if t = 3 then -x else if t = 4 then y else if t = 5 then -x else if t = 6 then -y else if t = 7 then x else y
def cmp (t s : Int) : Int := ([0, 1, 2, 3, 4, 5, 6, 7, 1, 2, 3, 0, 7, 4, 5, 6, 2, 3, 0, 1, 6, 7, 4, 5, 3, 0, 1, 2, 5, 6, 7, 4, 4, 5, 6, 7, 0, 1, 2, 3, 5, 6, 7, 4, 3, 0, 1, 2, 6, 7, 4, 5, 2, 3, 0, 1, 7, 4, 5, 6, 1, 2, 3, 0] : List Int).getD (t.toNat * 8 + s.toNat) 0
def inv (t : Int) : Int := ([0, 3, 2, 1, 4, 5, 6, 7] : List Int).getD t.toNat 0
theorem eight {t : Int} (h : 0 ≤ t ∧ t ≤ 7) : t = 0 ∨ t = 1 ∨ t = 2 ∨ t = 3 ∨ t = 4 ∨ t = 5 ∨ t = 6 ∨ t = 7 := by omega
theorem cmp_in {t s : Int} (ht : 0 ≤ t ∧ t ≤ 7) (hs : 0 ≤ s ∧ s ≤ 7) : 0 ≤ cmp t s ∧ cmp t s ≤ 7 := by
  rcases eight ht with rfl | rfl | rfl | rfl | rfl | rfl | rfl | rfl <;> rcases eight hs with rfl | rfl | rfl | rfl | rfl | rfl | rfl | rfl <;> decide
theorem cmp_mx {t s : Int} (ht : 0 ≤ t ∧ t ≤ 7) (hs : 0 ≤ s ∧ s ≤ 7) (x y : Int) : mx (cmp t s) x y = mx s (mx t x y) (my t x y) := by
  rcases eight ht with rfl | rfl | rfl | rfl | rfl | rfl | rfl | rfl <;> rcases eight hs with rfl | rfl | rfl | rfl | rfl | rfl | rfl | rfl <;> simp [cmp, mx, my]
theorem cmp_my {t s : Int} (ht : 0 ≤ t ∧ t ≤ 7) (hs : 0 ≤ s ∧ s ≤ 7) (x y : Int) : my (cmp t s) x y = my s (mx t x y) (my t x y) := by
  rcases eight ht with rfl | rfl | rfl | rfl | rfl | rfl | rfl | rfl <;> rcases eight hs with rfl | rfl | rfl | rfl | rfl | rfl | rfl | rfl <;> simp [cmp, mx, my]
theorem mat_inj {t s : Int} (ht : 0 ≤ t ∧ t ≤ 7) (hs : 0 ≤ s ∧ s ≤ 7) (h1 : mx t 1 0 = mx s 1 0) (h2 : mx t 0 1 = mx s 0 1) (h3 : my t 1 0 = my s 1 0) (h4 : my t 0 1 = my s 0 1) : t = s := by
  rcases eight ht with rfl | rfl | rfl | rfl | rfl | rfl | rfl | rfl <;> rcases eight hs with rfl | rfl | rfl | rfl | rfl | rfl | rfl | rfl <;> first | rfl | (exfalso; revert h1 h2 h3 h4; decide)
theorem mx_lin {t : Int} (ht : 0 ≤ t ∧ t ≤ 7) (x y : Int) : mx t 1 0 * x + mx t 0 1 * y = mx t x y := by
  rcases eight ht with rfl | rfl | rfl | rfl | rfl | rfl | rfl | rfl <;> simp [mx]
theorem my_lin {t : Int} (ht : 0 ≤ t ∧ t ≤ 7) (x y : Int) : my t 1 0 * x + my t 0 1 * y = my t x y := by
  rcases eight ht with rfl | rfl | rfl | rfl | rfl | rfl | rfl | rfl <;> simp [my]
theorem mx_bd {t : Int} (ht : 0 ≤ t ∧ t ≤ 7) {x y M : Int} (hx : -M ≤ x ∧ x ≤ M) (hy : -M ≤ y ∧ y ≤ M) : -M ≤ mx t x y ∧ mx t x y ≤ M := by
  rcases eight ht with rfl | rfl | rfl | rfl | rfl | rfl | rfl | rfl <;> simp [mx] <;> omega
theorem my_bd {t : Int} (ht : 0 ≤ t ∧ t ≤ 7) {x y M : Int} (hx : -M ≤ x ∧ x ≤ M) (hy : -M ≤ y ∧ y ≤ M) : -M ≤ my t x y ∧ my t x y ≤ M := by
  rcases eight ht with rfl | rfl | rfl | rfl | rfl | rfl | rfl | rfl <;> simp [my] <;> omega
theorem mxy_even {t : Int} (ht : 0 ≤ t ∧ t ≤ 7) (x y : Int) : (mx t x y + my t x y) % 2 = (x + y) % 2 := by
  rcases eight ht with rfl | rfl | rfl | rfl | rfl | rfl | rfl | rfl <;> simp [mx, my] <;> omega
theorem inv_in {t : Int} (ht : 0 ≤ t ∧ t ≤ 7) : 0 ≤ inv t ∧ inv t ≤ 7 := by
  rcases eight ht with rfl | rfl | rfl | rfl | rfl | rfl | rfl | rfl <;> decide
theorem cmp_inv {t : Int} (ht : 0 ≤ t ∧ t ≤ 7) : cmp t (inv t) = 0 ∧ cmp (inv t) t = 0 := by
  rcases eight ht with rfl | rfl | rfl | rfl | rfl | rfl | rfl | rfl <;> decide
theorem cmp_zero {t s : Int} (ht : 0 ≤ t ∧ t ≤ 7) (hs : 0 ≤ s ∧ s ≤ 7) (h : cmp t s = 0) : s = inv t := by
  rcases eight ht with rfl | rfl | rfl | rfl | rfl | rfl | rfl | rfl <;> rcases eight hs with rfl | rfl | rfl | rfl | rfl | rfl | rfl | rfl <;> first | rfl | (exfalso; revert h; decide)
theorem mx_inv {t : Int} (ht : 0 ≤ t ∧ t ≤ 7) (x y : Int) : mx t (mx (inv t) x y) (my (inv t) x y) = x ∧ my t (mx (inv t) x y) (my (inv t) x y) = y := by
  rcases eight ht with rfl | rfl | rfl | rfl | rfl | rfl | rfl | rfl <;> simp [inv, mx, my]
/-- The matrix of a turn. -/
def mat (t : Int) : List AV := [.int .i64 (mx t 1 0), .int .i64 (mx t 0 1), .int .i64 (my t 1 0), .int .i64 (my t 0 1)]
def turnsL : List AV := [.int .i64 1, .int .i64 0, .int .i64 0, .int .i64 1, .int .i64 0, .int .i64 (-1), .int .i64 1, .int .i64 0, .int .i64 (-1), .int .i64 0, .int .i64 0, .int .i64 (-1), .int .i64 0, .int .i64 1, .int .i64 (-1), .int .i64 0, .int .i64 (-1), .int .i64 0, .int .i64 0, .int .i64 1, .int .i64 0, .int .i64 (-1), .int .i64 (-1), .int .i64 0, .int .i64 1, .int .i64 0, .int .i64 0, .int .i64 (-1), .int .i64 0, .int .i64 1, .int .i64 1, .int .i64 0]
theorem glob_turns : Glob (BB mL) 0 turnsL := Glob_of (es := ex mL ++ es) (H0_eq mL).symm (by show _ < nx0; decide) (by kernel_rfl)
theorem turns_at {t : Int} (ht : 0 ≤ t ∧ t ≤ 7) {o : Nat} (ho : o = t.toNat * 4) : ldv true 4 o turnsL = some (.agg (mat t)) := by
  subst ho
  rcases eight ht with rfl | rfl | rfl | rfl | rfl | rfl | rfl | rfl <;> rfl
theorem mat_bd {t : Int} (ht : 0 ≤ t ∧ t ≤ 7) : (-1 ≤ mx t 1 0 ∧ mx t 1 0 ≤ 1) ∧ (-1 ≤ mx t 0 1 ∧ mx t 0 1 ≤ 1) ∧ (-1 ≤ my t 1 0 ∧ my t 1 0 ≤ 1) ∧ (-1 ≤ my t 0 1 ∧ my t 0 1 ≤ 1) := by
  rcases eight ht with rfl | rfl | rfl | rfl | rfl | rfl | rfl | rfl <;> decide
theorem mul_bd {a x M : Int} (ha : -1 ≤ a ∧ a ≤ 1) (hx : -M ≤ x ∧ x ≤ M) : -M ≤ a * x ∧ a * x ≤ M := by
  have : a = -1 ∨ a = 0 ∨ a = 1 := by omega
  rcases this with rfl | rfl | rfl <;> omega
end Vm
end Go.Proofs.YtgncjbodicabnaaDoor

namespace Go.Proofs.YtgncjbodicabnaaDoor
namespace Vm
variable {mx : Int}
open Go Go.Vm Go.Vm.W
set_option maxRecDepth 100000
attribute [local irreducible] W WO SpecQ runM

/-- The examples of the chapter: the call that is told. -/
def told : Memo := memoOr (tAtoi 50 109) (memoOr (tPU 49 109) (memoOr (tSplit 48) (memoOr (tLen 86) (tLog 85))))
def mm : Memo := memoOr (memo1 14) told
noncomputable abbrev RN (mx : Int) (n : Nat) := runM (BB mx) mm prog n
abbrev SV (mx : Int) (n : Nat) (f : FuncId) (az : List AV) (v : AV) : Prop := SpecQ (BB mx) (RN mx n) f az [] (fun u N => u = v ∧ N = [])

theorem s53 (n : Nat) (x : Int) : SV mx (n+1) 53 [.int .i64 x] (.bool (decide (x < -16384 ∨ 16384 < x))) := by
  refine SpecQ_run (c := k53) rfl rfl rfl ?_
  intro ro O _
  unfold k53
  repeat' (first
    | (refine A_p ?_; first | refine D_mov rfl ?_ | (refine A_bin ?_; first | refine D_lss rfl rfl ?_ | refine D_gtr rfl rfl ?_) | refine D_pick_t rfl rfl ?_ | refine D_pick_f rfl rfl ?_)
    | (refine A_g ?_; first | refine G_do rfl ?_ | refine G_no rfl ?_ | refine G_skip rfl ?_ | (refine WO_guard_dec rfl ?_ ?_ <;> intro h <;> try (exfalso; omega)))
    | refine WO_nil ?_
    | (refine A_seq ?_; first | refine C_reg ?_ | refine C_assoc ?_ | refine C_ret ?_)
    | refine W_ret ?_
    | refine W_region ?_
    | refine R_t rfl (by repeat (first | exact List.Sublist.refl _ | refine List.Sublist.cons _ ?_)) ?_)
  all_goals simp [h]

/-- A valid move. -/
def vm (t x y : Int) : Prop := t ≤ 7 ∧ -16384 ≤ x ∧ x ≤ 16384 ∧ -16384 ≤ y ∧ y ≤ 16384 ∧ (x + y) % 2 = 0
theorem tmod2 (a : Int) : a.tmod 2 = 0 ↔ a % 2 = 0 := ⟨fun h => Int.emod_eq_zero_of_dvd (Int.dvd_of_tmod_eq_zero h), fun h => Int.tmod_eq_zero_of_dvd (Int.dvd_of_emod_eq_zero h)⟩
theorem s34 (n : Nat) (k x y : Int) (h0 : 0 ≤ k ∧ k ≤ 255) (hv : vm k x y) : SV mx (n+2) 34 [.agg [.int .u8 k, .int .i64 x, .int .i64 y]] (.int .i64 0) := by
  obtain ⟨v1, v2, v3, v4, v5, v6⟩ := hv
  refine SpecQ_run (c := k34) rfl rfl rfl ?_
  intro ro O _
  unfold k34
  repeat' (first
    | (refine A_p ?_; first | refine D_mov rfl ?_ | refine D_fad rfl ?_ | (refine A_bin ?_; first | refine D_tmod rfl rfl (by simp) ?_ | refine D_add rfl rfl (by simp only [inR]; omega) ?_ | refine D_neq rfl rfl ?_ | refine D_geq rfl rfl ?_) | refine D_pick_t rfl rfl ?_ | refine D_pick_f rfl rfl ?_ | refine D_cvi rfl (by simp only [inR]; omega) ?_)
    | (refine A_h ?_; first | (refine A_load ?_; first | (refine D_load rfl (by repeat (first | exact Has.here | refine Has.there ?_)) ?_; show WO _ _ _ _ _ _ _)) | (refine A_call ?_; first | refine D_callV rfl (s53 _ _) ?_) | (refine D_box_agg rfl ?_; intro _b) | (refine D_box rfl ?_ rfl; intro _b))
    | (refine A_g ?_; first | refine G_do rfl ?_ | refine G_no rfl ?_ | refine G_skip rfl ?_ | (refine WO_guard_dec rfl ?_ ?_ <;> intro h <;> try (exfalso; omega)))
    | refine WO_nil ?_
    | (refine A_seq ?_; first | refine C_reg ?_ | refine C_assoc ?_ | refine C_if_t rfl ?_ | refine C_if_f rfl ?_ | (refine C_if_dec rfl ?_ ?_ <;> intro h <;> try (exfalso; omega)) | refine C_ret ?_ | refine C_skip ?_)
    | refine W_ret ?_
    | refine W_region ?_
    | refine W_skip ?_
    | refine W_if_t rfl ?_
    | refine W_if_f rfl ?_
    | (refine W_if_dec rfl ?_ ?_ <;> intro h <;> try (exfalso; omega))
    | refine R_t rfl (by repeat (first | exact List.Sublist.refl _ | refine List.Sublist.cons _ ?_)) ?_)
  all_goals first | rfl | (exfalso; (try simp only [ne_eq, tmod2] at h); omega)
theorem s34_no (n : Nat) (k x y : Int) (h0 : 0 ≤ k ∧ k ≤ 255) (hv : ¬ vm k x y) : SV mx (n+2) 34 [.agg [.int .u8 k, .int .i64 x, .int .i64 y]] (.int .i64 1) := by
  unfold vm at hv
  refine SpecQ_run (c := k34) rfl rfl rfl ?_
  intro ro O _
  unfold k34
  repeat' (first
    | (refine A_p ?_; first | refine D_mov rfl ?_ | refine D_fad rfl ?_ | (refine A_bin ?_; first | refine D_tmod rfl rfl (by simp) ?_ | refine D_add rfl rfl (by simp only [inR]; omega) ?_ | refine D_neq rfl rfl ?_ | refine D_geq rfl rfl ?_) | refine D_pick_t rfl rfl ?_ | refine D_pick_f rfl rfl ?_ | refine D_cvi rfl (by simp only [inR]; omega) ?_)
    | (refine A_h ?_; first | (refine A_load ?_; first | (refine D_load rfl (by repeat (first | exact Has.here | refine Has.there ?_)) ?_; show WO _ _ _ _ _ _ _)) | (refine A_call ?_; first | refine D_callV rfl (s53 _ _) ?_) | (refine D_box_agg rfl ?_; intro _b) | (refine D_box rfl ?_ rfl; intro _b))
    | (refine A_g ?_; first | refine G_do rfl ?_ | refine G_no rfl ?_ | refine G_skip rfl ?_ | (refine WO_guard_dec rfl ?_ ?_ <;> intro h <;> try (exfalso; omega)))
    | refine WO_nil ?_
    | (refine A_seq ?_; first | refine C_reg ?_ | refine C_assoc ?_ | refine C_if_t rfl ?_ | refine C_if_f rfl ?_ | (refine C_if_dec rfl ?_ ?_ <;> intro h <;> try (exfalso; omega)) | refine C_ret ?_ | refine C_skip ?_)
    | refine W_ret ?_
    | refine W_region ?_
    | refine W_skip ?_
    | refine W_if_t rfl ?_
    | refine W_if_f rfl ?_
    | (refine W_if_dec rfl ?_ ?_ <;> intro h <;> try (exfalso; omega))
    | refine R_t rfl (by repeat (first | exact List.Sublist.refl _ | refine List.Sublist.cons _ ?_)) ?_)
  all_goals first | rfl | (exfalso; (try simp only [ne_eq, tmod2, Classical.not_not] at h); omega)
end Vm
end Go.Proofs.YtgncjbodicabnaaDoor

namespace Go.Proofs.YtgncjbodicabnaaDoor
namespace Vm
variable {mL : Int}
open Go Go.Vm Go.Vm.W
set_option maxRecDepth 100000
attribute [local irreducible] W WO SpecQ runM

theorem s37 (n : Nat) (t x y : Int) (ht : 0 ≤ t ∧ t ≤ 7) (hx : -1000000000 ≤ x ∧ x ≤ 1000000000) (hy : -1000000000 ≤ y ∧ y ≤ 1000000000) : SV mL (n+1) 37 [.agg (mat t), .int .i64 x, .int .i64 y] (.tup [.int .i64 (mx t x y), .int .i64 (my t x y)]) := by
  obtain ⟨b1, b2, b3, b4⟩ := mat_bd ht
  have c1 := mul_bd b1 hx
  have c2 := mul_bd b2 hy
  have c3 := mul_bd b3 hx
  have c4 := mul_bd b4 hy
  refine SpecQ_run (c := k37) rfl rfl rfl ?_
  intro ro O _
  unfold k37
  repeat' (first
    | (refine A_p ?_; first | refine D_mov rfl ?_ | refine D_fad rfl ?_ | (refine A_bin ?_; first | refine D_add rfl rfl (by simp only [inR]; omega) ?_ | refine D_mul rfl rfl (by simp only [inR]; omega) ?_))
    | (refine A_h ?_; first | (refine A_load ?_; first | (refine D_load rfl (by repeat (first | exact Has.here | refine Has.there ?_)) ?_; show WO _ _ _ _ _ _ _)) | (refine D_box_agg rfl ?_; intro _b) | (refine D_box rfl ?_ rfl; intro _b))
    | refine WO_nil ?_
    | (refine A_seq ?_; first | refine C_reg ?_ | refine C_assoc ?_ | refine C_ret ?_)
    | refine W_ret ?_
    | refine W_region ?_
    | refine R_tt rfl rfl (by repeat (first | exact List.Sublist.refl _ | refine List.Sublist.cons _ ?_)) ?_)
  rw [mx_lin ht, my_lin ht]

theorem s41 (n : Nat) (t s : Int) (ht : 0 ≤ t ∧ t ≤ 7) (hs : 0 ≤ s ∧ s ≤ 7) : SV mL (n+2) 41 [.agg (mat t), .agg (mat s)] (.agg (mat (cmp t s))) := by
  obtain ⟨b1, b2, b3, b4⟩ := mat_bd ht
  refine SpecQ_run (c := k41) rfl rfl rfl ?_
  intro ro O _
  unfold k41
  repeat' (first
    | (refine A_p ?_; first | refine D_mov rfl ?_ | refine D_fad rfl ?_ | refine D_ext rfl rfl ?_ | (refine D_build ?_; show WO _ _ _ _ _ _ _))
    | (refine A_h ?_; first | (refine A_load ?_; first | (refine D_load rfl (by repeat (first | exact Has.here | refine Has.there ?_)) ?_; show WO _ _ _ _ _ _ _)) | (refine A_call ?_; first | refine D_callV rfl (s37 _ _ _ _ hs (by omega) (by omega)) ?_) | (refine D_box_agg rfl ?_; intro _b) | (refine D_box rfl ?_ rfl; intro _b) | (refine D_store rfl rfl (by repeat (first | exact At.here | apply At.there)) rfl rfl ?_; show WO _ _ _ _ _ _ _) | (refine D_alloc ?_; intro _b))
    | refine WO_nil ?_
    | (refine A_seq ?_; first | refine C_reg ?_ | refine C_assoc ?_ | refine C_ret ?_)
    | refine W_ret ?_
    | refine W_region ?_
    | refine R_c rfl (by repeat (first | exact Has.here | refine Has.there ?_)) rfl (by repeat (first | exact List.Sublist.refl _ | refine List.Sublist.cons _ ?_)) ?_)
  simp only [mat, cmp_mx ht hs, cmp_my ht hs]
  rfl
theorem s17 (n : Nat) : SV mL (n+1) 17 [] (.agg [.int .u8 0, .int .i64 0, .int .i64 0]) := by
  refine SpecQ_run (c := k17) rfl rfl rfl ?_
  intro ro O _
  unfold k17
  repeat' (first
    | (refine A_p ?_; first | (refine D_build ?_; show WO _ _ _ _ _ _ _))
    | (refine A_h ?_; first | (refine D_store rfl rfl (by repeat (first | exact At.here | apply At.there)) rfl rfl ?_; show WO _ _ _ _ _ _ _) | (refine D_alloc ?_; intro _b))
    | refine WO_nil ?_
    | (refine A_seq ?_; first | refine C_reg ?_ | refine C_assoc ?_ | refine C_ret ?_)
    | refine W_ret ?_
    | refine W_region ?_
    | refine R_c rfl (by repeat (first | exact Has.here | refine Has.there ?_)) rfl (by repeat (first | exact List.Sublist.refl _ | refine List.Sublist.cons _ ?_)) ?_)
  rfl
theorem s38 (n : Nat) (k x y : Int) (h0 : 0 ≤ k ∧ k ≤ 255) (hv : vm k x y) : SV mL (n+3) 38 [.agg [.int .u8 k, .int .i64 x, .int .i64 y]] (.tup [.agg [.int .u8 k, .int .i64 x, .int .i64 y], .int .i64 0]) := by
  refine SpecQ_run (c := k38) rfl rfl rfl ?_
  intro ro O _
  unfold k38
  repeat' (first
    | (refine A_p ?_; first | refine D_mov rfl ?_ | (refine A_bin ?_; first | refine D_neq rfl rfl ?_) | (refine D_build ?_; show WO _ _ _ _ _ _ _))
    | (refine A_h ?_; first | (refine A_load ?_; first | (refine D_load rfl (by repeat (first | exact Has.here | refine Has.there ?_)) ?_; show WO _ _ _ _ _ _ _)) | (refine A_call ?_; first | refine D_callV rfl (s34 _ _ _ _ h0 hv) ?_) | (refine D_box_agg rfl ?_; intro _b) | (refine D_box rfl ?_ rfl; intro _b) | (refine D_store rfl rfl (by repeat (first | exact At.here | apply At.there)) rfl rfl ?_; show WO _ _ _ _ _ _ _) | (refine D_alloc ?_; intro _b))
    | refine WO_nil ?_
    | (refine A_seq ?_; first | refine C_reg ?_ | refine C_assoc ?_ | refine C_if_t rfl ?_ | refine C_if_f rfl ?_ | (refine C_if_dec rfl ?_ ?_ <;> intro h <;> try (exfalso; omega)) | refine C_ret ?_ | refine C_skip ?_)
    | refine W_ret ?_
    | refine W_region ?_
    | refine W_skip ?_
    | refine W_if_t rfl ?_
    | refine W_if_f rfl ?_
    | (refine W_if_dec rfl ?_ ?_ <;> intro h <;> try (exfalso; omega))
    | refine R_ct rfl (by repeat (first | exact Has.here | refine Has.there ?_)) rfl rfl (by repeat (first | exact List.Sublist.refl _ | refine List.Sublist.cons _ ?_)) ?_)
  all_goals first | rfl | (exfalso; omega)
theorem s38_no (n : Nat) (k x y : Int) (h0 : 0 ≤ k ∧ k ≤ 255) (hv : ¬ vm k x y) : SV mL (n+3) 38 [.agg [.int .u8 k, .int .i64 x, .int .i64 y]] (.tup [.agg [.int .u8 0, .int .i64 0, .int .i64 0], .int .i64 3]) := by
  refine SpecQ_run (c := k38) rfl rfl rfl ?_
  intro ro O _
  unfold k38
  repeat' (first
    | (refine A_p ?_; first | refine D_mov rfl ?_ | (refine A_bin ?_; first | refine D_neq rfl rfl ?_) | (refine D_build ?_; show WO _ _ _ _ _ _ _))
    | (refine A_h ?_; first | (refine A_load ?_; first | (refine D_load rfl (by repeat (first | exact Has.here | refine Has.there ?_)) ?_; show WO _ _ _ _ _ _ _)) | (refine A_call ?_; first | refine D_callV rfl (s34_no _ _ _ _ h0 hv) ?_) | (refine D_box_agg rfl ?_; intro _b) | (refine D_box rfl ?_ rfl; intro _b) | (refine D_store rfl rfl (by repeat (first | exact At.here | apply At.there)) rfl rfl ?_; show WO _ _ _ _ _ _ _) | (refine D_alloc ?_; intro _b))
    | refine WO_nil ?_
    | (refine A_seq ?_; first | refine C_reg ?_ | refine C_assoc ?_ | refine C_if_t rfl ?_ | refine C_if_f rfl ?_ | (refine C_if_dec rfl ?_ ?_ <;> intro h <;> try (exfalso; omega)) | refine C_ret ?_ | refine C_skip ?_)
    | refine W_ret ?_
    | refine W_region ?_
    | refine W_skip ?_
    | refine W_if_t rfl ?_
    | refine W_if_f rfl ?_
    | (refine W_if_dec rfl ?_ ?_ <;> intro h <;> try (exfalso; omega))
    | refine R_ct rfl (by repeat (first | exact Has.here | refine Has.there ?_)) rfl rfl (by repeat (first | exact List.Sublist.refl _ | refine List.Sublist.cons _ ?_)) ?_)
  all_goals first | rfl | (exfalso; omega)
end Vm
end Go.Proofs.YtgncjbodicabnaaDoor

namespace Go.Proofs.YtgncjbodicabnaaDoor
namespace Vm
variable {mL : Int}
open Go Go.Vm Go.Vm.W
set_option maxRecDepth 100000
attribute [local irreducible] W WO SpecQ runM

theorem s39 (n : Nat) (u : Int) (hu : 0 ≤ u ∧ u ≤ 7) : SV mL (n+1) 39 [.agg (mat u)] (.int .u8 u) := by
  refine SpecQ_run (c := k39) rfl rfl rfl ?_
  intro ro O _
  unfold k39
  repeat' (first
    | (refine A_p ?_; first | refine D_mov rfl ?_ | (refine A_bin ?_; first | refine D_add rfl rfl (by simp only [inR]; omega) ?_ | refine D_lss rfl rfl ?_) | refine D_cvi rfl (by simp only [inR]; omega) ?_ | (refine D_eqf rfl rfl rfl ?_; show WO _ _ _ _ _ _ _) | (refine D_neqf rfl rfl rfl ?_; show WO _ _ _ _ _ _ _))
    | (refine A_h ?_; first | (refine A_load ?_; first | (refine D_load rfl (by repeat (first | exact Has.here | refine Has.there ?_)) ?_; show WO _ _ _ _ _ _ _) | refine D_loadGV (v := .agg turnsL) rfl glob_turns rfl ?_) | (refine D_box_agg rfl ?_; intro _b) | (refine D_box rfl ?_ rfl; intro _b) | (refine D_store rfl rfl (by repeat (first | exact At.here | apply At.there)) rfl rfl ?_; show WO _ _ _ _ _ _ _) | (refine D_alloc ?_; intro _b))
    | refine WO_nil ?_
    | (refine A_seq ?_; first | refine C_reg ?_ | refine C_assoc ?_ | refine C_if_t rfl ?_ | refine C_if_f rfl ?_ | (refine C_if_dec rfl ?_ ?_ <;> intro h <;> try (exfalso; omega)) | refine C_ret ?_ | refine C_skip ?_ | refine C_exit ?_ | refine C_block ?_)
    | refine W_ret ?_
    | refine W_region ?_
    | refine W_exit ?_
    | refine W_skip ?_
    | refine W_if_t rfl ?_
    | refine W_if_f rfl ?_
    | (refine W_if_dec rfl ?_ ?_ <;> intro h <;> try (exfalso; omega))
    | refine R_t rfl (by repeat (first | exact List.Sublist.refl _ | refine List.Sublist.cons _ ?_)) ?_)
  refine W_loop (σ := Int) (fun i => [(6, .int .i64 i), (5, .agg turnsL), (1, .ptr _b 0)]) (fun _ => ⟨_b, true, .cells (mat u)⟩ :: O) (fun i => 0 ≤ i ∧ i ≤ u) (fun i => (8 - i).toNat) 0 ⟨rfl, rfl, rfl, trivial⟩ (List.Sublist.refl _) ⟨by omega, by omega⟩ (by simp [fuel]) ?_
  rintro i ⟨h0, h1⟩
  repeat' (first
    | (refine A_p ?_; first | refine D_mov rfl ?_ | (refine A_bin ?_; first | refine D_add rfl rfl (by simp only [inR]; omega) ?_ | refine D_lss rfl rfl ?_) | refine D_idxAV rfl rfl (by omega) (by omega) (turns_at (t := i) ⟨h0, by omega⟩ rfl) ?_ | refine D_cvi rfl (by simp only [inR]; omega) ?_ | (refine D_eqf rfl rfl rfl ?_; show WO _ _ _ _ _ _ _) | (refine D_neqf rfl rfl rfl ?_; show WO _ _ _ _ _ _ _))
    | (refine A_h ?_; first | (refine A_load ?_; first | (refine D_load rfl (by repeat (first | exact Has.here | refine Has.there ?_)) ?_; show WO _ _ _ _ _ _ _)) | (refine D_box_agg rfl ?_; intro _b) | (refine D_box rfl ?_ rfl; intro _b) | (refine D_store rfl rfl (by repeat (first | exact At.here | apply At.there)) rfl rfl ?_; show WO _ _ _ _ _ _ _) | (refine D_alloc ?_; intro _b))
    | refine WO_nil ?_
    | (refine A_seq ?_; first | refine C_reg ?_ | refine C_assoc ?_ | refine C_if_t rfl ?_ | refine C_if_f rfl ?_ | (refine C_if_dec rfl ?_ ?_ <;> intro h <;> try (exfalso; omega)) | (refine C_if rfl ?_ ?_ <;> intro h) | refine C_ret ?_ | refine C_skip ?_ | refine C_exit ?_ | refine C_block ?_)
    | refine W_ret ?_
    | refine W_region ?_
    | refine W_exit ?_
    | refine W_skip ?_
    | refine W_if_t rfl ?_
    | refine W_if_f rfl ?_
    | (refine W_if_dec rfl ?_ ?_ <;> intro h <;> try (exfalso; omega))
    | (refine W_if rfl ?_ ?_ <;> intro h)
    | refine R_t rfl (by repeat (first | exact List.Sublist.refl _ | refine List.Sublist.cons _ ?_)) ?_)
  · obtain ⟨a, b, c, d⟩ : mx i 1 0 = mx u 1 0 ∧ mx i 0 1 = mx u 0 1 ∧ my i 1 0 = my u 1 0 ∧ my i 0 1 = my u 0 1 := by simpa using h
    rw [mat_inj ⟨h0, by omega⟩ hu a b c d]
  · have hne : i ≠ u := by rintro rfl; simp at h
    exact ⟨i + 1, ⟨rfl, rfl, rfl, trivial⟩, (by repeat (first | exact List.Sublist.refl _ | refine List.Sublist.cons _ ?_)), ⟨by omega, by omega⟩, by show (8 - (i + 1)).toNat < (8 - i).toNat; omega⟩

abbrev mvA (t x y : Int) : AV := .agg [.int .u8 t, .int .i64 x, .int .i64 y]
theorem vm_t {t x y : Int} (h0 : 0 ≤ t) (h : vm t x y) : 0 ≤ t ∧ t ≤ 7 := ⟨h0, h.1⟩
instance (t x y : Int) : Decidable (vm t x y) := by unfold vm; infer_instance
/-- What Then answers. -/
def thenA (t x y s a b : Int) : AV := if vm (cmp t s) (mx s x y + a) (my s x y + b) then .tup [mvA (cmp t s) (mx s x y + a) (my s x y + b), .int .i64 0] else .tup [mvA 0 0 0, .int .i64 3]
set_option maxHeartbeats 1000000 in
theorem s15 (n : Nat) (t x y s a b : Int) (h0 : 0 ≤ t) (h1 : vm t x y) (k0 : 0 ≤ s) (k1 : vm s a b) : SV mL (n+4) 15 [mvA t x y, mvA s a b] (thenA t x y s a b) := by
  have ht := vm_t h0 h1
  have hs := vm_t k0 k1
  obtain ⟨v1, v2, v3, v4, v5, v6⟩ := id h1
  obtain ⟨w1, w2, w3, w4, w5, w6⟩ := id k1
  have c1 := mx_bd hs (M := 16384) ⟨v2, v3⟩ ⟨v4, v5⟩
  have c2 := my_bd hs (M := 16384) ⟨v2, v3⟩ ⟨v4, v5⟩
  have c3 := cmp_in ht hs
  unfold thenA
  split
  all_goals
    rename_i hv
    refine SpecQ_run (c := k15) rfl rfl rfl ?_
    intro ro O _
    unfold k15
    repeat' (first
      | (refine A_p ?_; first | refine D_mov rfl ?_ | refine D_fad rfl ?_ | (refine A_bin ?_; first | refine D_add rfl rfl (by simp only [inR]; omega) ?_ | refine D_neq rfl rfl ?_) | (refine D_iadA rfl rfl (by omega) (by omega) ?_) | refine D_ext rfl rfl ?_ | refine D_pick_t rfl rfl ?_ | refine D_pick_f rfl rfl ?_ | (refine D_build ?_; show WO _ _ _ _ _ _ _) | refine D_iadA rfl rfl (by omega) (by omega) ?_)
      | (refine A_h ?_; first | (refine A_load ?_; first | (refine D_load rfl (by repeat (first | exact Has.here | refine Has.there ?_)) ?_; show WO _ _ _ _ _ _ _) | refine D_loadGV rfl glob_turns (turns_at hs (by omega)) ?_ | refine D_loadGV rfl glob_turns (turns_at ht (by omega)) ?_) | (refine A_call ?_; first | refine D_callV rfl (s34 _ _ _ _ ⟨h0, by omega⟩ h1) ?_ | refine D_callV rfl (s34 _ _ _ _ ⟨k0, by omega⟩ k1) ?_ | refine D_callV rfl (s37 _ _ _ _ hs (by omega) (by omega)) ?_ | refine D_callV rfl (s41 _ _ _ ht hs) ?_ | refine D_callV rfl (s39 _ _ c3) ?_ | refine D_callV rfl (s38 _ _ _ _ (by omega) hv) ?_ | refine D_callV rfl (s38_no _ _ _ _ (by omega) hv) ?_) | (refine D_box_agg rfl ?_; intro _b) | (refine D_box rfl ?_ rfl; intro _b) | (refine D_store rfl rfl (by repeat (first | exact At.here | apply At.there)) rfl rfl ?_; show WO _ _ _ _ _ _ _) | (refine D_alloc ?_; intro _b))
      | (refine A_g ?_; first | refine G_do rfl ?_ | refine G_no rfl ?_ | refine G_skip rfl ?_ | (refine WO_guard_dec rfl ?_ ?_ <;> intro h <;> try (exfalso; omega)))
      | refine WO_nil ?_
      | (refine A_seq ?_; first | refine C_reg ?_ | refine C_assoc ?_ | refine C_if_t rfl ?_ | refine C_if_f rfl ?_ | (refine C_if_dec rfl ?_ ?_ <;> intro h <;> try (exfalso; omega)) | refine C_ret ?_ | refine C_skip ?_)
      | refine W_ret ?_
      | refine W_region ?_
      | refine W_skip ?_
      | refine W_if_t rfl ?_
      | refine W_if_f rfl ?_
      | (refine W_if_dec rfl ?_ ?_ <;> intro h <;> try (exfalso; omega))
      | refine R_ct rfl (by repeat (first | exact Has.here | refine Has.there ?_)) rfl rfl (by repeat (first | exact List.Sublist.refl _ | refine List.Sublist.cons _ ?_)) ?_)
  all_goals rfl
end Vm
end Go.Proofs.YtgncjbodicabnaaDoor

