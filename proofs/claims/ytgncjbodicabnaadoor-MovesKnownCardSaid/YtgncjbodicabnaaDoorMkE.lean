/-
  Parts of a proof.
-/
import Derived.Test.YtgncjbodicabnaaDoorMkC
set_option linter.unusedSimpArgs false
set_option linter.unusedVariables false

namespace Go.Proofs.YtgncjbodicabnaaDoor
namespace Vm
variable {mL : Int}
open Go Go.Vm Go.Vm.W
set_option maxRecDepth 100000
attribute [local irreducible] W WO SpecQ runM

/-- A point near enough. -/
def ip (x y : Int) : Prop := -65536 ≤ x ∧ x ≤ 65536 ∧ -65536 ≤ y ∧ y ≤ 65536
theorem s42 (n : Nat) (x y : Int) (h : ip x y) : SV mL (n+1) 42 [ptA x y] (.int .i64 0) := by
  obtain ⟨h1, h2, h3, h4⟩ := h
  refine SpecQ_run (c := k42) rfl rfl rfl ?_
  intro ro O _
  unfold k42
  repeat' (first
    | (refine A_p ?_; first | refine D_mov rfl ?_ | refine D_fad rfl ?_ | (refine A_bin ?_; first | refine D_lss rfl rfl ?_ | refine D_gtr rfl rfl ?_) | refine D_pick_t rfl rfl ?_ | refine D_pick_f rfl rfl ?_)
    | (refine A_h ?_; first | (refine A_load ?_; first | (refine D_load rfl (by repeat (first | exact Has.here | refine Has.there ?_)) ?_; show WO _ _ _ _ _ _ _)) | (refine D_box_agg rfl ?_; intro _b) | (refine D_box rfl ?_ rfl; intro _b))
    | (refine A_g ?_; first | refine G_do rfl ?_ | refine G_no rfl ?_ | refine G_skip rfl ?_ | (refine WO_guard_dec rfl ?_ ?_ <;> intro h <;> try (exfalso; omega)))
    | refine WO_nil ?_
    | (refine A_seq ?_; first | refine C_reg ?_ | refine C_assoc ?_ | refine C_if_t rfl ?_ | refine C_if_f rfl ?_ | (refine C_if_dec rfl ?_ ?_ <;> intro h <;> try (exfalso; omega)) | refine C_ret ?_ | refine C_skip ?_)
    | refine W_ret ?_
    | refine W_region ?_
    | refine W_skip ?_
    | refine W_if_t rfl ?_
    | refine W_if_f rfl ?_
    | (refine W_if_dec rfl ?_ ?_ <;> intro h <;> try (exfalso; omega))
    | refine R_t rfl (by repeat (first | exact List.Sublist.refl _ | refine List.Sublist.cons _ ?_)) ?_)
  all_goals first | rfl | (exfalso; omega)
theorem s42_no (n : Nat) (x y : Int) (hv : ¬ ip x y) : SV mL (n+1) 42 [ptA x y] (.int .i64 1) := by
  unfold ip at hv
  refine SpecQ_run (c := k42) rfl rfl rfl ?_
  intro ro O _
  unfold k42
  repeat' (first
    | (refine A_p ?_; first | refine D_mov rfl ?_ | refine D_fad rfl ?_ | (refine A_bin ?_; first | refine D_lss rfl rfl ?_ | refine D_gtr rfl rfl ?_) | refine D_pick_t rfl rfl ?_ | refine D_pick_f rfl rfl ?_)
    | (refine A_h ?_; first | (refine A_load ?_; first | (refine D_load rfl (by repeat (first | exact Has.here | refine Has.there ?_)) ?_; show WO _ _ _ _ _ _ _)) | (refine D_box_agg rfl ?_; intro _b) | (refine D_box rfl ?_ rfl; intro _b))
    | (refine A_g ?_; first | refine G_do rfl ?_ | refine G_no rfl ?_ | refine G_skip rfl ?_ | (refine WO_guard_dec rfl ?_ ?_ <;> intro h <;> try (exfalso; omega)))
    | refine WO_nil ?_
    | (refine A_seq ?_; first | refine C_reg ?_ | refine C_assoc ?_ | refine C_if_t rfl ?_ | refine C_if_f rfl ?_ | (refine C_if_dec rfl ?_ ?_ <;> intro h <;> try (exfalso; omega)) | refine C_ret ?_ | refine C_skip ?_)
    | refine W_ret ?_
    | refine W_region ?_
    | refine W_skip ?_
    | refine W_if_t rfl ?_
    | refine W_if_f rfl ?_
    | (refine W_if_dec rfl ?_ ?_ <;> intro h <;> try (exfalso; omega))
    | refine R_t rfl (by repeat (first | exact List.Sublist.refl _ | refine List.Sublist.cons _ ?_)) ?_)
  all_goals first | rfl | (exfalso; omega)
theorem s19 (n : Nat) (x y : Int) (h : ip x y) : SV mL (n+1) 19 [ptA x y] (.int .i64 1) := by
  obtain ⟨h1, h2, h3, h4⟩ := h
  refine SpecQ_run (c := k19) rfl rfl rfl ?_
  intro ro O _
  unfold k19
  repeat' (first
    | (refine A_p ?_; first | refine D_mov rfl ?_ | refine D_fad rfl ?_ | (refine A_bin ?_; first | refine D_leq rfl rfl ?_ | refine D_geq rfl rfl ?_) | refine D_pick_t rfl rfl ?_ | refine D_pick_f rfl rfl ?_)
    | (refine A_h ?_; first | (refine A_load ?_; first | (refine D_load rfl (by repeat (first | exact Has.here | refine Has.there ?_)) ?_; show WO _ _ _ _ _ _ _)) | (refine D_box_agg rfl ?_; intro _b) | (refine D_box rfl ?_ rfl; intro _b))
    | (refine A_g ?_; first | refine G_do rfl ?_ | refine G_no rfl ?_ | refine G_skip rfl ?_ | (refine WO_guard_dec rfl ?_ ?_ <;> intro h <;> try (exfalso; omega)))
    | refine WO_nil ?_
    | (refine A_seq ?_; first | refine C_reg ?_ | refine C_assoc ?_ | refine C_if_t rfl ?_ | refine C_if_f rfl ?_ | (refine C_if_dec rfl ?_ ?_ <;> intro h <;> try (exfalso; omega)) | refine C_ret ?_ | refine C_skip ?_)
    | refine W_ret ?_
    | refine W_region ?_
    | refine W_skip ?_
    | refine W_if_t rfl ?_
    | refine W_if_f rfl ?_
    | (refine W_if_dec rfl ?_ ?_ <;> intro h <;> try (exfalso; omega))
    | refine R_t rfl (by repeat (first | exact List.Sublist.refl _ | refine List.Sublist.cons _ ?_)) ?_)
  all_goals first | rfl | (exfalso; omega)
theorem s19_no (n : Nat) (x y : Int) (hv : ¬ ip x y) : SV mL (n+1) 19 [ptA x y] (.int .i64 0) := by
  unfold ip at hv
  refine SpecQ_run (c := k19) rfl rfl rfl ?_
  intro ro O _
  unfold k19
  repeat' (first
    | (refine A_p ?_; first | refine D_mov rfl ?_ | refine D_fad rfl ?_ | (refine A_bin ?_; first | refine D_leq rfl rfl ?_ | refine D_geq rfl rfl ?_) | refine D_pick_t rfl rfl ?_ | refine D_pick_f rfl rfl ?_)
    | (refine A_h ?_; first | (refine A_load ?_; first | (refine D_load rfl (by repeat (first | exact Has.here | refine Has.there ?_)) ?_; show WO _ _ _ _ _ _ _)) | (refine D_box_agg rfl ?_; intro _b) | (refine D_box rfl ?_ rfl; intro _b))
    | (refine A_g ?_; first | refine G_do rfl ?_ | refine G_no rfl ?_ | refine G_skip rfl ?_ | (refine WO_guard_dec rfl ?_ ?_ <;> intro h <;> try (exfalso; omega)))
    | refine WO_nil ?_
    | (refine A_seq ?_; first | refine C_reg ?_ | refine C_assoc ?_ | refine C_if_t rfl ?_ | refine C_if_f rfl ?_ | (refine C_if_dec rfl ?_ ?_ <;> intro h <;> try (exfalso; omega)) | refine C_ret ?_ | refine C_skip ?_)
    | refine W_ret ?_
    | refine W_region ?_
    | refine W_skip ?_
    | refine W_if_t rfl ?_
    | refine W_if_f rfl ?_
    | (refine W_if_dec rfl ?_ ?_ <;> intro h <;> try (exfalso; omega))
    | refine R_t rfl (by repeat (first | exact List.Sublist.refl _ | refine List.Sublist.cons _ ?_)) ?_)
  all_goals first | rfl | (exfalso; omega)
set_option maxHeartbeats 2000000 in
theorem s18 (n : Nat) (t x y p q : Int) (h0 : 0 ≤ t) (h1 : vm t x y) (h2 : ip p q) (h3 : ip (mx t p q + 2 * x) (my t p q + 2 * y)) : SV mL (n+3) 18 [mvA t x y, ptA p q] (.tup [ptA (mx t p q + 2 * x) (my t p q + 2 * y), .int .i64 0]) := by
  have ht := vm_t h0 h1
  obtain ⟨v1, v2, v3, v4, v5, v6⟩ := id h1
  obtain ⟨w1, w2, w3, w4⟩ := id h2
  have c1 := mx_bd ht (M := 65536) ⟨w1, w2⟩ ⟨w3, w4⟩
  have c2 := my_bd ht (M := 65536) ⟨w1, w2⟩ ⟨w3, w4⟩
  refine SpecQ_run (c := k18) rfl rfl rfl ?_
  intro ro O _
  unfold k18
  repeat' (first
    | (refine A_p ?_; first | refine D_mov rfl ?_ | refine D_fad rfl ?_ | (refine A_bin ?_; first | refine D_add rfl rfl (by simp only [inR]; omega) ?_ | refine D_mul rfl rfl (by simp only [inR]; omega) ?_ | refine D_neq rfl rfl ?_) | refine D_ext rfl rfl ?_ | refine D_pick_t rfl rfl ?_ | refine D_pick_f rfl rfl ?_ | (refine D_build ?_; show WO _ _ _ _ _ _ _) | refine D_iadA rfl rfl (by omega) (by omega) ?_)
    | (refine A_h ?_; first | (refine A_load ?_; first | (refine D_load rfl (by repeat (first | exact Has.here | refine Has.there ?_)) ?_; show WO _ _ _ _ _ _ _) | refine D_loadGV rfl glob_turns (turns_at ht (by omega)) ?_) | (refine A_call ?_; first | refine D_callV rfl (s34 _ _ _ _ ⟨h0, by omega⟩ h1) ?_ | refine D_callV rfl (s42 _ _ _ h2) ?_ | refine D_callV rfl (s42 _ _ _ h3) ?_ | refine D_callV rfl (s37 _ _ _ _ ht (by omega) (by omega)) ?_) | (refine D_box_agg rfl ?_; intro _b) | (refine D_box rfl ?_ rfl; intro _b) | (refine D_store rfl rfl (by repeat (first | exact At.here | apply At.there)) rfl rfl ?_; show WO _ _ _ _ _ _ _) | (refine D_alloc ?_; intro _b))
    | (refine A_g ?_; first | refine G_do rfl ?_ | refine G_no rfl ?_ | refine G_skip rfl ?_ | (refine WO_guard_dec rfl ?_ ?_ <;> intro h <;> try (exfalso; omega)))
    | refine WO_nil ?_
    | (refine A_seq ?_; first | refine C_reg ?_ | refine C_assoc ?_ | refine C_if_t rfl ?_ | refine C_if_f rfl ?_ | (refine C_if_dec rfl ?_ ?_ <;> intro h <;> try (exfalso; omega)) | refine C_ret ?_ | refine C_skip ?_)
    | refine W_ret ?_
    | refine W_region ?_
    | refine W_skip ?_
    | refine W_if_t rfl ?_
    | refine W_if_f rfl ?_
    | (refine W_if_dec rfl ?_ ?_ <;> intro h <;> try (exfalso; omega))
    | refine R_ct rfl (by repeat (first | exact Has.here | refine Has.there ?_)) rfl rfl (by repeat (first | exact List.Sublist.refl _ | refine List.Sublist.cons _ ?_)) ?_)
  all_goals first | rfl | (exfalso; omega)
set_option maxHeartbeats 2000000 in
theorem s18_far (n : Nat) (t x y p q : Int) (h0 : 0 ≤ t) (h1 : vm t x y) (h2 : ip p q) (h3 : ¬ ip (mx t p q + 2 * x) (my t p q + 2 * y)) : SV mL (n+3) 18 [mvA t x y, ptA p q] (.tup [ptA 0 0, .int .i64 3]) := by
  have ht := vm_t h0 h1
  obtain ⟨v1, v2, v3, v4, v5, v6⟩ := id h1
  obtain ⟨w1, w2, w3, w4⟩ := id h2
  have c1 := mx_bd ht (M := 65536) ⟨w1, w2⟩ ⟨w3, w4⟩
  have c2 := my_bd ht (M := 65536) ⟨w1, w2⟩ ⟨w3, w4⟩
  refine SpecQ_run (c := k18) rfl rfl rfl ?_
  intro ro O _
  unfold k18
  repeat' (first
    | (refine A_p ?_; first | refine D_mov rfl ?_ | refine D_fad rfl ?_ | (refine A_bin ?_; first | refine D_add rfl rfl (by simp only [inR]; omega) ?_ | refine D_mul rfl rfl (by simp only [inR]; omega) ?_ | refine D_neq rfl rfl ?_) | refine D_ext rfl rfl ?_ | refine D_pick_t rfl rfl ?_ | refine D_pick_f rfl rfl ?_ | (refine D_build ?_; show WO _ _ _ _ _ _ _) | refine D_iadA rfl rfl (by omega) (by omega) ?_)
    | (refine A_h ?_; first | (refine A_load ?_; first | (refine D_load rfl (by repeat (first | exact Has.here | refine Has.there ?_)) ?_; show WO _ _ _ _ _ _ _) | refine D_loadGV rfl glob_turns (turns_at ht (by omega)) ?_) | (refine A_call ?_; first | refine D_callV rfl (s34 _ _ _ _ ⟨h0, by omega⟩ h1) ?_ | refine D_callV rfl (s42 _ _ _ h2) ?_ | refine D_callV rfl (s42_no _ _ _ h3) ?_ | refine D_callV rfl (s37 _ _ _ _ ht (by omega) (by omega)) ?_) | (refine D_box_agg rfl ?_; intro _b) | (refine D_box rfl ?_ rfl; intro _b) | (refine D_store rfl rfl (by repeat (first | exact At.here | apply At.there)) rfl rfl ?_; show WO _ _ _ _ _ _ _) | (refine D_alloc ?_; intro _b))
    | (refine A_g ?_; first | refine G_do rfl ?_ | refine G_no rfl ?_ | refine G_skip rfl ?_ | (refine WO_guard_dec rfl ?_ ?_ <;> intro h <;> try (exfalso; omega)))
    | refine WO_nil ?_
    | (refine A_seq ?_; first | refine C_reg ?_ | refine C_assoc ?_ | refine C_if_t rfl ?_ | refine C_if_f rfl ?_ | (refine C_if_dec rfl ?_ ?_ <;> intro h <;> try (exfalso; omega)) | refine C_ret ?_ | refine C_skip ?_)
    | refine W_ret ?_
    | refine W_region ?_
    | refine W_skip ?_
    | refine W_if_t rfl ?_
    | refine W_if_f rfl ?_
    | (refine W_if_dec rfl ?_ ?_ <;> intro h <;> try (exfalso; omega))
    | refine R_ct rfl (by repeat (first | exact Has.here | refine Has.there ?_)) rfl rfl (by repeat (first | exact List.Sublist.refl _ | refine List.Sublist.cons _ ?_)) ?_)
  all_goals first | rfl | (exfalso; omega)
set_option maxHeartbeats 2000000 in
theorem s18_no (n : Nat) (t x y p q : Int) (h0 : 0 ≤ t ∧ t ≤ 255) (h : ¬ vm t x y ∨ ¬ ip p q) : SV mL (n+3) 18 [mvA t x y, ptA p q] (.tup [ptA 0 0, .int .i64 1]) := by
  by_cases h1 : vm t x y
  · have h2 : ¬ ip p q := by rcases h with h | h; exact absurd h1 h; exact h
    clear h
    refine SpecQ_run (c := k18) rfl rfl rfl ?_
    intro ro O _
    unfold k18
    repeat' (first
      | (refine A_p ?_; first | refine D_mov rfl ?_ | refine D_fad rfl ?_ | (refine A_bin ?_; first | refine D_add rfl rfl (by simp only [inR]; omega) ?_ | refine D_mul rfl rfl (by simp only [inR]; omega) ?_ | refine D_neq rfl rfl ?_) | refine D_ext rfl rfl ?_ | refine D_pick_t rfl rfl ?_ | refine D_pick_f rfl rfl ?_ | (refine D_build ?_; show WO _ _ _ _ _ _ _) | refine D_iadA rfl rfl (by omega) (by omega) ?_)
      | (refine A_h ?_; first | (refine A_load ?_; first | (refine D_load rfl (by repeat (first | exact Has.here | refine Has.there ?_)) ?_; show WO _ _ _ _ _ _ _)) | (refine A_call ?_; first | refine D_callV rfl (s34 _ _ _ _ h0 h1) ?_ | refine D_callV rfl (s42_no _ _ _ h2) ?_) | (refine D_box_agg rfl ?_; intro _b) | (refine D_box rfl ?_ rfl; intro _b) | (refine D_store rfl rfl (by repeat (first | exact At.here | apply At.there)) rfl rfl ?_; show WO _ _ _ _ _ _ _) | (refine D_alloc ?_; intro _b))
      | (refine A_g ?_; first | refine G_do rfl ?_ | refine G_no rfl ?_ | refine G_skip rfl ?_ | (refine WO_guard_dec rfl ?_ ?_ <;> intro h <;> try (exfalso; omega)))
      | refine WO_nil ?_
      | (refine A_seq ?_; first | refine C_reg ?_ | refine C_assoc ?_ | refine C_if_t rfl ?_ | refine C_if_f rfl ?_ | (refine C_if_dec rfl ?_ ?_ <;> intro h <;> try (exfalso; omega)) | refine C_ret ?_ | refine C_skip ?_)
      | refine W_ret ?_
      | refine W_region ?_
      | refine W_skip ?_
      | refine W_if_t rfl ?_
      | refine W_if_f rfl ?_
      | (refine W_if_dec rfl ?_ ?_ <;> intro h <;> try (exfalso; omega))
      | refine R_ct rfl (by repeat (first | exact Has.here | refine Has.there ?_)) rfl rfl (by repeat (first | exact List.Sublist.refl _ | refine List.Sublist.cons _ ?_)) ?_)
    all_goals first | rfl | (exfalso; omega)
  · clear h
    refine SpecQ_run (c := k18) rfl rfl rfl ?_
    intro ro O _
    unfold k18
    repeat' (first
      | (refine A_p ?_; first | refine D_mov rfl ?_ | refine D_fad rfl ?_ | (refine A_bin ?_; first | refine D_add rfl rfl (by simp only [inR]; omega) ?_ | refine D_mul rfl rfl (by simp only [inR]; omega) ?_ | refine D_neq rfl rfl ?_) | refine D_ext rfl rfl ?_ | refine D_pick_t rfl rfl ?_ | refine D_pick_f rfl rfl ?_ | (refine D_build ?_; show WO _ _ _ _ _ _ _) | refine D_iadA rfl rfl (by omega) (by omega) ?_)
      | (refine A_h ?_; first | (refine A_load ?_; first | (refine D_load rfl (by repeat (first | exact Has.here | refine Has.there ?_)) ?_; show WO _ _ _ _ _ _ _)) | (refine A_call ?_; first | refine D_callV rfl (s34_no _ _ _ _ h0 h1) ?_) | (refine D_box_agg rfl ?_; intro _b) | (refine D_box rfl ?_ rfl; intro _b) | (refine D_store rfl rfl (by repeat (first | exact At.here | apply At.there)) rfl rfl ?_; show WO _ _ _ _ _ _ _) | (refine D_alloc ?_; intro _b))
      | (refine A_g ?_; first | refine G_do rfl ?_ | refine G_no rfl ?_ | refine G_skip rfl ?_ | (refine WO_guard_dec rfl ?_ ?_ <;> intro h <;> try (exfalso; omega)))
      | refine WO_nil ?_
      | (refine A_seq ?_; first | refine C_reg ?_ | refine C_assoc ?_ | refine C_if_t rfl ?_ | refine C_if_f rfl ?_ | (refine C_if_dec rfl ?_ ?_ <;> intro h <;> try (exfalso; omega)) | refine C_ret ?_ | refine C_skip ?_)
      | refine W_ret ?_
      | refine W_region ?_
      | refine W_skip ?_
      | refine W_if_t rfl ?_
      | refine W_if_f rfl ?_
      | (refine W_if_dec rfl ?_ ?_ <;> intro h <;> try (exfalso; omega))
      | refine R_ct rfl (by repeat (first | exact Has.here | refine Has.there ?_)) rfl rfl (by repeat (first | exact List.Sublist.refl _ | refine List.Sublist.cons _ ?_)) ?_)
    all_goals first | rfl | (exfalso; omega)

theorem norm_mv {t : Int} (ht : 0 ≤ t ∧ t ≤ 7) (p q : Int) : mx t p q * mx t p q + my t p q * my t p q = p * p + q * q := by
  rcases eight ht with rfl | rfl | rfl | rfl | rfl | rfl | rfl | rfl <;> simp [mx, my, Int.neg_mul, Int.mul_neg] <;> omega
theorem sq_bd {a M : Int} (h : -M ≤ a ∧ a ≤ M) : 0 ≤ a * a ∧ a * a ≤ M * M := by
  have e : a * a = (a.natAbs : Int) * (a.natAbs : Int) := Int.natAbs_mul_self.symm
  have hb : (a.natAbs : Int) ≤ M := by omega
  rw [e]
  exact ⟨Int.mul_nonneg (by omega) (by omega), Int.mul_le_mul hb hb (by omega) (by omega)⟩
end Vm
end Go.Proofs.YtgncjbodicabnaaDoor

namespace Go.Proofs.YtgncjbodicabnaaDoor
namespace Vm
variable {mL : Int}
open Go Go.Vm Go.Vm.W
set_option maxRecDepth 100000
attribute [local irreducible] W WO SpecQ runM

set_option maxHeartbeats 2000000 in
theorem s4_A (n : Nat) (t x y p q : Int) (h0 : 0 ≤ t ∧ t ≤ 255) (h1 : ¬ vm t x y) : SV mL (n+6) 4 [mvA t x y, ptA p q] (.bool true) := by
  refine SpecQ_run (c := k4) rfl rfl rfl ?_
  intro ro O _
  unfold k4
  repeat' (first
    | (refine A_p ?_; first | refine D_mov rfl ?_ | refine D_fad rfl ?_ | (refine A_bin ?_; first | refine D_add rfl rfl (by simp only [inR]; omega) ?_ | refine D_sub rfl rfl (by simp only [inR]; omega) ?_ | refine D_mul rfl rfl (by simp only [inR]; omega) ?_ | refine D_eql rfl rfl ?_) | refine D_ext rfl rfl ?_ | refine D_pick_t rfl rfl ?_ | refine D_pick_f rfl rfl ?_ | (refine D_build ?_; show WO _ _ _ _ _ _ _) | (refine D_eqf rfl rfl rfl ?_; show WO _ _ _ _ _ _ _) | (refine D_neqf rfl rfl rfl ?_; show WO _ _ _ _ _ _ _))
    | (refine A_h ?_; first | (refine A_load ?_; first | (refine D_load rfl (by repeat (first | exact Has.here | refine Has.there ?_)) ?_; show WO _ _ _ _ _ _ _)) | (refine A_call ?_; first | refine D_callV rfl (s14 _) ?_ | refine D_callV rfl (s18_no _ _ _ _ _ _ h0 (.inl h1)) ?_ | refine D_callV rfl (s13_no _ _ _ _ h0 h1) ?_) | (refine D_box_agg rfl ?_; intro _b) | (refine D_box rfl ?_ rfl; intro _b) | (refine D_store rfl rfl (by repeat (first | exact At.here | apply At.there)) rfl rfl ?_; show WO _ _ _ _ _ _ _) | (refine D_alloc ?_; intro _b))
    | (refine A_g ?_; first | refine G_do rfl ?_ | refine G_no rfl ?_ | refine G_skip rfl ?_ | (refine WO_guard_dec rfl ?_ ?_ <;> intro h <;> try (exfalso; omega)) | (refine WO_guard rfl ?_ ?_ <;> intro h <;> try (simp at h; done)))
    | refine WO_nil ?_
    | (refine A_seq ?_; first | refine C_reg ?_ | refine C_assoc ?_ | refine C_if_t rfl ?_ | refine C_if_f rfl ?_ | (refine C_if_dec rfl ?_ ?_ <;> intro h <;> try (exfalso; omega)) | (refine C_if rfl ?_ ?_ <;> intro h <;> try (simp at h; done)) | refine C_ret ?_ | refine C_skip ?_)
    | refine W_ret ?_
    | refine W_region ?_
    | refine W_skip ?_
    | refine W_if_t rfl ?_
    | refine W_if_f rfl ?_
    | (refine W_if_dec rfl ?_ ?_ <;> intro h <;> try (exfalso; omega))
    | (refine W_if rfl ?_ ?_ <;> intro h <;> try (simp at h; done))
    | refine R_t rfl (by repeat (first | exact List.Sublist.refl _ | refine List.Sublist.cons _ ?_)) ?_)
  all_goals first | rfl | (exfalso; omega)
set_option maxHeartbeats 2000000 in
theorem s4_B (n : Nat) (t x y p q : Int) (h0 : 0 ≤ t ∧ t ≤ 255) (h1 : vm t x y) (h2 : ¬ ip p q) : SV mL (n+6) 4 [mvA t x y, ptA p q] (.bool true) := by
  refine SpecQ_run (c := k4) rfl rfl rfl ?_
  intro ro O _
  unfold k4
  repeat' (first
    | (refine A_p ?_; first | refine D_mov rfl ?_ | refine D_fad rfl ?_ | (refine A_bin ?_; first | refine D_add rfl rfl (by simp only [inR]; omega) ?_ | refine D_sub rfl rfl (by simp only [inR]; omega) ?_ | refine D_mul rfl rfl (by simp only [inR]; omega) ?_ | refine D_eql rfl rfl ?_) | refine D_ext rfl rfl ?_ | refine D_pick_t rfl rfl ?_ | refine D_pick_f rfl rfl ?_ | (refine D_build ?_; show WO _ _ _ _ _ _ _) | (refine D_eqf rfl rfl rfl ?_; show WO _ _ _ _ _ _ _) | (refine D_neqf rfl rfl rfl ?_; show WO _ _ _ _ _ _ _))
    | (refine A_h ?_; first | (refine A_load ?_; first | (refine D_load rfl (by repeat (first | exact Has.here | refine Has.there ?_)) ?_; show WO _ _ _ _ _ _ _)) | (refine A_call ?_; first | refine D_callV rfl (s14 _) ?_ | refine D_callV rfl (s18_no _ _ _ _ _ _ h0 (.inr h2)) ?_ | refine D_callV rfl (s13 _ _ _ _ h0 h1) ?_ | refine D_callV rfl (s19_no _ _ _ h2) ?_) | (refine D_box_agg rfl ?_; intro _b) | (refine D_box rfl ?_ rfl; intro _b) | (refine D_store rfl rfl (by repeat (first | exact At.here | apply At.there)) rfl rfl ?_; show WO _ _ _ _ _ _ _) | (refine D_alloc ?_; intro _b))
    | (refine A_g ?_; first | refine G_do rfl ?_ | refine G_no rfl ?_ | refine G_skip rfl ?_ | (refine WO_guard_dec rfl ?_ ?_ <;> intro h <;> try (exfalso; omega)) | (refine WO_guard rfl ?_ ?_ <;> intro h <;> try (simp at h; done)))
    | refine WO_nil ?_
    | (refine A_seq ?_; first | refine C_reg ?_ | refine C_assoc ?_ | refine C_if_t rfl ?_ | refine C_if_f rfl ?_ | (refine C_if_dec rfl ?_ ?_ <;> intro h <;> try (exfalso; omega)) | (refine C_if rfl ?_ ?_ <;> intro h <;> try (simp at h; done)) | refine C_ret ?_ | refine C_skip ?_)
    | refine W_ret ?_
    | refine W_region ?_
    | refine W_skip ?_
    | refine W_if_t rfl ?_
    | refine W_if_f rfl ?_
    | (refine W_if_dec rfl ?_ ?_ <;> intro h <;> try (exfalso; omega))
    | (refine W_if rfl ?_ ?_ <;> intro h <;> try (simp at h; done))
    | refine R_t rfl (by repeat (first | exact List.Sublist.refl _ | refine List.Sublist.cons _ ?_)) ?_)
  all_goals first | rfl | (exfalso; omega)
set_option maxHeartbeats 2000000 in
theorem s4_C (n : Nat) (t x y p q : Int) (h0 : 0 ≤ t ∧ t ≤ 255) (h1 : vm t x y) (h2 : ip p q) (h3 : ¬ ip (mx t p q + 2 * x) (my t p q + 2 * y)) : SV mL (n+6) 4 [mvA t x y, ptA p q] (.bool true) := by
  have ht := vm_t h0.1 h1
  obtain ⟨v1, v2, v3, v4, v5, v6⟩ := id h1
  obtain ⟨w1, w2, w3, w4⟩ := id h2
  refine SpecQ_run (c := k4) rfl rfl rfl ?_
  intro ro O _
  unfold k4
  repeat' (first
    | (refine A_p ?_; first | refine D_mov rfl ?_ | refine D_fad rfl ?_ | (refine A_bin ?_; first | refine D_add rfl rfl (by simp only [inR]; omega) ?_ | refine D_sub rfl rfl (by simp only [inR]; omega) ?_ | refine D_mul rfl rfl (by simp only [inR]; omega) ?_ | refine D_eql rfl rfl ?_) | refine D_ext rfl rfl ?_ | refine D_pick_t rfl rfl ?_ | refine D_pick_f rfl rfl ?_ | (refine D_build ?_; show WO _ _ _ _ _ _ _) | (refine D_eqf rfl rfl rfl ?_; show WO _ _ _ _ _ _ _) | (refine D_neqf rfl rfl rfl ?_; show WO _ _ _ _ _ _ _))
    | (refine A_h ?_; first | (refine A_load ?_; first | (refine D_load rfl (by repeat (first | exact Has.here | refine Has.there ?_)) ?_; show WO _ _ _ _ _ _ _)) | (refine A_call ?_; first | refine D_callV rfl (s14 _) ?_ | refine D_callV rfl (s18_far _ _ _ _ _ _ h0.1 h1 h2 h3) ?_ | refine D_callV rfl (s13 _ _ _ _ h0 h1) ?_ | refine D_callV rfl (s19 _ _ _ h2) ?_ | refine D_callV rfl (s19_no _ _ _ h3) ?_ | refine D_callV rfl (s20 _ _ _ _ _ _ h0 (by omega) (by omega) (by omega) (by omega)) ?_) | (refine D_box_agg rfl ?_; intro _b) | (refine D_box rfl ?_ rfl; intro _b) | (refine D_store rfl rfl (by repeat (first | exact At.here | apply At.there)) rfl rfl ?_; show WO _ _ _ _ _ _ _) | (refine D_alloc ?_; intro _b))
    | (refine A_g ?_; first | refine G_do rfl ?_ | refine G_no rfl ?_ | refine G_skip rfl ?_ | (refine WO_guard_dec rfl ?_ ?_ <;> intro h <;> try (exfalso; omega)) | (refine WO_guard rfl ?_ ?_ <;> intro h <;> try (simp at h; done)))
    | refine WO_nil ?_
    | (refine A_seq ?_; first | refine C_reg ?_ | refine C_assoc ?_ | refine C_if_t rfl ?_ | refine C_if_f rfl ?_ | (refine C_if_dec rfl ?_ ?_ <;> intro h <;> try (exfalso; omega)) | (refine C_if rfl ?_ ?_ <;> intro h <;> try (simp at h; done)) | refine C_ret ?_ | refine C_skip ?_)
    | refine W_ret ?_
    | refine W_region ?_
    | refine W_skip ?_
    | refine W_if_t rfl ?_
    | refine W_if_f rfl ?_
    | (refine W_if_dec rfl ?_ ?_ <;> intro h <;> try (exfalso; omega))
    | (refine W_if rfl ?_ ?_ <;> intro h <;> try (simp at h; done))
    | refine R_t rfl (by repeat (first | exact List.Sublist.refl _ | refine List.Sublist.cons _ ?_)) ?_)
  all_goals first | rfl | (exfalso; omega)
set_option maxHeartbeats 2000000 in
theorem s4_D (n : Nat) (t x y p q : Int) (h0 : 0 ≤ t ∧ t ≤ 255) (h1 : vm t x y) (h2 : ip p q) (h3 : ip (mx t p q + 2 * x) (my t p q + 2 * y)) : SV mL (n+6) 4 [mvA t x y, ptA p q] (.bool true) := by
  have ht := vm_t h0.1 h1
  obtain ⟨v1, v2, v3, v4, v5, v6⟩ := id h1
  obtain ⟨w1, w2, w3, w4⟩ := id h2
  have c1 := mx_bd ht (M := 65536) ⟨w1, w2⟩ ⟨w3, w4⟩
  have c2 := my_bd ht (M := 65536) ⟨w1, w2⟩ ⟨w3, w4⟩
  have q1 := sq_bd c1
  have q2 := sq_bd c2
  have q3 := sq_bd (a := p) ⟨w1, w2⟩
  have q4 := sq_bd (a := q) ⟨w3, w4⟩
  have hn := norm_mv ht p q
  have e1 : mx t p q + 2 * x - (mx t 0 0 + 2 * x) = mx t p q := by rw [mx_zero]; omega
  have e2 : my t p q + 2 * y - (my t 0 0 + 2 * y) = my t p q := by rw [my_zero]; omega
  have e3 : (mx t p q + 2 * x + (my t p q + 2 * y) - p - q).tmod 2 = 0 := by
    have := mxy_even ht p q
    rw [tmod2]; omega
  refine SpecQ_run (c := k4) rfl rfl rfl ?_
  intro ro O _
  unfold k4
  repeat' (first
    | (refine A_p ?_; first | refine D_mov rfl ?_ | refine D_fad rfl ?_ | (refine A_bin ?_; first | refine D_subE e1 rfl rfl (by simp only [inR]; omega) ?_ | refine D_subE e2 rfl rfl (by simp only [inR]; omega) ?_ | refine D_tmodE e3 rfl rfl (by simp) ?_ | refine D_add rfl rfl (by simp only [inR]; omega) ?_ | refine D_sub rfl rfl (by simp only [inR]; omega) ?_ | refine D_mul rfl rfl (by simp only [inR]; omega) ?_ | refine D_eql rfl rfl ?_) | refine D_ext rfl rfl ?_ | refine D_pick_t rfl rfl ?_ | refine D_pick_f rfl rfl ?_ | (refine D_build ?_; show WO _ _ _ _ _ _ _) | (refine D_eqf rfl rfl rfl ?_; show WO _ _ _ _ _ _ _) | (refine D_neqf rfl rfl rfl ?_; show WO _ _ _ _ _ _ _))
    | (refine A_h ?_; first | (refine A_load ?_; first | (refine D_load rfl (by repeat (first | exact Has.here | refine Has.there ?_)) ?_; show WO _ _ _ _ _ _ _)) | (refine A_call ?_; first | refine D_callV rfl (s14 _) ?_ | refine D_callV rfl (s18 _ _ _ _ _ _ h0.1 h1 h2 h3) ?_ | refine D_callV rfl (s13 _ _ _ _ h0 h1) ?_ | refine D_callV rfl (s19 _ _ _ h2) ?_ | refine D_callV rfl (s19 _ _ _ h3) ?_ | refine D_callV rfl (s20 _ _ _ _ _ _ h0 (by omega) (by omega) (by omega) (by omega)) ?_) | (refine D_box_agg rfl ?_; intro _b) | (refine D_box rfl ?_ rfl; intro _b) | (refine D_store rfl rfl (by repeat (first | exact At.here | apply At.there)) rfl rfl ?_; show WO _ _ _ _ _ _ _) | (refine D_alloc ?_; intro _b))
    | (refine A_g ?_; first | refine G_do rfl ?_ | refine G_no rfl ?_ | refine G_skip rfl ?_ | (refine WO_guard_dec rfl ?_ ?_ <;> intro h <;> try (exfalso; omega)) | (refine WO_guard rfl ?_ ?_ <;> intro h <;> try (simp at h; done)))
    | refine WO_nil ?_
    | (refine A_seq ?_; first | refine C_reg ?_ | refine C_assoc ?_ | refine C_if_t rfl ?_ | refine C_if_f rfl ?_ | (refine C_if_dec rfl ?_ ?_ <;> intro h <;> try (exfalso; omega)) | (refine C_if rfl ?_ ?_ <;> intro h <;> try (simp at h; done)) | refine C_ret ?_ | refine C_skip ?_)
    | refine W_ret ?_
    | refine W_region ?_
    | refine W_skip ?_
    | refine W_if_t rfl ?_
    | refine W_if_f rfl ?_
    | (refine W_if_dec rfl ?_ ?_ <;> intro h <;> try (exfalso; omega))
    | (refine W_if rfl ?_ ?_ <;> intro h <;> try (simp at h; done))
    | refine R_t rfl (by repeat (first | exact List.Sublist.refl _ | refine List.Sublist.cons _ ?_)) ?_)
  all_goals first | rfl | (exfalso; omega)
theorem s4 (n : Nat) (t x y p q : Int) (h0 : 0 ≤ t ∧ t ≤ 255) : SV mL (n+6) 4 [mvA t x y, ptA p q] (.bool true) := by
  by_cases h1 : vm t x y
  · by_cases h2 : ip p q
    · by_cases h3 : ip (mx t p q + 2 * x) (my t p q + 2 * y)
      · exact s4_D n t x y p q h0 h1 h2 h3
      · exact s4_C n t x y p q h0 h1 h2 h3
    · exact s4_B n t x y p q h0 h1 h2
  · exact s4_A n t x y p q h0 h1
end Vm
end Go.Proofs.YtgncjbodicabnaaDoor

