/-
  Parts of a proof.
-/
import Derived.Test.YtgncjbodicabnaaDoorMkB
set_option linter.unusedSimpArgs false
set_option linter.unusedVariables false

namespace Go.Proofs.YtgncjbodicabnaaDoor
namespace Vm
variable {mL : Int}
open Go Go.Vm Go.Vm.W
set_option maxRecDepth 100000
attribute [local irreducible] W WO SpecQ runM

theorem s14 (n : Nat) : SV mL (n+1) 14 [] (.bool true) := memo_spec rfl
theorem s15a (n : Nat) (t x y s a b : Int) (h0 : 0 ≤ t) (h1 : vm t x y) (k0 : 0 ≤ s) (k1 : vm s a b) (hv : vm (cmp t s) (mx s x y + a) (my s x y + b)) : SV mL (n+4) 15 [mvA t x y, mvA s a b] (.tup [mvA (cmp t s) (mx s x y + a) (my s x y + b), .int .i64 0]) := by
  have := s15 (mL := mL) n t x y s a b h0 h1 k0 k1
  rw [thenA, if_pos hv] at this
  exact this
theorem s15b (n : Nat) (t x y s a b : Int) (h0 : 0 ≤ t) (h1 : vm t x y) (k0 : 0 ≤ s) (k1 : vm s a b) (hv : ¬ vm (cmp t s) (mx s x y + a) (my s x y + b)) : SV mL (n+4) 15 [mvA t x y, mvA s a b] (.tup [mvA 0 0 0, .int .i64 3]) := by
  have := s15 (mL := mL) n t x y s a b h0 h1 k0 k1
  rw [thenA, if_neg hv] at this
  exact this
theorem flips_cmp {t s : Int} (ht : 0 ≤ t ∧ t ≤ 7) (hs : 0 ≤ s ∧ s ≤ 7) : decide (4 ≤ cmp t s) = (decide (4 ≤ t) != decide (4 ≤ s)) := by
  rcases eight ht with rfl | rfl | rfl | rfl | rfl | rfl | rfl | rfl <;> rcases eight hs with rfl | rfl | rfl | rfl | rfl | rfl | rfl | rfl <;> decide

set_option maxHeartbeats 2000000 in
theorem s10_A (n : Nat) (t x y s a b : Int) (h0 : 0 ≤ t ∧ t ≤ 255) (k0 : 0 ≤ s ∧ s ≤ 255) (h1 : ¬ vm t x y) : SV mL (n+6) 10 [mvA t x y, mvA s a b] (.bool true) := by
  refine SpecQ_run (c := k10) rfl rfl rfl ?_
  intro ro O _
  unfold k10
  repeat' (first
    | (refine A_p ?_; first | refine D_mov rfl ?_ | refine D_fad rfl ?_ | (refine A_bin ?_; first | refine D_eql rfl rfl ?_ | refine D_neq rfl rfl ?_ | refine D_gtr rfl rfl ?_) | refine D_eqb rfl rfl ?_ | refine D_ext rfl rfl ?_ | refine D_pick_t rfl rfl ?_ | refine D_pick_f rfl rfl ?_ | (refine D_build ?_; show WO _ _ _ _ _ _ _) | (refine D_eqf rfl rfl rfl ?_; show WO _ _ _ _ _ _ _) | (refine D_neqf rfl rfl rfl ?_; show WO _ _ _ _ _ _ _) | refine D_not_dec rfl ?_ | refine D_not rfl ?_)
    | (refine A_h ?_; first | (refine A_load ?_; first | (refine D_load rfl (by repeat (first | exact Has.here | refine Has.there ?_)) ?_; show WO _ _ _ _ _ _ _)) | (refine A_call ?_; first | refine D_callV rfl (s14 _) ?_ | refine D_callV rfl (s15_no _ _ _ _ _ _ _ h0 k0 (.inl h1)) ?_ | refine D_callV rfl (s13_no _ _ _ _ h0 h1) ?_ | refine D_callV rfl (s34_no _ _ _ _ h0 h1) ?_ | refine D_callV rfl (s33_no _ _ _ _ h0 h1) ?_) | (refine D_box_agg rfl ?_; intro _b) | (refine D_box rfl ?_ rfl; intro _b) | (refine D_store rfl rfl (by repeat (first | exact At.here | apply At.there)) rfl rfl ?_; show WO _ _ _ _ _ _ _) | (refine D_alloc ?_; intro _b))
    | (refine A_g ?_; first | refine G_do rfl ?_ | refine G_no rfl ?_ | refine G_skip rfl ?_ | (refine WO_guard_dec rfl ?_ ?_ <;> intro h <;> try (exfalso; omega)) | (refine WO_guard rfl ?_ ?_ <;> intro h <;> try (simp at h; done)))
    | refine WO_nil ?_
    | (refine A_seq ?_; first | refine C_reg ?_ | refine C_assoc ?_ | refine C_if_t rfl ?_ | refine C_if_f rfl ?_ | (refine C_if_dec rfl ?_ ?_ <;> intro h <;> try (exfalso; omega)) | (refine C_if rfl ?_ ?_ <;> intro h <;> try (simp at h; done)) | refine C_ret ?_ | refine C_skip ?_)
    | refine W_ret ?_
    | refine W_region ?_
    | refine W_skip ?_
    | refine W_if_t rfl ?_
    | refine W_if_f rfl ?_
    | (refine W_if_dec rfl ?_ ?_ <;> intro h <;> try (exfalso; omega))
    | (refine W_if rfl ?_ ?_ <;> intro h <;> try (simp at h; done))
    | refine R_t rfl (by repeat (first | exact List.Sublist.refl _ | refine List.Sublist.cons _ ?_)) ?_)
  all_goals first | rfl | exact absurd rfl h | exact absurd (decide_eq_decide.2 (by omega)) h
set_option maxHeartbeats 2000000 in
theorem s10_B (n : Nat) (t x y s a b : Int) (h0 : 0 ≤ t ∧ t ≤ 255) (k0 : 0 ≤ s ∧ s ≤ 255) (h1 : vm t x y) (k1 : ¬ vm s a b) : SV mL (n+6) 10 [mvA t x y, mvA s a b] (.bool true) := by
  refine SpecQ_run (c := k10) rfl rfl rfl ?_
  intro ro O _
  unfold k10
  repeat' (first
    | (refine A_p ?_; first | refine D_mov rfl ?_ | refine D_fad rfl ?_ | (refine A_bin ?_; first | refine D_eql rfl rfl ?_ | refine D_neq rfl rfl ?_ | refine D_gtr rfl rfl ?_) | refine D_eqb rfl rfl ?_ | refine D_ext rfl rfl ?_ | refine D_pick_t rfl rfl ?_ | refine D_pick_f rfl rfl ?_ | (refine D_build ?_; show WO _ _ _ _ _ _ _) | (refine D_eqf rfl rfl rfl ?_; show WO _ _ _ _ _ _ _) | (refine D_neqf rfl rfl rfl ?_; show WO _ _ _ _ _ _ _) | refine D_not_dec rfl ?_ | refine D_not rfl ?_)
    | (refine A_h ?_; first | (refine A_load ?_; first | (refine D_load rfl (by repeat (first | exact Has.here | refine Has.there ?_)) ?_; show WO _ _ _ _ _ _ _)) | (refine A_call ?_; first | refine D_callV rfl (s14 _) ?_ | refine D_callV rfl (s15_no _ _ _ _ _ _ _ h0 k0 (.inr k1)) ?_ | refine D_callV rfl (s13 _ _ _ _ h0 h1) ?_ | refine D_callV rfl (s13_no _ _ _ _ k0 k1) ?_ | refine D_callV rfl (s34 _ _ _ _ h0 h1) ?_) | (refine D_box_agg rfl ?_; intro _b) | (refine D_box rfl ?_ rfl; intro _b) | (refine D_store rfl rfl (by repeat (first | exact At.here | apply At.there)) rfl rfl ?_; show WO _ _ _ _ _ _ _) | (refine D_alloc ?_; intro _b))
    | (refine A_g ?_; first | refine G_do rfl ?_ | refine G_no rfl ?_ | refine G_skip rfl ?_ | (refine WO_guard_dec rfl ?_ ?_ <;> intro h <;> try (exfalso; omega)) | (refine WO_guard rfl ?_ ?_ <;> intro h <;> try (simp at h; done)))
    | refine WO_nil ?_
    | (refine A_seq ?_; first | refine C_reg ?_ | refine C_assoc ?_ | refine C_if_t rfl ?_ | refine C_if_f rfl ?_ | (refine C_if_dec rfl ?_ ?_ <;> intro h <;> try (exfalso; omega)) | (refine C_if rfl ?_ ?_ <;> intro h <;> try (simp at h; done)) | refine C_ret ?_ | refine C_skip ?_)
    | refine W_ret ?_
    | refine W_region ?_
    | refine W_skip ?_
    | refine W_if_t rfl ?_
    | refine W_if_f rfl ?_
    | (refine W_if_dec rfl ?_ ?_ <;> intro h <;> try (exfalso; omega))
    | (refine W_if rfl ?_ ?_ <;> intro h <;> try (simp at h; done))
    | refine R_t rfl (by repeat (first | exact List.Sublist.refl _ | refine List.Sublist.cons _ ?_)) ?_)
  all_goals first | rfl | exact absurd rfl h | exact absurd (decide_eq_decide.2 (by omega)) h
set_option maxHeartbeats 2000000 in
theorem s10_D (n : Nat) (t x y s a b : Int) (h0 : 0 ≤ t ∧ t ≤ 255) (k0 : 0 ≤ s ∧ s ≤ 255) (h1 : vm t x y) (k1 : vm s a b) (hw : ¬ vm (cmp t s) (mx s x y + a) (my s x y + b)) : SV mL (n+6) 10 [mvA t x y, mvA s a b] (.bool true) := by
  have hc := cmp_in (vm_t h0.1 h1) (vm_t k0.1 k1)
  refine SpecQ_run (c := k10) rfl rfl rfl ?_
  intro ro O _
  unfold k10
  repeat' (first
    | (refine A_p ?_; first | refine D_mov rfl ?_ | refine D_fad rfl ?_ | (refine A_bin ?_; first | refine D_eql rfl rfl ?_ | refine D_neq rfl rfl ?_ | refine D_gtr rfl rfl ?_) | refine D_eqb rfl rfl ?_ | refine D_ext rfl rfl ?_ | refine D_pick_t rfl rfl ?_ | refine D_pick_f rfl rfl ?_ | (refine D_build ?_; show WO _ _ _ _ _ _ _) | (refine D_eqf rfl rfl rfl ?_; show WO _ _ _ _ _ _ _) | (refine D_neqf rfl rfl rfl ?_; show WO _ _ _ _ _ _ _) | refine D_not_dec rfl ?_ | refine D_not rfl ?_)
    | (refine A_h ?_; first | (refine A_load ?_; first | (refine D_load rfl (by repeat (first | exact Has.here | refine Has.there ?_)) ?_; show WO _ _ _ _ _ _ _)) | (refine A_call ?_; first | refine D_callV rfl (s14 _) ?_ | refine D_callV rfl (s15b _ _ _ _ _ _ _ h0.1 h1 k0.1 k1 hw) ?_ | refine D_callV rfl (s24 _ _ _ _ _ _ _ h0.1 h1 k0.1 k1) ?_ | refine D_callV rfl (s13 _ _ _ _ h0 h1) ?_ | refine D_callV rfl (s13 _ _ _ _ k0 k1) ?_ | refine D_callV rfl (s13_no _ _ _ _ (by omega) hw) ?_ | refine D_callV rfl (s34 _ _ _ _ h0 h1) ?_) | (refine D_box_agg rfl ?_; intro _b) | (refine D_box rfl ?_ rfl; intro _b) | (refine D_store rfl rfl (by repeat (first | exact At.here | apply At.there)) rfl rfl ?_; show WO _ _ _ _ _ _ _) | (refine D_alloc ?_; intro _b))
    | (refine A_g ?_; first | refine G_do rfl ?_ | refine G_no rfl ?_ | refine G_skip rfl ?_ | (refine WO_guard_dec rfl ?_ ?_ <;> intro h <;> try (exfalso; omega)) | (refine WO_guard rfl ?_ ?_ <;> intro h <;> try (simp at h; done)))
    | refine WO_nil ?_
    | (refine A_seq ?_; first | refine C_reg ?_ | refine C_assoc ?_ | refine C_if_t rfl ?_ | refine C_if_f rfl ?_ | (refine C_if_dec rfl ?_ ?_ <;> intro h <;> try (exfalso; omega)) | (refine C_if rfl ?_ ?_ <;> intro h <;> try (simp at h; done)) | refine C_ret ?_ | refine C_skip ?_)
    | refine W_ret ?_
    | refine W_region ?_
    | refine W_skip ?_
    | refine W_if_t rfl ?_
    | refine W_if_f rfl ?_
    | (refine W_if_dec rfl ?_ ?_ <;> intro h <;> try (exfalso; omega))
    | (refine W_if rfl ?_ ?_ <;> intro h <;> try (simp at h; done))
    | refine R_t rfl (by repeat (first | exact List.Sublist.refl _ | refine List.Sublist.cons _ ?_)) ?_)
  all_goals first | rfl | exact absurd rfl h | exact absurd (decide_eq_decide.2 (by omega)) h
set_option maxHeartbeats 2000000 in
theorem s10_C (n : Nat) (t x y s a b : Int) (h0 : 0 ≤ t ∧ t ≤ 255) (k0 : 0 ≤ s ∧ s ≤ 255) (h1 : vm t x y) (k1 : vm s a b) (hw : vm (cmp t s) (mx s x y + a) (my s x y + b)) : SV mL (n+6) 10 [mvA t x y, mvA s a b] (.bool true) := by
  have hc := cmp_in (vm_t h0.1 h1) (vm_t k0.1 k1)
  have hf := flips_cmp (vm_t h0.1 h1) (vm_t k0.1 k1)
  refine SpecQ_run (c := k10) rfl rfl rfl ?_
  intro ro O _
  unfold k10
  repeat' (first
    | (refine A_p ?_; first | refine D_mov rfl ?_ | refine D_fad rfl ?_ | (refine A_bin ?_; first | refine D_eql rfl rfl ?_ | refine D_neq rfl rfl ?_ | refine D_gtr rfl rfl ?_) | refine D_eqb rfl rfl ?_ | refine D_ext rfl rfl ?_ | refine D_pick_t rfl rfl ?_ | refine D_pick_f rfl rfl ?_ | (refine D_build ?_; show WO _ _ _ _ _ _ _) | (refine D_eqf rfl rfl rfl ?_; show WO _ _ _ _ _ _ _) | (refine D_neqf rfl rfl rfl ?_; show WO _ _ _ _ _ _ _) | refine D_not_dec rfl ?_ | refine D_not rfl ?_)
    | (refine A_h ?_; first | (refine A_load ?_; first | (refine D_load rfl (by repeat (first | exact Has.here | refine Has.there ?_)) ?_; show WO _ _ _ _ _ _ _)) | (refine A_call ?_; first | refine D_callV rfl (s14 _) ?_ | refine D_callV rfl (s15a _ _ _ _ _ _ _ h0.1 h1 k0.1 k1 hw) ?_ | refine D_callV rfl (s24 _ _ _ _ _ _ _ h0.1 h1 k0.1 k1) ?_ | refine D_callV rfl (s13 _ _ _ _ h0 h1) ?_ | refine D_callV rfl (s13 _ _ _ _ k0 k1) ?_ | refine D_callV rfl (s13 _ _ _ _ (by omega) hw) ?_ | refine D_callV rfl (s34 _ _ _ _ h0 h1) ?_ | refine D_callV rfl (s33 _ _ _ _ h0 h1 _ rfl) ?_ | refine D_callV rfl (s33 _ _ _ _ k0 k1 _ rfl) ?_ | refine D_callV rfl (s33 _ _ _ _ (by omega) hw _ hf) ?_) | (refine D_box_agg rfl ?_; intro _b) | (refine D_box rfl ?_ rfl; intro _b) | (refine D_store rfl rfl (by repeat (first | exact At.here | apply At.there)) rfl rfl ?_; show WO _ _ _ _ _ _ _) | (refine D_alloc ?_; intro _b))
    | (refine A_g ?_; first | refine G_do rfl ?_ | refine G_no rfl ?_ | refine G_skip rfl ?_ | (refine WO_guard_dec rfl ?_ ?_ <;> intro h <;> try (exfalso; omega)) | (refine WO_guard rfl ?_ ?_ <;> intro h <;> try (simp at h; done)))
    | refine WO_nil ?_
    | (refine A_seq ?_; first | refine C_reg ?_ | refine C_assoc ?_ | refine C_if_t rfl ?_ | refine C_if_f rfl ?_ | (refine C_if_dec rfl ?_ ?_ <;> intro h <;> try (exfalso; omega)) | (refine C_if rfl ?_ ?_ <;> intro h <;> try (simp at h; done)) | refine C_ret ?_ | refine C_skip ?_)
    | refine W_ret ?_
    | refine W_region ?_
    | refine W_skip ?_
    | refine W_if_t rfl ?_
    | refine W_if_f rfl ?_
    | (refine W_if_dec rfl ?_ ?_ <;> intro h <;> try (exfalso; omega))
    | (refine W_if rfl ?_ ?_ <;> intro h <;> try (simp at h; done))
    | refine R_t rfl (by repeat (first | exact List.Sublist.refl _ | refine List.Sublist.cons _ ?_)) ?_)
  all_goals first | rfl | exact absurd rfl h | exact absurd (decide_eq_decide.2 (by omega)) h
theorem s10 (n : Nat) (t x y s a b : Int) (h0 : 0 ≤ t ∧ t ≤ 255) (k0 : 0 ≤ s ∧ s ≤ 255) : SV mL (n+6) 10 [mvA t x y, mvA s a b] (.bool true) := by
  by_cases h1 : vm t x y
  · by_cases k1 : vm s a b
    · by_cases hw : vm (cmp t s) (mx s x y + a) (my s x y + b)
      · exact s10_C n t x y s a b h0 k0 h1 k1 hw
      · exact s10_D n t x y s a b h0 k0 h1 k1 hw
    · exact s10_B n t x y s a b h0 k0 h1 k1
  · exact s10_A n t x y s a b h0 k0 h1
end Vm
end Go.Proofs.YtgncjbodicabnaaDoor

