/-
  Parts of a proof.
-/
import Derived.Test.YtgncjbodicabnaaDoorMkD
import Derived.Test.YtgncjbodicabnaaDoorMkE
set_option linter.unusedSimpArgs false
set_option linter.unusedVariables false

namespace Go.Proofs.YtgncjbodicabnaaDoor
namespace Vm
variable {mL : Int}
open Go Go.Vm Go.Vm.W
set_option maxRecDepth 100000
attribute [local irreducible] W WO SpecQ runM

/-- A valid line. -/
def vl (k c : Int) : Prop := 1 ≤ k ∧ k ≤ 4 ∧ -4096 ≤ c ∧ c ≤ 4096
abbrev lnA (k c : Int) : AV := .agg [.int .u8 k, .int .i64 c]
theorem four {k c : Int} (h : vl k c) : k = 1 ∨ k = 2 ∨ k = 3 ∨ k = 4 := by obtain ⟨h1, h2, _⟩ := h; omega
theorem s28 (n : Nat) (k c : Int) (h : vl k c) : SV mL (n+1) 28 [lnA k c] (.int .i64 0) := by
  obtain ⟨h1, h2, h3, h4⟩ := h
  refine SpecQ_run (c := k28) rfl rfl rfl ?_
  intro ro O _
  unfold k28
  repeat' (first
    | (refine A_p ?_; first | refine D_mov rfl ?_ | refine D_fad rfl ?_ | (refine A_bin ?_; first | refine D_lss rfl rfl ?_ | refine D_gtr rfl rfl ?_) | refine D_pick_t rfl rfl ?_ | refine D_pick_f rfl rfl ?_)
    | (refine A_h ?_; first | (refine A_load ?_; first | (refine D_load rfl (by repeat (first | exact Has.here | refine Has.there ?_)) ?_; show WO _ _ _ _ _ _ _)) | (refine D_box_agg rfl ?_; intro _b) | (refine D_box rfl ?_ rfl; intro _b))
    | (refine A_g ?_; first | refine G_do rfl ?_ | refine G_no rfl ?_ | refine G_skip rfl ?_ | (refine WO_guard_dec rfl ?_ ?_ <;> intro h <;> try (exfalso; omega)))
    | refine WO_nil ?_
    | (refine A_seq ?_; first | refine C_reg ?_ | refine C_assoc ?_ | refine C_if_t rfl ?_ | refine C_if_f rfl ?_ | (refine C_if_dec rfl ?_ ?_ <;> intro h <;> try (exfalso; omega)) | refine C_ret ?_ | refine C_skip ?_)
    | refine W_ret ?_
    | refine W_region ?_
    | refine W_skip ?_
    | refine W_if_t rfl ?_
    | refine W_if_f rfl ?_
    | (refine W_if_dec rfl ?_ ?_ <;> intro h <;> try (exfalso; omega))
    | refine R_t rfl (by repeat (first | exact List.Sublist.refl _ | refine List.Sublist.cons _ ?_)) ?_)
  all_goals first | rfl | (exfalso; omega)
theorem s28_no (n : Nat) (k c : Int) (hv : ¬ vl k c) : SV mL (n+1) 28 [lnA k c] (.int .i64 1) := by
  unfold vl at hv
  refine SpecQ_run (c := k28) rfl rfl rfl ?_
  intro ro O _
  unfold k28
  repeat' (first
    | (refine A_p ?_; first | refine D_mov rfl ?_ | refine D_fad rfl ?_ | (refine A_bin ?_; first | refine D_lss rfl rfl ?_ | refine D_gtr rfl rfl ?_) | refine D_pick_t rfl rfl ?_ | refine D_pick_f rfl rfl ?_)
    | (refine A_h ?_; first | (refine A_load ?_; first | (refine D_load rfl (by repeat (first | exact Has.here | refine Has.there ?_)) ?_; show WO _ _ _ _ _ _ _)) | (refine D_box_agg rfl ?_; intro _b) | (refine D_box rfl ?_ rfl; intro _b))
    | (refine A_g ?_; first | refine G_do rfl ?_ | refine G_no rfl ?_ | refine G_skip rfl ?_ | (refine WO_guard_dec rfl ?_ ?_ <;> intro h <;> try (exfalso; omega)))
    | refine WO_nil ?_
    | (refine A_seq ?_; first | refine C_reg ?_ | refine C_assoc ?_ | refine C_if_t rfl ?_ | refine C_if_f rfl ?_ | (refine C_if_dec rfl ?_ ?_ <;> intro h <;> try (exfalso; omega)) | refine C_ret ?_ | refine C_skip ?_)
    | refine W_ret ?_
    | refine W_region ?_
    | refine W_skip ?_
    | refine W_if_t rfl ?_
    | refine W_if_f rfl ?_
    | (refine W_if_dec rfl ?_ ?_ <;> intro h <;> try (exfalso; omega))
    | refine R_t rfl (by repeat (first | exact List.Sublist.refl _ | refine List.Sublist.cons _ ?_)) ?_)
  all_goals first | rfl | (exfalso; omega)
theorem s22 (n : Nat) (k c : Int) (h : vl k c) : SV mL (n+1) 22 [lnA k c] (.int .i64 1) := by
  obtain ⟨h1, h2, h3, h4⟩ := h
  refine SpecQ_run (c := k22) rfl rfl rfl ?_
  intro ro O _
  unfold k22
  repeat' (first
    | (refine A_p ?_; first | refine D_mov rfl ?_ | refine D_fad rfl ?_ | (refine A_bin ?_; first | refine D_leq rfl rfl ?_ | refine D_geq rfl rfl ?_) | refine D_pick_t rfl rfl ?_ | refine D_pick_f rfl rfl ?_)
    | (refine A_h ?_; first | (refine A_load ?_; first | (refine D_load rfl (by repeat (first | exact Has.here | refine Has.there ?_)) ?_; show WO _ _ _ _ _ _ _)) | (refine D_box_agg rfl ?_; intro _b) | (refine D_box rfl ?_ rfl; intro _b))
    | (refine A_g ?_; first | refine G_do rfl ?_ | refine G_no rfl ?_ | refine G_skip rfl ?_ | (refine WO_guard_dec rfl ?_ ?_ <;> intro h <;> try (exfalso; omega)))
    | refine WO_nil ?_
    | (refine A_seq ?_; first | refine C_reg ?_ | refine C_assoc ?_ | refine C_if_t rfl ?_ | refine C_if_f rfl ?_ | (refine C_if_dec rfl ?_ ?_ <;> intro h <;> try (exfalso; omega)) | refine C_ret ?_ | refine C_skip ?_)
    | refine W_ret ?_
    | refine W_region ?_
    | refine W_skip ?_
    | refine W_if_t rfl ?_
    | refine W_if_f rfl ?_
    | (refine W_if_dec rfl ?_ ?_ <;> intro h <;> try (exfalso; omega))
    | refine R_t rfl (by repeat (first | exact List.Sublist.refl _ | refine List.Sublist.cons _ ?_)) ?_)
  all_goals first | rfl | (exfalso; omega)
theorem s22_no (n : Nat) (k c : Int) (hv : ¬ vl k c) : SV mL (n+1) 22 [lnA k c] (.int .i64 0) := by
  unfold vl at hv
  refine SpecQ_run (c := k22) rfl rfl rfl ?_
  intro ro O _
  unfold k22
  repeat' (first
    | (refine A_p ?_; first | refine D_mov rfl ?_ | refine D_fad rfl ?_ | (refine A_bin ?_; first | refine D_leq rfl rfl ?_ | refine D_geq rfl rfl ?_) | refine D_pick_t rfl rfl ?_ | refine D_pick_f rfl rfl ?_)
    | (refine A_h ?_; first | (refine A_load ?_; first | (refine D_load rfl (by repeat (first | exact Has.here | refine Has.there ?_)) ?_; show WO _ _ _ _ _ _ _)) | (refine D_box_agg rfl ?_; intro _b) | (refine D_box rfl ?_ rfl; intro _b))
    | (refine A_g ?_; first | refine G_do rfl ?_ | refine G_no rfl ?_ | refine G_skip rfl ?_ | (refine WO_guard_dec rfl ?_ ?_ <;> intro h <;> try (exfalso; omega)))
    | refine WO_nil ?_
    | (refine A_seq ?_; first | refine C_reg ?_ | refine C_assoc ?_ | refine C_if_t rfl ?_ | refine C_if_f rfl ?_ | (refine C_if_dec rfl ?_ ?_ <;> intro h <;> try (exfalso; omega)) | refine C_ret ?_ | refine C_skip ?_)
    | refine W_ret ?_
    | refine W_region ?_
    | refine W_skip ?_
    | refine W_if_t rfl ?_
    | refine W_if_f rfl ?_
    | (refine W_if_dec rfl ?_ ?_ <;> intro h <;> try (exfalso; omega))
    | refine R_t rfl (by repeat (first | exact List.Sublist.refl _ | refine List.Sublist.cons _ ?_)) ?_)
  all_goals first | rfl | (exfalso; omega)

/-- The reflection in a line. -/
def oT (k : Int) : Int := if k = 1 then 4 else if k = 2 then 6 else if k = 3 then 5 else 7
def oX (k c : Int) : Int := if k = 1 then 2 * c else if k = 2 then 0 else if k = 3 then c else -c
def oY (k c : Int) : Int := if k = 1 then 0 else if k = 2 then 2 * c else c
abbrev ofA (k c : Int) : AV := mvA (oT k) (oX k c) (oY k c)
theorem vm_of {k c : Int} (h : vl k c) : vm (oT k) (oX k c) (oY k c) := by
  have h' := h
  obtain ⟨_, _, h3, h4⟩ := h'
  rcases four h with rfl | rfl | rfl | rfl <;> simp [vm, oT, oX, oY] <;> omega
set_option maxHeartbeats 1000000 in
theorem s26 (n : Nat) (k c : Int) (h : vl k c) : SV mL (n+2) 26 [lnA k c] (.tup [ofA k c, .int .i64 0]) := by
  have h' := h
  obtain ⟨_, _, h3, h4⟩ := h'
  rcases four h with rfl | rfl | rfl | rfl
  all_goals
    refine SpecQ_run (c := k26) rfl rfl rfl ?_
    intro ro O _
    unfold k26
    repeat' (first
      | (refine A_p ?_; first | refine D_mov rfl ?_ | refine D_fad rfl ?_ | (refine A_bin ?_; first | refine D_mul rfl rfl (by simp only [inR]; omega) ?_ | refine D_eql rfl rfl ?_ | refine D_neq rfl rfl ?_) | refine D_neg rfl (by simp only [inR]; omega) ?_ | (refine D_build ?_; show WO _ _ _ _ _ _ _))
      | (refine A_h ?_; first | (refine A_load ?_; first | (refine D_load rfl (by repeat (first | exact Has.here | refine Has.there ?_)) ?_; show WO _ _ _ _ _ _ _)) | (refine A_call ?_; first | refine D_callV rfl (s28 _ _ _ h) ?_) | (refine D_box_agg rfl ?_; intro _b) | (refine D_box rfl ?_ rfl; intro _b) | (refine D_store rfl rfl (by repeat (first | exact At.here | apply At.there)) rfl rfl ?_; show WO _ _ _ _ _ _ _) | (refine D_alloc ?_; intro _b))
      | refine WO_nil ?_
      | (refine A_seq ?_; first | refine C_reg ?_ | refine C_assoc ?_ | refine C_if_t rfl ?_ | refine C_if_f rfl ?_ | (refine C_if_dec rfl ?_ ?_ <;> intro h <;> try (exfalso; omega)) | refine C_ret ?_ | refine C_skip ?_ | refine C_block ?_)
      | refine W_ret ?_
      | refine W_region ?_
      | refine W_skip ?_
      | refine W_if_t rfl ?_
      | refine W_if_f rfl ?_
      | (refine W_if_dec rfl ?_ ?_ <;> intro h <;> try (exfalso; omega))
      | refine R_ct rfl (by repeat (first | exact Has.here | refine Has.there ?_)) rfl rfl (by repeat (first | exact List.Sublist.refl _ | refine List.Sublist.cons _ ?_)) ?_)
  all_goals first | rfl | (exfalso; omega)
theorem s26_no (n : Nat) (k c : Int) (h : ¬ vl k c) : SV mL (n+2) 26 [lnA k c] (.tup [mvA 0 0 0, .int .i64 1]) := by
  refine SpecQ_run (c := k26) rfl rfl rfl ?_
  intro ro O _
  unfold k26
  repeat' (first
    | (refine A_p ?_; first | refine D_mov rfl ?_ | refine D_fad rfl ?_ | (refine A_bin ?_; first | refine D_mul rfl rfl (by simp only [inR]; omega) ?_ | refine D_eql rfl rfl ?_ | refine D_neq rfl rfl ?_) | refine D_neg rfl (by simp only [inR]; omega) ?_ | (refine D_build ?_; show WO _ _ _ _ _ _ _))
    | (refine A_h ?_; first | (refine A_load ?_; first | (refine D_load rfl (by repeat (first | exact Has.here | refine Has.there ?_)) ?_; show WO _ _ _ _ _ _ _)) | (refine A_call ?_; first | refine D_callV rfl (s28_no _ _ _ h) ?_) | (refine D_box_agg rfl ?_; intro _b) | (refine D_box rfl ?_ rfl; intro _b) | (refine D_store rfl rfl (by repeat (first | exact At.here | apply At.there)) rfl rfl ?_; show WO _ _ _ _ _ _ _) | (refine D_alloc ?_; intro _b))
    | refine WO_nil ?_
    | (refine A_seq ?_; first | refine C_reg ?_ | refine C_assoc ?_ | refine C_if_t rfl ?_ | refine C_if_f rfl ?_ | (refine C_if_dec rfl ?_ ?_ <;> intro h <;> try (exfalso; omega)) | refine C_ret ?_ | refine C_skip ?_ | refine C_block ?_)
    | refine W_ret ?_
    | refine W_region ?_
    | refine W_skip ?_
    | refine W_if_t rfl ?_
    | refine W_if_f rfl ?_
    | (refine W_if_dec rfl ?_ ?_ <;> intro h <;> try (exfalso; omega))
    | refine R_ct rfl (by repeat (first | exact Has.here | refine Has.there ?_)) rfl rfl (by repeat (first | exact List.Sublist.refl _ | refine List.Sublist.cons _ ?_)) ?_)
  all_goals first | rfl | (exfalso; omega)
theorem s45 (n : Nat) (k : Int) (a b : Int) (h : k = 1 ∧ a = 1 ∧ b = 0 ∨ k = 2 ∧ a = 0 ∧ b = 1 ∨ k = 3 ∧ a = 1 ∧ b = 1 ∨ k = 4 ∧ a = -1 ∧ b = 1) : SV mL (n+1) 45 [.int .u8 k] (.tup [.int .i64 a, .int .i64 b]) := by
  rcases h with ⟨rfl, rfl, rfl⟩ | ⟨rfl, rfl, rfl⟩ | ⟨rfl, rfl, rfl⟩ | ⟨rfl, rfl, rfl⟩
  all_goals
    refine SpecQ_run (c := k45) rfl rfl rfl ?_
    intro ro O _
    unfold k45
    repeat' (first
      | (refine A_p ?_; first | refine D_mov rfl ?_ | (refine A_bin ?_; first | refine D_eql rfl rfl ?_))
      | refine WO_nil ?_
      | (refine A_seq ?_; first | refine C_reg ?_ | refine C_assoc ?_ | refine C_if_t rfl ?_ | refine C_if_f rfl ?_ | (refine C_if_dec rfl ?_ ?_ <;> intro h <;> try (exfalso; omega)) | refine C_ret ?_ | refine C_skip ?_)
      | refine W_ret ?_
      | refine W_region ?_
      | refine W_skip ?_
      | refine W_if_t rfl ?_
      | refine W_if_f rfl ?_
      | (refine W_if_dec rfl ?_ ?_ <;> intro h <;> try (exfalso; omega))
      | refine R_tt rfl rfl (by repeat (first | exact List.Sublist.refl _ | refine List.Sublist.cons _ ?_)) ?_)
  all_goals first | rfl | (exfalso; omega)
set_option maxHeartbeats 1000000 in
theorem s52 (n : Nat) (k c p q a b : Int) (hc : -4096 ≤ c ∧ c ≤ 4096) (hp : -100000 ≤ p ∧ p ≤ 100000) (hq : -100000 ≤ q ∧ q ≤ 100000) (h : k = 1 ∧ a = 1 ∧ b = 0 ∨ k = 2 ∧ a = 0 ∧ b = 1 ∨ k = 3 ∧ a = 1 ∧ b = 1 ∨ k = 4 ∧ a = -1 ∧ b = 1) :
    SV mL (n+2) 52 [lnA k c, ptA p q] (.int .i64 (a * p + b * q - 2 * c)) := by
  have h' := h
  rcases h with ⟨rfl, rfl, rfl⟩ | ⟨rfl, rfl, rfl⟩ | ⟨rfl, rfl, rfl⟩ | ⟨rfl, rfl, rfl⟩
  all_goals
    refine SpecQ_run (c := k52) rfl rfl rfl ?_
    intro ro O _
    unfold k52
    repeat' (first
      | (refine A_p ?_; first | refine D_mov rfl ?_ | refine D_fad rfl ?_ | (refine A_bin ?_; first | refine D_add rfl rfl (by simp only [inR]; omega) ?_ | refine D_sub rfl rfl (by simp only [inR]; omega) ?_ | refine D_mul rfl rfl (by simp only [inR]; omega) ?_) | refine D_ext rfl rfl ?_)
      | (refine A_h ?_; first | (refine A_load ?_; first | (refine D_load rfl (by repeat (first | exact Has.here | refine Has.there ?_)) ?_; show WO _ _ _ _ _ _ _)) | (refine A_call ?_; first | refine D_callV rfl (s45 _ _ _ _ h') ?_) | (refine D_box_agg rfl ?_; intro _b) | (refine D_box rfl ?_ rfl; intro _b))
      | refine WO_nil ?_
      | (refine A_seq ?_; first | refine C_reg ?_ | refine C_assoc ?_ | refine C_ret ?_)
      | refine W_ret ?_
      | refine W_region ?_
      | refine R_t rfl (by repeat (first | exact List.Sublist.refl _ | refine List.Sublist.cons _ ?_)) ?_)
  all_goals rfl
theorem ptA_eq {a b c d : Int} (h : a = c) (k : b = d) : ptA a b = ptA c d := by rw [h, k]
def rX (k c p q : Int) : Int := if k = 1 then 4 * c - p else if k = 2 then p else if k = 3 then 2 * c - q else q - 2 * c
def rY (k c p q : Int) : Int := if k = 1 then q else if k = 2 then 4 * c - q else if k = 3 then 2 * c - p else p + 2 * c
set_option maxHeartbeats 2000000 in
theorem s32 (n : Nat) (k c p q : Int) (h : vl k c) (hp : -100000 ≤ p ∧ p ≤ 100000) (hq : -100000 ≤ q ∧ q ≤ 100000) : SV mL (n+3) 32 [lnA k c, ptA p q] (ptA (rX k c p q) (rY k c p q)) := by
  have h' := h
  obtain ⟨_, _, h3, h4⟩ := h'
  rcases four h with rfl | rfl | rfl | rfl
  · have e : (2 * (1 * p + 0 * q - 2 * c)).tdiv (1 * 1 + 0 * 0) = 2 * p - 4 * c := by
      rw [show (1 * 1 + 0 * 0 : Int) = 1 from rfl, Int.tdiv_one]; omega
    refine SpecQ_run (c := k32) rfl rfl rfl ?_
    intro ro O _
    unfold k32
    repeat' (first
      | (refine A_p ?_; first | refine D_mov rfl ?_ | refine D_fad rfl ?_ | (refine A_bin ?_; first | refine D_tdivE e rfl rfl (by decide) (by simp only [inR]; omega) ?_ | refine D_add rfl rfl (by simp only [inR]; omega) ?_ | refine D_sub rfl rfl (by simp only [inR]; omega) ?_ | refine D_mul rfl rfl (by simp only [inR]; omega) ?_) | refine D_ext rfl rfl ?_ | (refine D_build ?_; show WO _ _ _ _ _ _ _))
      | (refine A_h ?_; first | (refine A_load ?_; first | (refine D_load rfl (by repeat (first | exact Has.here | refine Has.there ?_)) ?_; show WO _ _ _ _ _ _ _)) | (refine A_call ?_; first | refine D_callV rfl (s45 _ 1 1 0 (by simp)) ?_ | refine D_callV rfl (s52 _ 1 _ _ _ 1 0 ⟨h3, h4⟩ hp hq (by simp)) ?_) | (refine D_box_agg rfl ?_; intro _b) | (refine D_box rfl ?_ rfl; intro _b) | (refine D_store rfl rfl (by repeat (first | exact At.here | apply At.there)) rfl rfl ?_; show WO _ _ _ _ _ _ _) | (refine D_alloc ?_; intro _b))
      | refine WO_nil ?_
      | (refine A_seq ?_; first | refine C_reg ?_ | refine C_assoc ?_ | refine C_ret ?_)
      | refine W_ret ?_
      | refine W_region ?_
      | refine R_c rfl (by repeat (first | exact Has.here | refine Has.there ?_)) rfl (by repeat (first | exact List.Sublist.refl _ | refine List.Sublist.cons _ ?_)) ?_)
    exact ptA_eq (by first | (simp [rX]; done) | (simp [rX]; omega)) (by first | (simp [rY]; done) | (simp [rY]; omega))
  · have e : (2 * (0 * p + 1 * q - 2 * c)).tdiv (0 * 0 + 1 * 1) = 2 * q - 4 * c := by
      rw [show (0 * 0 + 1 * 1 : Int) = 1 from rfl, Int.tdiv_one]; omega
    refine SpecQ_run (c := k32) rfl rfl rfl ?_
    intro ro O _
    unfold k32
    repeat' (first
      | (refine A_p ?_; first | refine D_mov rfl ?_ | refine D_fad rfl ?_ | (refine A_bin ?_; first | refine D_tdivE e rfl rfl (by decide) (by simp only [inR]; omega) ?_ | refine D_add rfl rfl (by simp only [inR]; omega) ?_ | refine D_sub rfl rfl (by simp only [inR]; omega) ?_ | refine D_mul rfl rfl (by simp only [inR]; omega) ?_) | refine D_ext rfl rfl ?_ | (refine D_build ?_; show WO _ _ _ _ _ _ _))
      | (refine A_h ?_; first | (refine A_load ?_; first | (refine D_load rfl (by repeat (first | exact Has.here | refine Has.there ?_)) ?_; show WO _ _ _ _ _ _ _)) | (refine A_call ?_; first | refine D_callV rfl (s45 _ 2 0 1 (by simp)) ?_ | refine D_callV rfl (s52 _ 2 _ _ _ 0 1 ⟨h3, h4⟩ hp hq (by simp)) ?_) | (refine D_box_agg rfl ?_; intro _b) | (refine D_box rfl ?_ rfl; intro _b) | (refine D_store rfl rfl (by repeat (first | exact At.here | apply At.there)) rfl rfl ?_; show WO _ _ _ _ _ _ _) | (refine D_alloc ?_; intro _b))
      | refine WO_nil ?_
      | (refine A_seq ?_; first | refine C_reg ?_ | refine C_assoc ?_ | refine C_ret ?_)
      | refine W_ret ?_
      | refine W_region ?_
      | refine R_c rfl (by repeat (first | exact Has.here | refine Has.there ?_)) rfl (by repeat (first | exact List.Sublist.refl _ | refine List.Sublist.cons _ ?_)) ?_)
    exact ptA_eq (by first | (simp [rX]; done) | (simp [rX]; omega)) (by first | (simp [rY]; done) | (simp [rY]; omega))
  · have e : (2 * (1 * p + 1 * q - 2 * c)).tdiv (1 * 1 + 1 * 1) = p + q - 2 * c := by
      rw [show (1 * 1 + 1 * 1 : Int) = 2 from rfl, show 2 * (1 * p + 1 * q - 2 * c) = 2 * (p + q - 2 * c) by omega]; exact Int.mul_tdiv_cancel_left _ (by decide)
    refine SpecQ_run (c := k32) rfl rfl rfl ?_
    intro ro O _
    unfold k32
    repeat' (first
      | (refine A_p ?_; first | refine D_mov rfl ?_ | refine D_fad rfl ?_ | (refine A_bin ?_; first | refine D_tdivE e rfl rfl (by decide) (by simp only [inR]; omega) ?_ | refine D_add rfl rfl (by simp only [inR]; omega) ?_ | refine D_sub rfl rfl (by simp only [inR]; omega) ?_ | refine D_mul rfl rfl (by simp only [inR]; omega) ?_) | refine D_ext rfl rfl ?_ | (refine D_build ?_; show WO _ _ _ _ _ _ _))
      | (refine A_h ?_; first | (refine A_load ?_; first | (refine D_load rfl (by repeat (first | exact Has.here | refine Has.there ?_)) ?_; show WO _ _ _ _ _ _ _)) | (refine A_call ?_; first | refine D_callV rfl (s45 _ 3 1 1 (by simp)) ?_ | refine D_callV rfl (s52 _ 3 _ _ _ 1 1 ⟨h3, h4⟩ hp hq (by simp)) ?_) | (refine D_box_agg rfl ?_; intro _b) | (refine D_box rfl ?_ rfl; intro _b) | (refine D_store rfl rfl (by repeat (first | exact At.here | apply At.there)) rfl rfl ?_; show WO _ _ _ _ _ _ _) | (refine D_alloc ?_; intro _b))
      | refine WO_nil ?_
      | (refine A_seq ?_; first | refine C_reg ?_ | refine C_assoc ?_ | refine C_ret ?_)
      | refine W_ret ?_
      | refine W_region ?_
      | refine R_c rfl (by repeat (first | exact Has.here | refine Has.there ?_)) rfl (by repeat (first | exact List.Sublist.refl _ | refine List.Sublist.cons _ ?_)) ?_)
    exact ptA_eq (by first | (simp [rX]; done) | (simp [rX]; omega)) (by first | (simp [rY]; done) | (simp [rY]; omega))
  · have e : (2 * ((-1) * p + 1 * q - 2 * c)).tdiv ((-1) * (-1) + 1 * 1) = q - p - 2 * c := by
      rw [show ((-1) * (-1) + 1 * 1 : Int) = 2 from rfl, show 2 * ((-1) * p + 1 * q - 2 * c) = 2 * (q - p - 2 * c) by omega]; exact Int.mul_tdiv_cancel_left _ (by decide)
    refine SpecQ_run (c := k32) rfl rfl rfl ?_
    intro ro O _
    unfold k32
    repeat' (first
      | (refine A_p ?_; first | refine D_mov rfl ?_ | refine D_fad rfl ?_ | (refine A_bin ?_; first | refine D_tdivE e rfl rfl (by decide) (by simp only [inR]; omega) ?_ | refine D_add rfl rfl (by simp only [inR]; omega) ?_ | refine D_sub rfl rfl (by simp only [inR]; omega) ?_ | refine D_mul rfl rfl (by simp only [inR]; omega) ?_) | refine D_ext rfl rfl ?_ | (refine D_build ?_; show WO _ _ _ _ _ _ _))
      | (refine A_h ?_; first | (refine A_load ?_; first | (refine D_load rfl (by repeat (first | exact Has.here | refine Has.there ?_)) ?_; show WO _ _ _ _ _ _ _)) | (refine A_call ?_; first | refine D_callV rfl (s45 _ 4 (-1) 1 (by simp)) ?_ | refine D_callV rfl (s52 _ 4 _ _ _ (-1) 1 ⟨h3, h4⟩ hp hq (by simp)) ?_) | (refine D_box_agg rfl ?_; intro _b) | (refine D_box rfl ?_ rfl; intro _b) | (refine D_store rfl rfl (by repeat (first | exact At.here | apply At.there)) rfl rfl ?_; show WO _ _ _ _ _ _ _) | (refine D_alloc ?_; intro _b))
      | refine WO_nil ?_
      | (refine A_seq ?_; first | refine C_reg ?_ | refine C_assoc ?_ | refine C_ret ?_)
      | refine W_ret ?_
      | refine W_region ?_
      | refine R_c rfl (by repeat (first | exact Has.here | refine Has.there ?_)) rfl (by repeat (first | exact List.Sublist.refl _ | refine List.Sublist.cons _ ?_)) ?_)
    exact ptA_eq (by first | (simp [rX]; done) | (simp [rX]; omega)) (by first | (simp [rY]; done) | (simp [rY]; omega))
end Vm
end Go.Proofs.YtgncjbodicabnaaDoor

namespace Go.Proofs.YtgncjbodicabnaaDoor
namespace Vm
variable {mL : Int}
open Go Go.Vm Go.Vm.W
set_option maxRecDepth 100000
attribute [local irreducible] W WO SpecQ runM

theorem oT_in (k : Int) : 0 ≤ oT k ∧ oT k ≤ 7 := by unfold oT; split <;> (try split) <;> (try split) <;> omega
theorem rX_mv {k c : Int} (h : vl k c) (p q : Int) : mx (oT k) p q + 2 * oX k c = rX k c p q ∧ my (oT k) p q + 2 * oY k c = rY k c p q := by
  rcases four h with rfl | rfl | rfl | rfl <;> simp [mx, my, oT, oX, oY, rX, rY] <;> omega
set_option maxHeartbeats 1000000 in
theorem s25 (n : Nat) (k c : Int) (h : vl k c) : SV mL (n+4) 25 [lnA k c] (ofA k c) := by
  have hb := vm_of h
  obtain ⟨_, v2, v3, v4, v5, _⟩ := id hb
  have e0 := rX_mv h 0 0
  have e1 := rX_mv h 2 0
  have e2 := rX_mv h 0 2
  refine SpecQ_run (c := k25) rfl rfl rfl ?_
  intro ro O _
  unfold k25
  repeat' (first
    | (refine A_p ?_; first | (refine D_build ?_; show WO _ _ _ _ _ _ _))
    | (refine A_h ?_; first | (refine A_load ?_; first | (refine D_load rfl (by repeat (first | exact Has.here | refine Has.there ?_)) ?_; show WO _ _ _ _ _ _ _)) | (refine A_call ?_; first | refine D_callV rfl (s32 _ _ _ _ _ h (by omega) (by omega)) ?_ | refine D_callV rfl (s46 _ (oT k) (oX k c) (oY k c) _ _ _ _ _ _ (oT_in k) (by omega) (by omega) (by rw [← e0.1, mx_zero]; omega) (by rw [← e0.2, my_zero]; omega) (by rw [← e1.1]) (by rw [← e1.2]) (by rw [← e2.1]) (by rw [← e2.2])) ?_) | (refine D_box_agg rfl ?_; intro _b) | (refine D_box rfl ?_ rfl; intro _b) | (refine D_store rfl rfl (by repeat (first | exact At.here | apply At.there)) rfl rfl ?_; show WO _ _ _ _ _ _ _) | (refine D_alloc ?_; intro _b))
    | refine WO_nil ?_
    | (refine A_seq ?_; first | refine C_reg ?_ | refine C_assoc ?_ | refine C_ret ?_)
    | refine W_ret ?_
    | refine W_region ?_
    | refine R_c rfl (by repeat (first | exact Has.here | refine Has.there ?_)) rfl (by repeat (first | exact List.Sublist.refl _ | refine List.Sublist.cons _ ?_)) ?_)
  all_goals rfl
theorem s15o (n : Nat) (k c : Int) (h : vl k c) : SV mL (n+4) 15 [ofA k c, ofA k c] (.tup [mvA 0 0 0, .int .i64 0]) := by
  have e1 : cmp (oT k) (oT k) = 0 := by rcases four h with rfl | rfl | rfl | rfl <;> decide
  have e2 : mx (oT k) (oX k c) (oY k c) + oX k c = 0 := by rcases four h with rfl | rfl | rfl | rfl <;> simp [mx, oT, oX, oY] <;> omega
  have e3 : my (oT k) (oX k c) (oY k c) + oY k c = 0 := by rcases four h with rfl | rfl | rfl | rfl <;> simp [my, oT, oX, oY] <;> omega
  have := s15a (mL := mL) n (oT k) (oX k c) (oY k c) (oT k) (oX k c) (oY k c) (oT_in k).1 (vm_of h) (oT_in k).1 (vm_of h) (by rw [e1, e2, e3]; exact vm_zero)
  rw [e1, e2, e3] at this
  exact this
theorem ip_r {k c p q : Int} (h : vl k c) (hp : -128 ≤ p ∧ p ≤ 127) (hq : -128 ≤ q ∧ q ≤ 127) : ip (rX k c p q) (rY k c p q) := by
  have h' := h
  obtain ⟨_, _, h3, h4⟩ := h'
  rcases four h with rfl | rfl | rfl | rfl <;> simp [ip, rX, rY] <;> omega
theorem s18o (n : Nat) (k c p q : Int) (h : vl k c) (hp : -128 ≤ p ∧ p ≤ 127) (hq : -128 ≤ q ∧ q ≤ 127) : SV mL (n+3) 18 [ofA k c, ptA p q] (.tup [ptA (rX k c p q) (rY k c p q), .int .i64 0]) := by
  have e := rX_mv h p q
  have := s18 (mL := mL) n (oT k) (oX k c) (oY k c) p q (oT_in k).1 (vm_of h) ⟨by omega, by omega, by omega, by omega⟩ (by rw [e.1, e.2]; exact ip_r h hp hq)
  rw [e.1, e.2] at this
  exact this
set_option maxHeartbeats 2000000 in
theorem s9_A (n : Nat) (k c p q : Int) (hl : ¬ vl k c) (hp : -128 ≤ p ∧ p ≤ 127) (hq : -128 ≤ q ∧ q ≤ 127) : SV mL (n+6) 9 [lnA k c, .int .i8 p, .int .i8 q] (.bool true) := by
  refine SpecQ_run (c := k9) rfl rfl rfl ?_
  intro ro O _
  unfold k9
  repeat' (first
    | (refine A_p ?_; first | refine D_mov rfl ?_ | (refine A_bin ?_; first | refine D_eql rfl rfl ?_) | refine D_ext rfl rfl ?_ | refine D_pick_t rfl rfl ?_ | refine D_pick_f rfl rfl ?_ | refine D_cvi rfl (by simp only [inR]; omega) ?_ | (refine D_build ?_; show WO _ _ _ _ _ _ _) | (refine D_eqf rfl rfl rfl ?_; show WO _ _ _ _ _ _ _) | (refine D_neqf rfl rfl rfl ?_; show WO _ _ _ _ _ _ _))
    | (refine A_h ?_; first | (refine A_load ?_; first | (refine D_load rfl (by repeat (first | exact Has.here | refine Has.there ?_)) ?_; show WO _ _ _ _ _ _ _)) | (refine A_call ?_; first | refine D_callV rfl (s14 _) ?_ | refine D_callV rfl (s26_no _ _ _ hl) ?_ | refine D_callV rfl (s22_no _ _ _ hl) ?_) | (refine D_box_agg rfl ?_; intro _b) | (refine D_box rfl ?_ rfl; intro _b) | (refine D_store rfl rfl (by repeat (first | exact At.here | apply At.there)) rfl rfl ?_; show WO _ _ _ _ _ _ _) | (refine D_alloc ?_; intro _b))
    | (refine A_g ?_; first | refine G_do rfl ?_ | refine G_no rfl ?_ | refine G_skip rfl ?_ | (refine WO_guard_dec rfl ?_ ?_ <;> intro h <;> try (exfalso; omega)) | (refine WO_guard rfl ?_ ?_ <;> intro h <;> try (simp at h; done)))
    | refine WO_nil ?_
    | (refine A_seq ?_; first | refine C_reg ?_ | refine C_assoc ?_ | refine C_if_t rfl ?_ | refine C_if_f rfl ?_ | (refine C_if_dec rfl ?_ ?_ <;> intro h <;> try (exfalso; omega)) | (refine C_if rfl ?_ ?_ <;> intro h <;> try (simp at h; done)) | refine C_ret ?_ | refine C_skip ?_)
    | refine W_ret ?_
    | refine W_region ?_
    | refine W_skip ?_
    | refine W_if_t rfl ?_
    | refine W_if_f rfl ?_
    | (refine W_if_dec rfl ?_ ?_ <;> intro h <;> try (exfalso; omega))
    | (refine W_if rfl ?_ ?_ <;> intro h <;> try (simp at h; done))
    | refine R_t rfl (by repeat (first | exact List.Sublist.refl _ | refine List.Sublist.cons _ ?_)) ?_)
  all_goals first | rfl | (exfalso; omega)
set_option maxHeartbeats 2000000 in
theorem s9_B (n : Nat) (k c p q : Int) (hl : vl k c) (hp : -128 ≤ p ∧ p ≤ 127) (hq : -128 ≤ q ∧ q ≤ 127) : SV mL (n+6) 9 [lnA k c, .int .i8 p, .int .i8 q] (.bool true) := by
  have ho := oT_in k
  have h4 : decide (4 ≤ oT k) = true := by rcases four hl with rfl | rfl | rfl | rfl <;> decide
  refine SpecQ_run (c := k9) rfl rfl rfl ?_
  intro ro O _
  unfold k9
  repeat' (first
    | (refine A_p ?_; first | refine D_mov rfl ?_ | (refine A_bin ?_; first | refine D_eql rfl rfl ?_) | refine D_ext rfl rfl ?_ | refine D_pick_t rfl rfl ?_ | refine D_pick_f rfl rfl ?_ | refine D_cvi rfl (by simp only [inR]; omega) ?_ | (refine D_build ?_; show WO _ _ _ _ _ _ _) | (refine D_eqf rfl rfl rfl ?_; show WO _ _ _ _ _ _ _) | (refine D_neqf rfl rfl rfl ?_; show WO _ _ _ _ _ _ _))
    | (refine A_h ?_; first | (refine A_load ?_; first | (refine D_load rfl (by repeat (first | exact Has.here | refine Has.there ?_)) ?_; show WO _ _ _ _ _ _ _)) | (refine A_call ?_; first | refine D_callV rfl (s14 _) ?_ | refine D_callV rfl (s17 _) ?_ | refine D_callV rfl (s26 _ _ _ hl) ?_ | refine D_callV rfl (s22 _ _ _ hl) ?_ | refine D_callV rfl (s25 _ _ _ hl) ?_ | refine D_callV rfl (s15o _ _ _ hl) ?_ | refine D_callV rfl (s18o _ _ _ _ _ hl hp hq) ?_ | refine D_callV rfl (s32 _ _ _ _ _ hl (by omega) (by omega)) ?_ | refine D_callV rfl (s33 _ _ _ _ (by omega) (vm_of hl) _ h4) ?_ | refine D_callV rfl (s34 _ _ _ _ (by omega) (vm_of hl)) ?_) | (refine D_box_agg rfl ?_; intro _b) | (refine D_box rfl ?_ rfl; intro _b) | (refine D_store rfl rfl (by repeat (first | exact At.here | apply At.there)) rfl rfl ?_; show WO _ _ _ _ _ _ _) | (refine D_alloc ?_; intro _b))
    | (refine A_g ?_; first | refine G_do rfl ?_ | refine G_no rfl ?_ | refine G_skip rfl ?_ | (refine WO_guard_dec rfl ?_ ?_ <;> intro h <;> try (exfalso; omega)) | (refine WO_guard rfl ?_ ?_ <;> intro h <;> try (simp at h; done)))
    | refine WO_nil ?_
    | (refine A_seq ?_; first | refine C_reg ?_ | refine C_assoc ?_ | refine C_if_t rfl ?_ | refine C_if_f rfl ?_ | (refine C_if_dec rfl ?_ ?_ <;> intro h <;> try (exfalso; omega)) | (refine C_if rfl ?_ ?_ <;> intro h <;> try (simp at h; done)) | refine C_ret ?_ | refine C_skip ?_)
    | refine W_ret ?_
    | refine W_region ?_
    | refine W_skip ?_
    | refine W_if_t rfl ?_
    | refine W_if_f rfl ?_
    | (refine W_if_dec rfl ?_ ?_ <;> intro h <;> try (exfalso; omega))
    | (refine W_if rfl ?_ ?_ <;> intro h <;> try (simp at h; done))
    | refine R_t rfl (by repeat (first | exact List.Sublist.refl _ | refine List.Sublist.cons _ ?_)) ?_)
  all_goals first | rfl | (exfalso; omega)
theorem s9 (n : Nat) (k c p q : Int) (hp : -128 ≤ p ∧ p ≤ 127) (hq : -128 ≤ q ∧ q ≤ 127) : SV mL (n+6) 9 [lnA k c, .int .i8 p, .int .i8 q] (.bool true) := by
  by_cases h : vl k c
  · exact s9_B n k c p q h hp hq
  · exact s9_A n k c p q h hp hq
end Vm
end Go.Proofs.YtgncjbodicabnaaDoor

