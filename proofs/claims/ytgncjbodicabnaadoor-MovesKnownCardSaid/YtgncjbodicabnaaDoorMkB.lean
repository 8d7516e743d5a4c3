/-
  Parts of a proof.
-/
import Derived.Test.YtgncjbodicabnaaDoorMkA
set_option linter.unusedSimpArgs false
set_option linter.unusedVariables false

namespace Go.Proofs.YtgncjbodicabnaaDoor
namespace Vm
variable {mL : Int}
open Go Go.Vm Go.Vm.W
set_option maxRecDepth 100000
attribute [local irreducible] W WO SpecQ runM

set_option maxHeartbeats 600000 in
theorem s13 (n : Nat) (k x y : Int) (h0 : 0 ≤ k ∧ k ≤ 255) (hv : vm k x y) : SV mL (n+1) 13 [mvA k x y] (.int .i64 1) := by
  obtain ⟨v1, v2, v3, v4, v5, v6⟩ := hv
  refine SpecQ_run (c := k13) rfl rfl rfl ?_
  intro ro O _
  unfold k13
  repeat' (first
    | (refine A_p ?_; first | refine D_mov rfl ?_ | refine D_fad rfl ?_ | (refine A_bin ?_; first | refine D_tmod rfl rfl (by simp) ?_ | refine D_sub rfl rfl (by simp only [inR]; omega) ?_ | refine D_lss rfl rfl ?_ | refine D_neq rfl rfl ?_ | refine D_gtr rfl rfl ?_) | refine D_pick_t rfl rfl ?_ | refine D_pick_f rfl rfl ?_)
    | (refine A_h ?_; first | (refine A_load ?_; first | (refine D_load rfl (by repeat (first | exact Has.here | refine Has.there ?_)) ?_; show WO _ _ _ _ _ _ _)) | (refine D_box_agg rfl ?_; intro _b) | (refine D_box rfl ?_ rfl; intro _b))
    | (refine A_g ?_; first | refine G_do rfl ?_ | refine G_no rfl ?_ | refine G_skip rfl ?_ | (refine WO_guard_dec rfl ?_ ?_ <;> intro h <;> try (exfalso; omega)))
    | refine WO_nil ?_
    | (refine A_seq ?_; first | refine C_reg ?_ | refine C_assoc ?_ | refine C_if_t rfl ?_ | refine C_if_f rfl ?_ | (refine C_if_dec rfl ?_ ?_ <;> intro h <;> try (exfalso; omega)) | refine C_ret ?_ | refine C_skip ?_)
    | refine W_ret ?_
    | refine W_region ?_
    | refine W_skip ?_
    | refine W_if_t rfl ?_
    | refine W_if_f rfl ?_
    | (refine W_if_dec rfl ?_ ?_ <;> intro h <;> try (exfalso; omega))
    | refine R_t rfl (by repeat (first | exact List.Sublist.refl _ | refine List.Sublist.cons _ ?_)) ?_)
  all_goals first | rfl | (exfalso; (try simp only [ne_eq, tmod2, Classical.not_not] at h); omega)
set_option maxHeartbeats 600000 in
theorem s13_no (n : Nat) (k x y : Int) (h0 : 0 ≤ k ∧ k ≤ 255) (hv : ¬ vm k x y) : SV mL (n+1) 13 [mvA k x y] (.int .i64 0) := by
  unfold vm at hv
  refine SpecQ_run (c := k13) rfl rfl rfl ?_
  intro ro O _
  unfold k13
  repeat' (first
    | (refine A_p ?_; first | refine D_mov rfl ?_ | refine D_fad rfl ?_ | (refine A_bin ?_; first | refine D_tmod rfl rfl (by simp) ?_ | refine D_sub rfl rfl (by simp only [inR]; omega) ?_ | refine D_lss rfl rfl ?_ | refine D_neq rfl rfl ?_ | refine D_gtr rfl rfl ?_) | refine D_pick_t rfl rfl ?_ | refine D_pick_f rfl rfl ?_)
    | (refine A_h ?_; first | (refine A_load ?_; first | (refine D_load rfl (by repeat (first | exact Has.here | refine Has.there ?_)) ?_; show WO _ _ _ _ _ _ _)) | (refine D_box_agg rfl ?_; intro _b) | (refine D_box rfl ?_ rfl; intro _b))
    | (refine A_g ?_; first | refine G_do rfl ?_ | refine G_no rfl ?_ | refine G_skip rfl ?_ | (refine WO_guard_dec rfl ?_ ?_ <;> intro h <;> try (exfalso; omega)))
    | refine WO_nil ?_
    | (refine A_seq ?_; first | refine C_reg ?_ | refine C_assoc ?_ | refine C_if_t rfl ?_ | refine C_if_f rfl ?_ | (refine C_if_dec rfl ?_ ?_ <;> intro h <;> try (exfalso; omega)) | refine C_ret ?_ | refine C_skip ?_)
    | refine W_ret ?_
    | refine W_region ?_
    | refine W_skip ?_
    | refine W_if_t rfl ?_
    | refine W_if_f rfl ?_
    | (refine W_if_dec rfl ?_ ?_ <;> intro h <;> try (exfalso; omega))
    | refine R_t rfl (by repeat (first | exact List.Sublist.refl _ | refine List.Sublist.cons _ ?_)) ?_)
  all_goals first | rfl | (exfalso; (try simp only [ne_eq, tmod2, Classical.not_not] at h); omega)
theorem s33 (n : Nat) (k x y : Int) (h0 : 0 ≤ k ∧ k ≤ 255) (hv : vm k x y) (b : Bool) (hb : decide (4 ≤ k) = b) : SV mL (n+3) 33 [mvA k x y] (.bool b) := by
  refine SpecQ_run (c := k33) rfl rfl rfl ?_
  intro ro O _
  unfold k33
  repeat' (first
    | (refine A_p ?_; first | refine D_mov rfl ?_ | refine D_fad rfl ?_ | (refine A_bin ?_; first | refine D_eql rfl rfl ?_ | refine D_geq rfl rfl ?_) | refine D_pick_t rfl rfl ?_ | refine D_pick_f rfl rfl ?_)
    | (refine A_h ?_; first | (refine A_load ?_; first | (refine D_load rfl (by repeat (first | exact Has.here | refine Has.there ?_)) ?_; show WO _ _ _ _ _ _ _)) | (refine A_call ?_; first | refine D_callV rfl (s34 _ _ _ _ h0 hv) ?_) | (refine D_box_agg rfl ?_; intro _b) | (refine D_box rfl ?_ rfl; intro _b))
    | (refine A_g ?_; first | refine G_do rfl ?_ | refine G_no rfl ?_ | refine G_skip rfl ?_ | (refine WO_guard_dec rfl ?_ ?_ <;> intro h <;> try (exfalso; omega)))
    | refine WO_nil ?_
    | (refine A_seq ?_; first | refine C_reg ?_ | refine C_assoc ?_ | refine C_ret ?_)
    | refine W_ret ?_
    | refine W_region ?_
    | refine R_t rfl (by repeat (first | exact List.Sublist.refl _ | refine List.Sublist.cons _ ?_)) ?_)
  all_goals first | (rw [← hb]) | (exfalso; omega)
theorem s33_no (n : Nat) (k x y : Int) (h0 : 0 ≤ k ∧ k ≤ 255) (hv : ¬ vm k x y) : SV mL (n+3) 33 [mvA k x y] (.bool false) := by
  refine SpecQ_run (c := k33) rfl rfl rfl ?_
  intro ro O _
  unfold k33
  repeat' (first
    | (refine A_p ?_; first | refine D_mov rfl ?_ | refine D_fad rfl ?_ | (refine A_bin ?_; first | refine D_eql rfl rfl ?_ | refine D_geq rfl rfl ?_) | refine D_pick_t rfl rfl ?_ | refine D_pick_f rfl rfl ?_)
    | (refine A_h ?_; first | (refine A_load ?_; first | (refine D_load rfl (by repeat (first | exact Has.here | refine Has.there ?_)) ?_; show WO _ _ _ _ _ _ _)) | (refine A_call ?_; first | refine D_callV rfl (s34_no _ _ _ _ h0 hv) ?_) | (refine D_box_agg rfl ?_; intro _b) | (refine D_box rfl ?_ rfl; intro _b))
    | (refine A_g ?_; first | refine G_do rfl ?_ | refine G_no rfl ?_ | refine G_skip rfl ?_ | (refine WO_guard_dec rfl ?_ ?_ <;> intro h <;> try (exfalso; omega)))
    | refine WO_nil ?_
    | (refine A_seq ?_; first | refine C_reg ?_ | refine C_assoc ?_ | refine C_ret ?_)
    | refine W_ret ?_
    | refine W_region ?_
    | refine R_t rfl (by repeat (first | exact List.Sublist.refl _ | refine List.Sublist.cons _ ?_)) ?_)
  all_goals first | rfl | (exfalso; omega)
set_option maxHeartbeats 600000 in
theorem s15_no (n : Nat) (t x y s a b : Int) (h0 : 0 ≤ t ∧ t ≤ 255) (k0 : 0 ≤ s ∧ s ≤ 255) (h : ¬ vm t x y ∨ ¬ vm s a b) : SV mL (n+4) 15 [mvA t x y, mvA s a b] (.tup [mvA 0 0 0, .int .i64 1]) := by
  by_cases h1 : vm t x y
  · have h2 : ¬ vm s a b := by rcases h with h | h; exact absurd h1 h; exact h
    clear h
    refine SpecQ_run (c := k15) rfl rfl rfl ?_
    intro ro O _
    unfold k15
    repeat' (first
      | (refine A_p ?_; first | refine D_mov rfl ?_ | refine D_fad rfl ?_ | (refine A_bin ?_; first | refine D_add rfl rfl (by simp only [inR]; omega) ?_ | refine D_neq rfl rfl ?_) | refine D_ext rfl rfl ?_ | refine D_pick_t rfl rfl ?_ | refine D_pick_f rfl rfl ?_ | (refine D_build ?_; show WO _ _ _ _ _ _ _) | refine D_iadA rfl rfl (by omega) (by omega) ?_)
      | (refine A_h ?_; first | (refine A_load ?_; first | (refine D_load rfl (by repeat (first | exact Has.here | refine Has.there ?_)) ?_; show WO _ _ _ _ _ _ _)) | (refine A_call ?_; first | refine D_callV rfl (s34 _ _ _ _ h0 h1) ?_ | refine D_callV rfl (s34_no _ _ _ _ k0 h2) ?_) | (refine D_box_agg rfl ?_; intro _b) | (refine D_box rfl ?_ rfl; intro _b) | (refine D_store rfl rfl (by repeat (first | exact At.here | apply At.there)) rfl rfl ?_; show WO _ _ _ _ _ _ _) | (refine D_alloc ?_; intro _b))
      | (refine A_g ?_; first | refine G_do rfl ?_ | refine G_no rfl ?_ | refine G_skip rfl ?_ | (refine WO_guard_dec rfl ?_ ?_ <;> intro h <;> try (exfalso; omega)))
      | refine WO_nil ?_
      | (refine A_seq ?_; first | refine C_reg ?_ | refine C_assoc ?_ | refine C_if_t rfl ?_ | refine C_if_f rfl ?_ | (refine C_if_dec rfl ?_ ?_ <;> intro h <;> try (exfalso; omega)) | refine C_ret ?_ | refine C_skip ?_)
      | refine W_ret ?_
      | refine W_region ?_
      | refine W_skip ?_
      | refine W_if_t rfl ?_
      | refine W_if_f rfl ?_
      | (refine W_if_dec rfl ?_ ?_ <;> intro h <;> try (exfalso; omega))
      | refine R_ct rfl (by repeat (first | exact Has.here | refine Has.there ?_)) rfl rfl (by repeat (first | exact List.Sublist.refl _ | refine List.Sublist.cons _ ?_)) ?_)
    all_goals first | rfl | (exfalso; omega)
  · clear h
    refine SpecQ_run (c := k15) rfl rfl rfl ?_
    intro ro O _
    unfold k15
    repeat' (first
      | (refine A_p ?_; first | refine D_mov rfl ?_ | refine D_fad rfl ?_ | (refine A_bin ?_; first | refine D_add rfl rfl (by simp only [inR]; omega) ?_ | refine D_neq rfl rfl ?_) | refine D_ext rfl rfl ?_ | refine D_pick_t rfl rfl ?_ | refine D_pick_f rfl rfl ?_ | (refine D_build ?_; show WO _ _ _ _ _ _ _) | refine D_iadA rfl rfl (by omega) (by omega) ?_)
      | (refine A_h ?_; first | (refine A_load ?_; first | (refine D_load rfl (by repeat (first | exact Has.here | refine Has.there ?_)) ?_; show WO _ _ _ _ _ _ _)) | (refine A_call ?_; first | refine D_callV rfl (s34_no _ _ _ _ h0 h1) ?_) | (refine D_box_agg rfl ?_; intro _b) | (refine D_box rfl ?_ rfl; intro _b) | (refine D_store rfl rfl (by repeat (first | exact At.here | apply At.there)) rfl rfl ?_; show WO _ _ _ _ _ _ _) | (refine D_alloc ?_; intro _b))
      | (refine A_g ?_; first | refine G_do rfl ?_ | refine G_no rfl ?_ | refine G_skip rfl ?_ | (refine WO_guard_dec rfl ?_ ?_ <;> intro h <;> try (exfalso; omega)))
      | refine WO_nil ?_
      | (refine A_seq ?_; first | refine C_reg ?_ | refine C_assoc ?_ | refine C_if_t rfl ?_ | refine C_if_f rfl ?_ | (refine C_if_dec rfl ?_ ?_ <;> intro h <;> try (exfalso; omega)) | refine C_ret ?_ | refine C_skip ?_)
      | refine W_ret ?_
      | refine W_region ?_
      | refine W_skip ?_
      | refine W_if_t rfl ?_
      | refine W_if_f rfl ?_
      | (refine W_if_dec rfl ?_ ?_ <;> intro h <;> try (exfalso; omega))
      | refine R_ct rfl (by repeat (first | exact Has.here | refine Has.there ?_)) rfl rfl (by repeat (first | exact List.Sublist.refl _ | refine List.Sublist.cons _ ?_)) ?_)
    all_goals first | rfl | (exfalso; omega)
set_option maxHeartbeats 1000000 in
theorem s20 (n : Nat) (t x y p q : Int) (h0 : 0 ≤ t ∧ t ≤ 255) (hx : -1000000000 ≤ x ∧ x ≤ 1000000000) (hy : -1000000000 ≤ y ∧ y ≤ 1000000000) (hp : -1000000000 ≤ p ∧ p ≤ 1000000000) (hq : -1000000000 ≤ q ∧ q ≤ 1000000000) :
    SV mL (n+1) 20 [mvA t x y, .agg [.int .i64 p, .int .i64 q]] (.agg [.int .i64 (mx t p q + 2 * x), .int .i64 (my t p q + 2 * y)]) := by
  refine SpecQ_run (c := k20) rfl rfl rfl ?_
  intro ro O _
  unfold k20
  repeat' (first
    | (refine A_p ?_; first | refine D_mov rfl ?_ | refine D_fad rfl ?_ | (refine A_bin ?_; first | refine D_add rfl rfl (by simp only [inR]; omega) ?_ | refine D_mul rfl rfl (by simp only [inR]; omega) ?_ | refine D_eql rfl rfl ?_) | refine D_neg rfl (by simp only [inR]; omega) ?_ | (refine D_build ?_; show WO _ _ _ _ _ _ _))
    | (refine A_h ?_; first | (refine A_load ?_; first | (refine D_load rfl (by repeat (first | exact Has.here | refine Has.there ?_)) ?_; show WO _ _ _ _ _ _ _)) | (refine D_box_agg rfl ?_; intro _b) | (refine D_box rfl ?_ rfl; intro _b) | (refine D_store rfl rfl (by repeat (first | exact At.here | apply At.there)) rfl rfl ?_; show WO _ _ _ _ _ _ _) | (refine D_alloc ?_; intro _b))
    | refine WO_nil ?_
    | (refine A_seq ?_; first | refine C_reg ?_ | refine C_assoc ?_ | refine C_if_t rfl ?_ | refine C_if_f rfl ?_ | (refine C_if_dec rfl ?_ ?_ <;> intro h <;> try (exfalso; omega)) | refine C_ret ?_ | refine C_skip ?_)
    | refine W_ret ?_
    | refine W_region ?_
    | refine W_skip ?_
    | refine W_if_t rfl ?_
    | refine W_if_f rfl ?_
    | (refine W_if_dec rfl ?_ ?_ <;> intro h <;> try (exfalso; omega))
    | refine R_c rfl (by repeat (first | exact Has.here | refine Has.there ?_)) rfl (by repeat (first | exact List.Sublist.refl _ | refine List.Sublist.cons _ ?_)) ?_)
  all_goals simp only [mx, my, *]
  all_goals first | rfl | trace_state
end Vm
end Go.Proofs.YtgncjbodicabnaaDoor

namespace Go.Proofs.YtgncjbodicabnaaDoor
namespace Vm
variable {mL : Int}
open Go Go.Vm Go.Vm.W
set_option maxRecDepth 100000
attribute [local irreducible] W WO SpecQ runM

theorem mat2_inj {t s : Int} (ht : 0 ≤ t ∧ t ≤ 7) (hs : 0 ≤ s ∧ s ≤ 7) (h1 : mx t 2 0 = mx s 2 0) (h2 : mx t 0 2 = mx s 0 2) (h3 : my t 2 0 = my s 2 0) (h4 : my t 0 2 = my s 0 2) : t = s := by
  rcases eight ht with rfl | rfl | rfl | rfl | rfl | rfl | rfl | rfl <;> rcases eight hs with rfl | rfl | rfl | rfl | rfl | rfl | rfl | rfl <;> first | rfl | (exfalso; revert h1 h2 h3 h4; decide)
theorem mx_zero (t : Int) : mx t 0 0 = 0 := by unfold mx; simp
theorem my_zero (t : Int) : my t 0 0 = 0 := by unfold my; simp
theorem mx_add {t : Int} (ht : 0 ≤ t ∧ t ≤ 7) (p q x y : Int) : mx t (p + 2 * x) (q + 2 * y) = mx t p q + 2 * mx t x y := by
  rcases eight ht with rfl | rfl | rfl | rfl | rfl | rfl | rfl | rfl <;> simp [mx] <;> omega
theorem my_add {t : Int} (ht : 0 ≤ t ∧ t ≤ 7) (p q x y : Int) : my t (p + 2 * x) (q + 2 * y) = my t p q + 2 * my t x y := by
  rcases eight ht with rfl | rfl | rfl | rfl | rfl | rfl | rfl | rfl <;> simp [my] <;> omega

abbrev ptA (x y : Int) : AV := .agg [.int .i64 x, .int .i64 y]
set_option maxHeartbeats 2000000 in
theorem s46 (n : Nat) (u X Y ox oy ax ay bx by' : Int) (hu : 0 ≤ u ∧ u ≤ 7) (hX : -100000 ≤ X ∧ X ≤ 100000) (hY : -100000 ≤ Y ∧ Y ≤ 100000) (e1 : ox = 2 * X) (e2 : oy = 2 * Y) (e3 : ax = mx u 2 0 + 2 * X) (e4 : ay = my u 2 0 + 2 * Y)
    (e5 : bx = mx u 0 2 + 2 * X) (e6 : by' = my u 0 2 + 2 * Y) : SV mL (n+2) 46 [ptA ox oy, ptA ax ay, ptA bx by'] (mvA u X Y) := by
  have q1 : ox.tdiv 2 = X := by rw [e1]; exact Int.mul_tdiv_cancel_left _ (by decide)
  have q2 : oy.tdiv 2 = Y := by rw [e2]; exact Int.mul_tdiv_cancel_left _ (by decide)
  refine SpecQ_run (c := k46) rfl rfl rfl ?_
  intro ro O _
  unfold k46
  refine C_reg ?_
  refine D_box_agg rfl ?_; intro b3
  refine D_box_agg rfl ?_; intro b4
  refine D_box_agg rfl ?_; intro b5
  refine D_alloc ?_; intro b6
  repeat' (first
    | (refine A_p ?_; first | refine D_mov rfl ?_ | refine D_fad rfl ?_ | (refine A_bin ?_; first | refine D_add rfl rfl (by simp only [inR]; omega) ?_ | refine D_lss rfl rfl ?_) | refine D_pick_t rfl rfl ?_ | refine D_pick_f rfl rfl ?_ | (refine D_build ?_; show WO _ _ _ _ _ _ _) | (refine D_eqf rfl rfl rfl ?_; show WO _ _ _ _ _ _ _) | (refine D_neqf rfl rfl rfl ?_; show WO _ _ _ _ _ _ _))
    | (refine A_h ?_; first | (refine A_load ?_; first | (refine D_load rfl (by repeat (first | exact Has.here | refine Has.there ?_)) ?_; show WO _ _ _ _ _ _ _)) | (refine D_box_agg rfl ?_; intro _b) | (refine D_box rfl ?_ rfl; intro _b) | (refine D_store rfl rfl (by repeat (first | exact At.here | apply At.there)) rfl rfl ?_; show WO _ _ _ _ _ _ _) | (refine D_alloc ?_; intro _b))
    | (refine A_g ?_; first | refine G_do rfl ?_ | refine G_no rfl ?_ | refine G_skip rfl ?_ | (refine WO_guard_dec rfl ?_ ?_ <;> intro h <;> try (exfalso; omega)))
    | refine WO_nil ?_
    | (refine A_seq ?_; first | refine C_reg ?_ | refine C_assoc ?_ | refine C_if_t rfl ?_ | refine C_if_f rfl ?_ | (refine C_if_dec rfl ?_ ?_ <;> intro h <;> try (exfalso; omega)) | refine C_ret ?_ | refine C_skip ?_ | refine C_exit ?_ | refine C_block ?_)
    | refine W_ret ?_
    | refine W_region ?_
    | refine W_exit ?_
    | refine W_skip ?_
    | refine W_if_t rfl ?_
    | refine W_if_f rfl ?_
    | (refine W_if_dec rfl ?_ ?_ <;> intro h <;> try (exfalso; omega))
    | refine R_c rfl (by repeat (first | exact Has.here | refine Has.there ?_)) rfl (by repeat (first | exact List.Sublist.refl _ | refine List.Sublist.cons _ ?_)) ?_)
  refine W_loop (σ := Int) (fun i => [(7, .int .u8 i), (3, .ptr b3 0), (4, .ptr b4 0), (5, .ptr b5 0), (6, .ptr b6 0)]) (fun _ => ⟨b6, true, .cells [.int .u8 0, .int .i64 0, .int .i64 0]⟩ :: ⟨b5, true, .cells [.int .i64 bx, .int .i64 by']⟩ :: ⟨b4, true, .cells [.int .i64 ax, .int .i64 ay]⟩ :: ⟨b3, true, .cells [.int .i64 ox, .int .i64 oy]⟩ :: O)
    (fun i => 0 ≤ i ∧ i ≤ u) (fun i => (8 - i).toNat) 0 ⟨rfl, rfl, rfl, rfl, rfl, trivial⟩ (List.Sublist.refl _) ⟨by omega, by omega⟩ (by simp [fuel]) ?_
  rintro i ⟨h0, h1⟩
  repeat' (first
    | (refine A_p ?_; first | refine D_mov rfl ?_ | refine D_fad rfl ?_ | (refine A_bin ?_; first | refine D_tdivE q1 rfl rfl (by decide) (by simp only [inR]; omega) ?_ | refine D_tdivE q2 rfl rfl (by decide) (by simp only [inR]; omega) ?_ | refine D_add rfl rfl (by simp only [inR]; omega) ?_ | refine D_lss rfl rfl ?_) | refine D_pick_t rfl rfl ?_ | refine D_pick_f rfl rfl ?_ | (refine D_build ?_; show WO _ _ _ _ _ _ _) | (refine D_eqf rfl rfl rfl ?_; show WO _ _ _ _ _ _ _) | (refine D_neqf rfl rfl rfl ?_; show WO _ _ _ _ _ _ _))
    | (refine A_h ?_; first | (refine A_load ?_; first | (refine D_load rfl (by repeat (first | exact Has.here | refine Has.there ?_)) ?_; show WO _ _ _ _ _ _ _)) | (refine A_call ?_; first | refine D_callV rfl (s20 _ _ _ _ _ _ ⟨h0, by omega⟩ (by omega) (by omega) (by omega) (by omega)) ?_) | (refine D_box_agg rfl ?_; intro _b) | (refine D_box rfl ?_ rfl; intro _b) | (refine D_store rfl rfl (by repeat (first | exact At.here | apply At.there)) rfl rfl ?_; show WO _ _ _ _ _ _ _) | (refine D_alloc ?_; intro _b))
    | (refine A_g ?_; first | refine G_do rfl ?_ | refine G_no rfl ?_ | refine G_skip rfl ?_ | (refine WO_guard_dec rfl ?_ ?_ <;> intro h <;> try (exfalso; omega)) | (refine WO_guard rfl ?_ ?_ <;> intro h))
    | refine WO_nil ?_
    | (refine A_seq ?_; first | refine C_reg ?_ | refine C_assoc ?_ | refine C_if_t rfl ?_ | refine C_if_f rfl ?_ | (refine C_if_dec rfl ?_ ?_ <;> intro h <;> try (exfalso; omega)) | (refine C_if rfl ?_ ?_ <;> intro h) | refine C_ret ?_ | refine C_skip ?_ | refine C_exit ?_ | refine C_block ?_)
    | refine W_ret ?_
    | refine W_region ?_
    | refine W_exit ?_
    | refine W_skip ?_
    | refine W_if_t rfl ?_
    | refine W_if_f rfl ?_
    | (refine W_if_dec rfl ?_ ?_ <;> intro h <;> try (exfalso; omega))
    | (refine W_if rfl ?_ ?_ <;> intro h)
    | refine R_c rfl (by repeat (first | exact Has.here | refine Has.there ?_)) rfl (by repeat (first | exact List.Sublist.refl _ | refine List.Sublist.cons _ ?_)) ?_)
  · simp only [Bool.and_eq_true, decide_eq_true_eq] at *
    have hh : i = u := mat2_inj ⟨h0, by omega⟩ hu (by omega) (by omega) (by omega) (by omega)
    rw [hh]
    rfl
  all_goals
    have hne : i ≠ u := by
      rintro rfl
      simp [mx_zero, my_zero, e1, e2, e3, e4, e5, e6] at *
    exact ⟨i + 1, ⟨rfl, rfl, rfl, rfl, rfl, trivial⟩, by repeat (first | exact List.Sublist.refl _ | refine List.Sublist.cons _ ?_), ⟨by omega, by omega⟩, by show (8 - (i + 1)).toNat < (8 - i).toNat; omega⟩

set_option maxHeartbeats 2000000 in
theorem s24 (n : Nat) (t x y s a b : Int) (h0 : 0 ≤ t) (h1 : vm t x y) (k0 : 0 ≤ s) (k1 : vm s a b) : SV mL (n+3) 24 [mvA t x y, mvA s a b] (mvA (cmp t s) (mx s x y + a) (my s x y + b)) := by
  have ht := vm_t h0 h1
  have hs := vm_t k0 k1
  obtain ⟨v1, v2, v3, v4, v5, v6⟩ := id h1
  obtain ⟨w1, w2, w3, w4, w5, w6⟩ := id k1
  have c1 := mx_bd hs (M := 16384) ⟨v2, v3⟩ ⟨v4, v5⟩
  have c2 := my_bd hs (M := 16384) ⟨v2, v3⟩ ⟨v4, v5⟩
  have d1 := mx_bd ht (x := 0) (y := 0) (M := 2) (by omega) (by omega)
  have d2 := my_bd ht (x := 0) (y := 0) (M := 2) (by omega) (by omega)
  have d3 := mx_bd ht (x := 2) (y := 0) (M := 2) (by omega) (by omega)
  have d4 := my_bd ht (x := 2) (y := 0) (M := 2) (by omega) (by omega)
  have d5 := mx_bd ht (x := 0) (y := 2) (M := 2) (by omega) (by omega)
  have d6 := my_bd ht (x := 0) (y := 2) (M := 2) (by omega) (by omega)
  have e : ∀ p q, mx s (mx t p q + 2 * x) (my t p q + 2 * y) + 2 * a = mx (cmp t s) p q + 2 * (mx s x y + a) := fun p q => by rw [mx_add hs, cmp_mx ht hs]; omega
  have f : ∀ p q, my s (mx t p q + 2 * x) (my t p q + 2 * y) + 2 * b = my (cmp t s) p q + 2 * (my s x y + b) := fun p q => by rw [my_add hs, cmp_my ht hs]; omega
  have e0 : mx s (mx t 0 0 + 2 * x) (my t 0 0 + 2 * y) + 2 * a = 2 * (mx s x y + a) := by rw [e, mx_zero]; omega
  have f0 : my s (mx t 0 0 + 2 * x) (my t 0 0 + 2 * y) + 2 * b = 2 * (my s x y + b) := by rw [f, my_zero]; omega
  refine SpecQ_run (c := k24) rfl rfl rfl ?_
  intro ro O _
  unfold k24
  repeat' (first
    | (refine A_p ?_; first | (refine D_build ?_; show WO _ _ _ _ _ _ _))
    | (refine A_h ?_; first | (refine A_load ?_; first | (refine D_load rfl (by repeat (first | exact Has.here | refine Has.there ?_)) ?_; show WO _ _ _ _ _ _ _)) | (refine A_call ?_; first | refine D_callV rfl (s20 _ t _ _ _ _ (by omega) (by omega) (by omega) (by omega) (by omega)) ?_ | refine D_callV rfl (s20 _ s _ _ _ _ (by omega) (by omega) (by omega) (by omega) (by omega)) ?_ | refine D_callV rfl (s46 _ (cmp t s) (mx s x y + a) (my s x y + b) _ _ _ _ _ _ (cmp_in ht hs) (by omega) (by omega) e0 f0 (e _ _) (f _ _) (e _ _) (f _ _)) ?_) | (refine D_box_agg rfl ?_; intro _b) | (refine D_box rfl ?_ rfl; intro _b) | (refine D_store rfl rfl (by repeat (first | exact At.here | apply At.there)) rfl rfl ?_; show WO _ _ _ _ _ _ _) | (refine D_alloc ?_; intro _b))
    | refine WO_nil ?_
    | (refine A_seq ?_; first | refine C_reg ?_ | refine C_assoc ?_ | refine C_ret ?_)
    | refine W_ret ?_
    | refine W_region ?_
    | refine R_c rfl (by repeat (first | exact Has.here | refine Has.there ?_)) rfl (by repeat (first | exact List.Sublist.refl _ | refine List.Sublist.cons _ ?_)) ?_)
  all_goals rfl
end Vm
end Go.Proofs.YtgncjbodicabnaaDoor

