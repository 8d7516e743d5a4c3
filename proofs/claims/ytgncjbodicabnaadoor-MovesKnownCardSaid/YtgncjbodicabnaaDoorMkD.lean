/-
  Parts of a proof.
-/
import Derived.Test.YtgncjbodicabnaaDoorMkC
set_option linter.unusedSimpArgs false
set_option linter.unusedVariables false

namespace Go.Proofs.YtgncjbodicabnaaDoor
namespace Vm
variable {mL : Int}
open Go Go.Vm Go.Vm.W
set_option maxRecDepth 100000
attribute [local irreducible] W WO SpecQ runM

theorem inv_mat {t : Int} (ht : 0 ≤ t ∧ t ≤ 7) : mx t 1 0 = mx (inv t) 1 0 ∧ my t 1 0 = mx (inv t) 0 1 ∧ mx t 0 1 = my (inv t) 1 0 ∧ my t 0 1 = my (inv t) 0 1 := by
  rcases eight ht with rfl | rfl | rfl | rfl | rfl | rfl | rfl | rfl <;> decide
theorem mx_neg {t : Int} (ht : 0 ≤ t ∧ t ≤ 7) (x y : Int) : mx t (-x) (-y) = -(mx t x y) := by
  rcases eight ht with rfl | rfl | rfl | rfl | rfl | rfl | rfl | rfl <;> simp [mx]
theorem my_neg {t : Int} (ht : 0 ≤ t ∧ t ≤ 7) (x y : Int) : my t (-x) (-y) = -(my t x y) := by
  rcases eight ht with rfl | rfl | rfl | rfl | rfl | rfl | rfl | rfl <;> simp [my]
theorem s37g (n : Nat) (t x y a b c d : Int) (ht : 0 ≤ t ∧ t ≤ 7) (hx : -1000000000 ≤ x ∧ x ≤ 1000000000) (hy : -1000000000 ≤ y ∧ y ≤ 1000000000) (ea : a = mx t 1 0) (eb : b = mx t 0 1) (ec : c = my t 1 0) (ed : d = my t 0 1) :
    SV mL (n+1) 37 [.agg [.int .i64 a, .int .i64 b, .int .i64 c, .int .i64 d], .int .i64 x, .int .i64 y] (.tup [.int .i64 (mx t x y), .int .i64 (my t x y)]) := by
  subst ea; subst eb; subst ec; subst ed
  exact s37 n t x y ht hx hy
theorem s39g (n : Nat) (t a b c d : Int) (ht : 0 ≤ t ∧ t ≤ 7) (ea : a = mx t 1 0) (eb : b = mx t 0 1) (ec : c = my t 1 0) (ed : d = my t 0 1) :
    SV mL (n+1) 39 [.agg [.int .i64 a, .int .i64 b, .int .i64 c, .int .i64 d]] (.int .u8 t) := by
  subst ea; subst eb; subst ec; subst ed
  exact s39 n t ht

/-- The inverse of a valid move is valid. -/
theorem vm_inv {t x y : Int} (h0 : 0 ≤ t) (h1 : vm t x y) : vm (inv t) (mx (inv t) (-x) (-y)) (my (inv t) (-x) (-y)) := by
  have ht := vm_t h0 h1
  have hi := inv_in ht
  obtain ⟨v1, v2, v3, v4, v5, v6⟩ := h1
  have c1 := mx_bd hi (x := -x) (y := -y) (M := 16384) (by omega) (by omega)
  have c2 := my_bd hi (x := -x) (y := -y) (M := 16384) (by omega) (by omega)
  have c3 := mxy_even hi (-x) (-y)
  exact ⟨hi.2, c1.1, c1.2, c2.1, c2.2, by omega⟩

set_option maxHeartbeats 2000000 in
theorem s12 (n : Nat) (t x y : Int) (h0 : 0 ≤ t) (h1 : vm t x y) : SV mL (n+4) 12 [mvA t x y] (.tup [mvA (inv t) (mx (inv t) (-x) (-y)) (my (inv t) (-x) (-y)), .int .i64 0]) := by
  have ht := vm_t h0 h1
  have hi := inv_in ht
  obtain ⟨e1, e2, e3, e4⟩ := inv_mat ht
  have hv := vm_inv h0 h1
  obtain ⟨v1, v2, v3, v4, v5, v6⟩ := id h1
  refine SpecQ_run (c := k12) rfl rfl rfl ?_
  intro ro O _
  unfold k12
  repeat' (first
    | (refine A_p ?_; first | refine D_mov rfl ?_ | refine D_fad rfl ?_ | (refine A_bin ?_; first | refine D_neq rfl rfl ?_) | refine D_ext rfl rfl ?_ | refine D_neg rfl (by simp only [inR]; omega) ?_ | (refine D_build ?_; show WO _ _ _ _ _ _ _) | refine D_iadA rfl rfl (by omega) (by omega) ?_)
    | (refine A_h ?_; first | (refine A_load ?_; first | (refine D_load rfl (by repeat (first | exact Has.here | refine Has.there ?_)) ?_; show WO _ _ _ _ _ _ _) | refine D_loadGV rfl glob_turns (turns_at ht (by omega)) ?_) | (refine A_call ?_; first | refine D_callV rfl (s34 _ _ _ _ ⟨h0, by omega⟩ h1) ?_ | refine D_callV rfl (s37g _ (inv t) _ _ _ _ _ _ hi (by omega) (by omega) e1 e2 e3 e4) ?_ | refine D_callV rfl (s39g _ (inv t) _ _ _ _ hi e1 e2 e3 e4) ?_ | refine D_callV rfl (s38 _ _ _ _ (by omega) hv) ?_) | (refine D_box_agg rfl ?_; intro _b) | (refine D_box rfl ?_ rfl; intro _b) | (refine D_store rfl rfl (by repeat (first | exact At.here | apply At.there)) rfl rfl ?_; show WO _ _ _ _ _ _ _) | (refine D_alloc ?_; intro _b))
    | refine WO_nil ?_
    | (refine A_seq ?_; first | refine C_reg ?_ | refine C_assoc ?_ | refine C_if_t rfl ?_ | refine C_if_f rfl ?_ | (refine C_if_dec rfl ?_ ?_ <;> intro h <;> try (exfalso; omega)) | refine C_ret ?_ | refine C_skip ?_)
    | refine W_ret ?_
    | refine W_region ?_
    | refine W_skip ?_
    | refine W_if_t rfl ?_
    | refine W_if_f rfl ?_
    | (refine W_if_dec rfl ?_ ?_ <;> intro h <;> try (exfalso; omega))
    | refine R_ct rfl (by repeat (first | exact Has.here | refine Has.there ?_)) rfl rfl (by repeat (first | exact List.Sublist.refl _ | refine List.Sublist.cons _ ?_)) ?_)
  all_goals rfl
set_option maxHeartbeats 2000000 in
theorem s12_no (n : Nat) (t x y : Int) (h0 : 0 ≤ t ∧ t ≤ 255) (h1 : ¬ vm t x y) : SV mL (n+4) 12 [mvA t x y] (.tup [mvA 0 0 0, .int .i64 1]) := by
  refine SpecQ_run (c := k12) rfl rfl rfl ?_
  intro ro O _
  unfold k12
  repeat' (first
    | (refine A_p ?_; first | refine D_mov rfl ?_ | refine D_fad rfl ?_ | (refine A_bin ?_; first | refine D_neq rfl rfl ?_) | refine D_ext rfl rfl ?_ | refine D_neg rfl (by simp only [inR]; omega) ?_ | (refine D_build ?_; show WO _ _ _ _ _ _ _) | refine D_iadA rfl rfl (by omega) (by omega) ?_)
    | (refine A_h ?_; first | (refine A_load ?_; first | (refine D_load rfl (by repeat (first | exact Has.here | refine Has.there ?_)) ?_; show WO _ _ _ _ _ _ _)) | (refine A_call ?_; first | refine D_callV rfl (s34_no _ _ _ _ h0 h1) ?_) | (refine D_box_agg rfl ?_; intro _b) | (refine D_box rfl ?_ rfl; intro _b) | (refine D_store rfl rfl (by repeat (first | exact At.here | apply At.there)) rfl rfl ?_; show WO _ _ _ _ _ _ _) | (refine D_alloc ?_; intro _b))
    | refine WO_nil ?_
    | (refine A_seq ?_; first | refine C_reg ?_ | refine C_assoc ?_ | refine C_if_t rfl ?_ | refine C_if_f rfl ?_ | (refine C_if_dec rfl ?_ ?_ <;> intro h <;> try (exfalso; omega)) | refine C_ret ?_ | refine C_skip ?_)
    | refine W_ret ?_
    | refine W_region ?_
    | refine W_skip ?_
    | refine W_if_t rfl ?_
    | refine W_if_f rfl ?_
    | (refine W_if_dec rfl ?_ ?_ <;> intro h <;> try (exfalso; omega))
    | refine R_ct rfl (by repeat (first | exact Has.here | refine Has.there ?_)) rfl rfl (by repeat (first | exact List.Sublist.refl _ | refine List.Sublist.cons _ ?_)) ?_)
  all_goals first | rfl | (exfalso; omega)

set_option maxHeartbeats 2000000 in
theorem s16 (n : Nat) (t x y : Int) (h0 : 0 ≤ t) (h1 : vm t x y) : SV mL (n+4) 16 [mvA t x y] (mvA (inv t) (-(mx (inv t) x y)) (-(my (inv t) x y))) := by
  have ht := vm_t h0 h1
  have hi := inv_in ht
  obtain ⟨v1, v2, v3, v4, v5, v6⟩ := id h1
  refine SpecQ_run (c := k16) rfl rfl rfl ?_
  intro ro O _
  unfold k16
  refine C_reg ?_
  refine D_box_agg rfl ?_; intro b1
  refine D_alloc ?_; intro b2
  repeat' (first
    | (refine A_p ?_; first | refine D_mov rfl ?_ | refine D_fad rfl ?_ | (refine A_bin ?_; first | refine D_add rfl rfl (by simp only [inR]; omega) ?_ | refine D_lss rfl rfl ?_) | refine D_neg rfl (by simp only [inR]; omega) ?_ | (refine D_build ?_; show WO _ _ _ _ _ _ _) | (refine D_eqf rfl rfl rfl ?_; show WO _ _ _ _ _ _ _) | (refine D_neqf rfl rfl rfl ?_; show WO _ _ _ _ _ _ _))
    | (refine A_h ?_; first | (refine A_load ?_; first | (refine D_load rfl (by repeat (first | exact Has.here | refine Has.there ?_)) ?_; show WO _ _ _ _ _ _ _)) | (refine D_box_agg rfl ?_; intro _b) | (refine D_box rfl ?_ rfl; intro _b) | (refine D_store rfl rfl (by repeat (first | exact At.here | apply At.there)) rfl rfl ?_; show WO _ _ _ _ _ _ _) | (refine D_alloc ?_; intro _b))
    | refine WO_nil ?_
    | (refine A_seq ?_; first | refine C_reg ?_ | refine C_assoc ?_ | refine C_if_t rfl ?_ | refine C_if_f rfl ?_ | (refine C_if_dec rfl ?_ ?_ <;> intro h <;> try (exfalso; omega)) | refine C_ret ?_ | refine C_skip ?_ | refine C_exit ?_ | refine C_block ?_)
    | refine W_ret ?_
    | refine W_region ?_
    | refine W_exit ?_
    | refine W_skip ?_
    | refine W_if_t rfl ?_
    | refine W_if_f rfl ?_
    | (refine W_if_dec rfl ?_ ?_ <;> intro h <;> try (exfalso; omega))
    | refine R_c rfl (by repeat (first | exact Has.here | refine Has.there ?_)) rfl (by repeat (first | exact List.Sublist.refl _ | refine List.Sublist.cons _ ?_)) ?_)
  refine W_loop (σ := Int) (fun i => [(3, .int .u8 i), (1, .ptr b1 0), (2, .ptr b2 0)]) (fun _ => ⟨b2, true, .cells [.int .u8 0, .int .i64 0, .int .i64 0]⟩ :: ⟨b1, true, .cells [.int .u8 t, .int .i64 x, .int .i64 y]⟩ :: O)
    (fun i => 0 ≤ i ∧ i ≤ inv t) (fun i => (8 - i).toNat) 0 ⟨rfl, rfl, rfl, trivial⟩ (List.Sublist.refl _) ⟨by omega, by omega⟩ (by simp [fuel]) ?_
  rintro i ⟨i0, i1⟩
  have hi7 : 0 ≤ i ∧ i ≤ 7 := ⟨i0, by omega⟩
  have c1 := mx_bd hi7 (x := x) (y := y) (M := 16384) (by omega) (by omega)
  have c2 := my_bd hi7 (x := x) (y := y) (M := 16384) (by omega) (by omega)
  have c3 := mxy_even hi7 x y
  have hn : vm i (-(mx i x y)) (-(my i x y)) := ⟨hi7.2, by omega, by omega, by omega, by omega, by omega⟩
  have g1 : -(mx i x y + 2 * 0) = -(mx i x y) := by omega
  have g2 : -(my i x y + 2 * 0) = -(my i x y) := by omega
  repeat' (first
    | (refine A_p ?_; first | refine D_mov rfl ?_ | refine D_fad rfl ?_ | (refine A_bin ?_; first | refine D_add rfl rfl (by simp only [inR]; omega) ?_ | refine D_lss rfl rfl ?_) | refine D_negE g1 rfl (by simp only [inR]; omega) ?_ | refine D_negE g2 rfl (by simp only [inR]; omega) ?_ | refine D_neg rfl (by simp only [inR]; omega) ?_ | (refine D_build ?_; show WO _ _ _ _ _ _ _) | (refine D_eqf rfl rfl rfl ?_; show WO _ _ _ _ _ _ _) | (refine D_neqf rfl rfl rfl ?_; show WO _ _ _ _ _ _ _))
    | (refine A_h ?_; first | (refine A_load ?_; first | (refine D_load rfl (by repeat (first | exact Has.here | refine Has.there ?_)) ?_; show WO _ _ _ _ _ _ _)) | (refine A_call ?_; first | refine D_callV rfl (s20 _ _ _ _ _ _ ⟨i0, by omega⟩ (by omega) (by omega) (by omega) (by omega)) ?_ | refine D_callV rfl (s24 _ _ _ _ _ _ _ h0 h1 i0 hn) ?_) | (refine D_box_agg rfl ?_; intro _b) | (refine D_box rfl ?_ rfl; intro _b) | (refine D_store rfl rfl (by repeat (first | exact At.here | apply At.there)) rfl rfl ?_; show WO _ _ _ _ _ _ _) | (refine D_alloc ?_; intro _b))
    | refine WO_nil ?_
    | (refine A_seq ?_; first | refine C_reg ?_ | refine C_assoc ?_ | refine C_if_t rfl ?_ | refine C_if_f rfl ?_ | (refine C_if_dec rfl ?_ ?_ <;> intro h <;> try (exfalso; omega)) | (refine C_if rfl ?_ ?_ <;> intro h) | refine C_ret ?_ | refine C_skip ?_ | refine C_exit ?_ | refine C_block ?_)
    | refine W_ret ?_
    | refine W_region ?_
    | refine W_exit ?_
    | refine W_skip ?_
    | refine W_if_t rfl ?_
    | refine W_if_f rfl ?_
    | (refine W_if_dec rfl ?_ ?_ <;> intro h <;> try (exfalso; omega))
    | (refine W_if rfl ?_ ?_ <;> intro h)
    | refine R_c rfl (by repeat (first | exact Has.here | refine Has.there ?_)) rfl (by repeat (first | exact List.Sublist.refl _ | refine List.Sublist.cons _ ?_)) ?_)
  · simp only [Bool.and_eq_true, decide_eq_true_eq] at h
    rw [cmp_zero ht hi7 h.1]
    rfl
  · have hne : i ≠ inv t := by
      rintro rfl
      rw [(cmp_inv ht).1] at h
      simp at h
      omega
    exact ⟨i + 1, ⟨rfl, rfl, rfl, trivial⟩, by repeat (first | exact List.Sublist.refl _ | refine List.Sublist.cons _ ?_), ⟨by omega, by omega⟩, by show (8 - (i + 1)).toNat < (8 - i).toNat; omega⟩
end Vm
end Go.Proofs.YtgncjbodicabnaaDoor

namespace Go.Proofs.YtgncjbodicabnaaDoor
namespace Vm
variable {mL : Int}
open Go Go.Vm Go.Vm.W
set_option maxRecDepth 100000
attribute [local irreducible] W WO SpecQ runM

abbrev nvA (t x y : Int) : AV := mvA (inv t) (mx (inv t) (-x) (-y)) (my (inv t) (-x) (-y))
theorem s16' (n : Nat) (t x y : Int) (h0 : 0 ≤ t) (h1 : vm t x y) : SV mL (n+4) 16 [mvA t x y] (nvA t x y) := by
  have hi := inv_in (vm_t h0 h1)
  unfold nvA
  rw [mx_neg hi, my_neg hi]
  exact s16 n t x y h0 h1
theorem vm_zero : vm 0 0 0 := ⟨by omega, by omega, by omega, by omega, by omega, by omega⟩
theorem s15i (n : Nat) (t x y : Int) (h0 : 0 ≤ t) (h1 : vm t x y) : SV mL (n+4) 15 [mvA t x y, nvA t x y] (.tup [mvA 0 0 0, .int .i64 0]) := by
  have ht := vm_t h0 h1
  have hi := inv_in ht
  have e1 := (cmp_inv ht).1
  have e2 : mx (inv t) x y + mx (inv t) (-x) (-y) = 0 := by rw [mx_neg hi]; omega
  have e3 : my (inv t) x y + my (inv t) (-x) (-y) = 0 := by rw [my_neg hi]; omega
  have := s15a (mL := mL) n t x y (inv t) (mx (inv t) (-x) (-y)) (my (inv t) (-x) (-y)) h0 h1 hi.1 (vm_inv h0 h1) (by rw [e1, e2, e3]; exact vm_zero)
  rw [e1, e2, e3] at this
  exact this
theorem s15j (n : Nat) (t x y : Int) (h0 : 0 ≤ t) (h1 : vm t x y) : SV mL (n+4) 15 [nvA t x y, mvA t x y] (.tup [mvA 0 0 0, .int .i64 0]) := by
  have ht := vm_t h0 h1
  have hi := inv_in ht
  have e1 := (cmp_inv ht).2
  have e2 : mx t (mx (inv t) (-x) (-y)) (my (inv t) (-x) (-y)) + x = 0 := by rw [(mx_inv ht _ _).1]; omega
  have e3 : my t (mx (inv t) (-x) (-y)) (my (inv t) (-x) (-y)) + y = 0 := by rw [(mx_inv ht _ _).2]; omega
  have := s15a (mL := mL) n (inv t) (mx (inv t) (-x) (-y)) (my (inv t) (-x) (-y)) t x y hi.1 (vm_inv h0 h1) h0 h1 (by rw [e1, e2, e3]; exact vm_zero)
  rw [e1, e2, e3] at this
  exact this

set_option maxHeartbeats 2000000 in
theorem s3_A (n : Nat) (t x y : Int) (h0 : 0 ≤ t ∧ t ≤ 255) (h1 : ¬ vm t x y) : SV mL (n+6) 3 [mvA t x y] (.bool true) := by
  refine SpecQ_run (c := k3) rfl rfl rfl ?_
  intro ro O _
  unfold k3
  repeat' (first
    | (refine A_p ?_; first | refine D_mov rfl ?_ | (refine A_bin ?_; first | refine D_eql rfl rfl ?_) | refine D_ext rfl rfl ?_ | refine D_pick_t rfl rfl ?_ | refine D_pick_f rfl rfl ?_ | (refine D_build ?_; show WO _ _ _ _ _ _ _) | (refine D_eqf rfl rfl rfl ?_; show WO _ _ _ _ _ _ _) | (refine D_neqf rfl rfl rfl ?_; show WO _ _ _ _ _ _ _))
    | (refine A_h ?_; first | (refine A_load ?_; first | (refine D_load rfl (by repeat (first | exact Has.here | refine Has.there ?_)) ?_; show WO _ _ _ _ _ _ _)) | (refine A_call ?_; first | refine D_callV rfl (s14 _) ?_ | refine D_callV rfl (s12_no _ _ _ _ h0 h1) ?_ | refine D_callV rfl (s13_no _ _ _ _ h0 h1) ?_) | (refine D_box_agg rfl ?_; intro _b) | (refine D_box rfl ?_ rfl; intro _b) | (refine D_store rfl rfl (by repeat (first | exact At.here | apply At.there)) rfl rfl ?_; show WO _ _ _ _ _ _ _) | (refine D_alloc ?_; intro _b))
    | (refine A_g ?_; first | refine G_do rfl ?_ | refine G_no rfl ?_ | refine G_skip rfl ?_ | (refine WO_guard_dec rfl ?_ ?_ <;> intro h <;> try (exfalso; omega)) | (refine WO_guard rfl ?_ ?_ <;> intro h <;> try (simp at h; done)))
    | refine WO_nil ?_
    | (refine A_seq ?_; first | refine C_reg ?_ | refine C_assoc ?_ | refine C_if_t rfl ?_ | refine C_if_f rfl ?_ | (refine C_if_dec rfl ?_ ?_ <;> intro h <;> try (exfalso; omega)) | (refine C_if rfl ?_ ?_ <;> intro h <;> try (simp at h; done)) | refine C_ret ?_ | refine C_skip ?_)
    | refine W_ret ?_
    | refine W_region ?_
    | refine W_skip ?_
    | refine W_if_t rfl ?_
    | refine W_if_f rfl ?_
    | (refine W_if_dec rfl ?_ ?_ <;> intro h <;> try (exfalso; omega))
    | (refine W_if rfl ?_ ?_ <;> intro h <;> try (simp at h; done))
    | refine R_t rfl (by repeat (first | exact List.Sublist.refl _ | refine List.Sublist.cons _ ?_)) ?_)
  all_goals first | rfl | (exfalso; omega)
set_option maxHeartbeats 2000000 in
theorem s3_B (n : Nat) (t x y : Int) (h0 : 0 ≤ t ∧ t ≤ 255) (h1 : vm t x y) : SV mL (n+6) 3 [mvA t x y] (.bool true) := by
  refine SpecQ_run (c := k3) rfl rfl rfl ?_
  intro ro O _
  unfold k3
  repeat' (first
    | (refine A_p ?_; first | refine D_mov rfl ?_ | (refine A_bin ?_; first | refine D_eql rfl rfl ?_) | refine D_ext rfl rfl ?_ | refine D_pick_t rfl rfl ?_ | refine D_pick_f rfl rfl ?_ | (refine D_build ?_; show WO _ _ _ _ _ _ _) | (refine D_eqf rfl rfl rfl ?_; show WO _ _ _ _ _ _ _) | (refine D_neqf rfl rfl rfl ?_; show WO _ _ _ _ _ _ _))
    | (refine A_h ?_; first | (refine A_load ?_; first | (refine D_load rfl (by repeat (first | exact Has.here | refine Has.there ?_)) ?_; show WO _ _ _ _ _ _ _)) | (refine A_call ?_; first | refine D_callV rfl (s14 _) ?_ | refine D_callV rfl (s17 _) ?_ | refine D_callV rfl (s12 _ _ _ _ h0.1 h1) ?_ | refine D_callV rfl (s13 _ _ _ _ h0 h1) ?_ | refine D_callV rfl (s15i _ _ _ _ h0.1 h1) ?_ | refine D_callV rfl (s15j _ _ _ _ h0.1 h1) ?_ | refine D_callV rfl (s16' _ _ _ _ h0.1 h1) ?_) | (refine D_box_agg rfl ?_; intro _b) | (refine D_box rfl ?_ rfl; intro _b) | (refine D_store rfl rfl (by repeat (first | exact At.here | apply At.there)) rfl rfl ?_; show WO _ _ _ _ _ _ _) | (refine D_alloc ?_; intro _b))
    | (refine A_g ?_; first | refine G_do rfl ?_ | refine G_no rfl ?_ | refine G_skip rfl ?_ | (refine WO_guard_dec rfl ?_ ?_ <;> intro h <;> try (exfalso; omega)) | (refine WO_guard rfl ?_ ?_ <;> intro h <;> try (simp at h; done)))
    | refine WO_nil ?_
    | (refine A_seq ?_; first | refine C_reg ?_ | refine C_assoc ?_ | refine C_if_t rfl ?_ | refine C_if_f rfl ?_ | (refine C_if_dec rfl ?_ ?_ <;> intro h <;> try (exfalso; omega)) | (refine C_if rfl ?_ ?_ <;> intro h <;> try (simp at h; done)) | refine C_ret ?_ | refine C_skip ?_)
    | refine W_ret ?_
    | refine W_region ?_
    | refine W_skip ?_
    | refine W_if_t rfl ?_
    | refine W_if_f rfl ?_
    | (refine W_if_dec rfl ?_ ?_ <;> intro h <;> try (exfalso; omega))
    | (refine W_if rfl ?_ ?_ <;> intro h <;> try (simp at h; done))
    | refine R_t rfl (by repeat (first | exact List.Sublist.refl _ | refine List.Sublist.cons _ ?_)) ?_)
  all_goals first | rfl | (exfalso; omega)
theorem s3 (n : Nat) (t x y : Int) (h0 : 0 ≤ t ∧ t ≤ 255) : SV mL (n+6) 3 [mvA t x y] (.bool true) := by
  by_cases h1 : vm t x y
  · exact s3_B n t x y h0 h1
  · exact s3_A n t x y h0 h1
end Vm
end Go.Proofs.YtgncjbodicabnaaDoor

