/-
  Parts of a proof.
-/
import Derived.Test.YtgncjbodicabnaaDoorMv7
set_option linter.unusedSimpArgs false
set_option linter.unusedVariables false

namespace Go.Proofs.YtgncjbodicabnaaDoor
namespace Vm
open Go Go.Vm Go.Vm.W
set_option maxRecDepth 100000
attribute [local irreducible] W WO SpecQ runM

def aX (k : Int) : Int := if k = 1 then 1 else if k = 2 then 0 else if k = 3 then 1 else -1
def aY (k : Int) : Int := if k = 1 then 0 else 1
theorem tup2_eq {a b c d a' b' c' d' : Int} (h1 : a = a') (h2 : b = b') (h3 : c = c') (h4 : d = d') : AV.tup [ptA a b, ptA c d] = AV.tup [ptA a' b', ptA c' d'] := by rw [h1, h2, h3, h4]
theorem s43 (n : Nat) (k : Int) (h : k = 1 ∨ k = 2 ∨ k = 3 ∨ k = 4) : SV (n+1) 43 [.int .u8 k] (.tup [.int .i64 (aX k), .int .i64 (aY k)]) := by
  rcases h with rfl | rfl | rfl | rfl
  all_goals
    refine SpecQ_run (c := k43) rfl rfl rfl ?_
    intro ro O _
    unfold k43
    repeat' (first
      | (refine A_p ?_; first | refine D_mov rfl ?_ | refine D_fad rfl ?_ | (refine A_bin ?_; first | refine D_add rfl rfl (by simp only [inR]; omega) ?_ | refine D_sub rfl rfl (by simp only [inR]; omega) ?_ | refine D_mul rfl rfl (by simp only [inR]; omega) ?_ | refine D_eql rfl rfl ?_ | refine D_lss rfl rfl ?_ | refine D_neq rfl rfl ?_ | refine D_gtr rfl rfl ?_ | refine D_leq rfl rfl ?_ | refine D_geq rfl rfl ?_ | refine D_eqlS rfl rfl ?_ | refine D_neqS rfl rfl ?_) | refine D_idxAV rfl rfl (by decide) (by decide) rfl ?_ | refine D_ext rfl rfl ?_ | refine D_pick_t rfl rfl ?_ | refine D_pick_f rfl rfl ?_ | refine D_cvi rfl (by simp only [inR]; omega) ?_ | refine D_neg rfl (by simp only [inR]; omega) ?_ | (refine D_build ?_; show WO _ _ _ _ _ _ _) | (refine D_eqf rfl rfl rfl ?_; show WO _ _ _ _ _ _ _) | (refine D_neqf rfl rfl rfl ?_; show WO _ _ _ _ _ _ _) | refine D_not_dec rfl ?_ | refine D_not rfl ?_ | refine D_len rfl ?_ | refine D_len_nil rfl ?_ | refine D_lenS rfl ?_ | refine D_lenc ?_ | refine D_cap rfl ?_ | refine D_iadA rfl rfl (by omega) (by omega) ?_ | (refine D_fld rfl ?_; show WO _ _ _ _ _ _ _) | refine D_min rfl rfl ?_ | refine D_max rfl rfl ?_ | refine D_eqn rfl rfl rfl ?_ | refine D_mkif rfl ?_ | refine D_mkfn rfl rfl ?_ | refine D_cvs rfl ?_ | refine D_nilck rfl ?_)
      | (refine A_h ?_; first | (refine A_load ?_; first | (refine D_load rfl (by repeat (first | exact Has.here | refine Has.there ?_)) ?_; show WO _ _ _ _ _ _ _)) | (refine D_box_agg rfl ?_; intro _b) | (refine D_box rfl ?_ rfl; intro _b) | (refine D_store rfl rfl (by repeat (first | exact At.here | apply At.there)) rfl rfl ?_; show WO _ _ _ _ _ _ _) | (refine D_alloc ?_; intro _b))
      | (refine A_g ?_; first | refine G_do rfl ?_ | refine G_no rfl ?_ | refine G_skip rfl ?_ | (refine WO_guard_dec rfl ?_ ?_ <;> intro h <;> try (exfalso; omega)))
      | refine WO_nil ?_
      | (refine A_seq ?_; first | refine C_reg ?_ | refine C_assoc ?_ | refine C_if_t rfl ?_ | refine C_if_f rfl ?_ | (refine C_if_dec rfl ?_ ?_ <;> intro h <;> try (exfalso; omega)) | refine C_ret ?_ | refine C_skip ?_ | refine C_exit ?_ | refine C_block ?_)
      | refine W_ret ?_
      | refine W_region ?_
      | refine W_exit ?_
      | refine W_skip ?_
      | refine W_if_t rfl ?_
      | refine W_if_f rfl ?_
      | (refine W_if_dec rfl ?_ ?_ <;> intro h <;> try (exfalso; omega))
      | refine R_t rfl (by repeat (first | exact List.Sublist.refl _ | refine List.Sublist.cons _ ?_)) ?_
      | refine R_ct rfl (by repeat (first | exact Has.here | refine Has.there ?_)) rfl rfl (by repeat (first | exact List.Sublist.refl _ | refine List.Sublist.cons _ ?_)) ?_
      | refine R_tt rfl rfl (by repeat (first | exact List.Sublist.refl _ | refine List.Sublist.cons _ ?_)) ?_
      | refine R_c rfl (by repeat (first | exact Has.here | refine Has.there ?_)) rfl (by repeat (first | exact List.Sublist.refl _ | refine List.Sublist.cons _ ?_)) ?_
      | refine R_cc rfl (by repeat (first | exact Has.here | refine Has.there ?_)) rfl rfl (by repeat (first | exact Has.here | refine Has.there ?_)) rfl (by repeat (first | exact List.Sublist.refl _ | refine List.Sublist.cons _ ?_)) ?_)
  all_goals first | rfl | (exfalso; omega)
set_option maxHeartbeats 2000000 in
theorem s44 (n : Nat) (k c : Int) (h : vl k c) : SV (n+2) 44 [lnA k c] (.tup [ptA (oX k c) (oY k c), ptA (oX k c - 2 * aY k) (oY k c + 2 * aX k)]) := by
  have h' := h
  obtain ⟨_, _, h3, h4⟩ := h'
  rcases four h with rfl | rfl | rfl | rfl
  all_goals
    refine SpecQ_run (c := k44) rfl rfl rfl ?_
    intro ro O _
    unfold k44
    repeat' (first
      | (refine A_p ?_; first | refine D_mov rfl ?_ | refine D_fad rfl ?_ | (refine A_bin ?_; first | refine D_add rfl rfl (by simp only [inR]; omega) ?_ | refine D_sub rfl rfl (by simp only [inR]; omega) ?_ | refine D_mul rfl rfl (by simp only [inR]; omega) ?_ | refine D_eql rfl rfl ?_ | refine D_lss rfl rfl ?_ | refine D_neq rfl rfl ?_ | refine D_gtr rfl rfl ?_ | refine D_leq rfl rfl ?_ | refine D_geq rfl rfl ?_ | refine D_eqlS rfl rfl ?_ | refine D_neqS rfl rfl ?_) | refine D_ext rfl rfl ?_ | refine D_pick_t rfl rfl ?_ | refine D_pick_f rfl rfl ?_ | refine D_cvi rfl (by simp only [inR]; omega) ?_ | refine D_neg rfl (by simp only [inR]; omega) ?_ | (refine D_build ?_; show WO _ _ _ _ _ _ _) | (refine D_eqf rfl rfl rfl ?_; show WO _ _ _ _ _ _ _) | (refine D_neqf rfl rfl rfl ?_; show WO _ _ _ _ _ _ _) | refine D_not_dec rfl ?_ | refine D_not rfl ?_ | refine D_len rfl ?_ | refine D_len_nil rfl ?_ | refine D_lenS rfl ?_ | refine D_lenc ?_ | refine D_cap rfl ?_ | refine D_iadA rfl rfl (by omega) (by omega) ?_ | (refine D_fld rfl ?_; show WO _ _ _ _ _ _ _) | refine D_min rfl rfl ?_ | refine D_max rfl rfl ?_ | refine D_eqn rfl rfl rfl ?_ | refine D_mkif rfl ?_ | refine D_mkfn rfl rfl ?_ | refine D_cvs rfl ?_ | refine D_nilck rfl ?_)
      | (refine A_h ?_; first | (refine A_load ?_; first | (refine D_load rfl (by repeat (first | exact Has.here | refine Has.there ?_)) ?_; show WO _ _ _ _ _ _ _)) | (refine A_call ?_; first | refine D_callV rfl (s45 _ 1 1 0 (by simp)) ?_ | refine D_callV rfl (s45 _ 2 0 1 (by simp)) ?_ | refine D_callV rfl (s45 _ 3 1 1 (by simp)) ?_ | refine D_callV rfl (s45 _ 4 (-1) 1 (by simp)) ?_) | (refine WO_storeX (d := none) rfl rfl (At.upd (by repeat (first | exact At.here | apply At.there)) _) rfl rfl (by exact Nat.le_of_ble_eq_true rfl) (fun H nx hk z hz => by simp only [List.mem_cons, List.not_mem_nil, or_false] at hz; rcases hz with rfl | rfl <;> exact ⟨_, _, rfl, (hk.ne (by repeat (first | exact Has.here | apply Has.there))).symm⟩) ?_; show WO _ _ _ _ _ _ _) | (refine D_box_agg rfl ?_; intro _b) | (refine D_box rfl ?_ rfl; intro _b) | (refine D_store rfl rfl (by repeat (first | exact At.here | apply At.there)) rfl rfl ?_; show WO _ _ _ _ _ _ _) | (refine D_alloc ?_; intro _b))
      | (refine A_g ?_; first | refine G_do rfl ?_ | refine G_no rfl ?_ | refine G_skip rfl ?_ | (refine WO_guard_dec rfl ?_ ?_ <;> intro h <;> try (exfalso; omega)))
      | refine WO_nil ?_
      | (refine A_seq ?_; first | refine C_reg ?_ | refine C_assoc ?_ | refine C_if_t rfl ?_ | refine C_if_f rfl ?_ | (refine C_if_dec rfl ?_ ?_ <;> intro h <;> try (exfalso; omega)) | refine C_ret ?_ | refine C_skip ?_ | refine C_exit ?_ | refine C_block ?_)
      | refine W_ret ?_
      | refine W_region ?_
      | refine W_exit ?_
      | refine W_skip ?_
      | refine W_if_t rfl ?_
      | refine W_if_f rfl ?_
      | (refine W_if_dec rfl ?_ ?_ <;> intro h <;> try (exfalso; omega))
      | refine R_t rfl (by repeat (first | exact List.Sublist.refl _ | refine List.Sublist.cons _ ?_)) ?_
      | refine R_ct rfl (by repeat (first | exact Has.here | refine Has.there ?_)) rfl rfl (by repeat (first | exact List.Sublist.refl _ | refine List.Sublist.cons _ ?_)) ?_
      | refine R_tt rfl rfl (by repeat (first | exact List.Sublist.refl _ | refine List.Sublist.cons _ ?_)) ?_
      | refine R_c rfl (by repeat (first | exact Has.here | refine Has.there ?_)) rfl (by repeat (first | exact List.Sublist.refl _ | refine List.Sublist.cons _ ?_)) ?_
      | refine R_cc rfl (by repeat (first | exact Has.here | refine Has.there ?_)) rfl rfl (by repeat (first | exact Has.here | refine Has.there ?_)) rfl (by repeat (first | exact List.Sublist.refl _ | refine List.Sublist.cons _ ?_)) ?_)
  all_goals exact tup2_eq (by first | (simp [oX, oY, aX, aY]; done) | (simp [oX, oY, aX, aY]; omega)) (by first | (simp [oX, oY, aX, aY]; done) | (simp [oX, oY, aX, aY]; omega)) (by first | (simp [oX, oY, aX, aY]; done) | (simp [oX, oY, aX, aY]; omega)) (by first | (simp [oX, oY, aX, aY]; done) | (simp [oX, oY, aX, aY]; omega))
end Vm
end Go.Proofs.YtgncjbodicabnaaDoor

namespace Go.Proofs.YtgncjbodicabnaaDoor
namespace Vm
set_option maxRecDepth 100000
/-! MATH -/
/-- The kind of a line's image, and which way its direction goes. -/
def lK (t k : Int) : Int := if my t (aX k) (aY k) = 0 then 1 else if mx t (aX k) (aY k) = 0 then 2 else if mx t (aX k) (aY k) = my t (aX k) (aY k) then 3 else 4
def lS (t k : Int) : Int := if my t (aX k) (aY k) = 0 then mx t (aX k) (aY k) else my t (aX k) (aY k)
def lC (t k c X Y : Int) : Int := lS t k * c + aX (lK t k) * X + aY (lK t k) * Y
abbrev one4 (k : Int) : Prop := k = 1 ∨ k = 2 ∨ k = 3 ∨ k = 4
theorem lK_in {t k : Int} (ht : 0 ≤ t ∧ t ≤ 7) (hk : one4 k) : 1 ≤ lK t k ∧ lK t k ≤ 4 := by
  rcases eight ht with rfl | rfl | rfl | rfl | rfl | rfl | rfl | rfl <;> rcases hk with rfl | rfl | rfl | rfl <;> decide
theorem lS_in {t k : Int} (ht : 0 ≤ t ∧ t ≤ 7) (hk : one4 k) : lS t k = 1 ∨ lS t k = -1 := by
  rcases eight ht with rfl | rfl | rfl | rfl | rfl | rfl | rfl | rfl <;> rcases hk with rfl | rfl | rfl | rfl <;> decide
theorem l_cond {t k i s : Int} (ht : 0 ≤ t ∧ t ≤ 7) (hk : one4 k) (hi : one4 i) (hs : s = 1 ∨ s = -1) : (mx t (aX k) (aY k) = s * aX i ∧ my t (aX k) (aY k) = s * aY i) ↔ (i = lK t k ∧ s = lS t k) := by
  rcases eight ht with rfl | rfl | rfl | rfl | rfl | rfl | rfl | rfl <;> rcases hk with rfl | rfl | rfl | rfl <;> rcases hi with rfl | rfl | rfl | rfl <;> rcases hs with rfl | rfl <;> decide
section
variable {t k c X Y : Int}
abbrev lu1 (t k c X : Int) : Int := mx t (oX k c) (oY k c) + 2 * X
abbrev lu2 (t k c Y : Int) : Int := my t (oX k c) (oY k c) + 2 * Y
abbrev lv1 (t k c X : Int) : Int := mx t (oX k c - 2 * aY k) (oY k c + 2 * aX k) + 2 * X
abbrev lv2 (t k c Y : Int) : Int := my t (oX k c - 2 * aY k) (oY k c + 2 * aX k) + 2 * Y
theorem l_e {i : Int} (ht : 0 ≤ t ∧ t ≤ 7) (hk : one4 k) (hi : one4 i) : (aX i * lu1 t k c X + aY i * lu2 t k c Y = aX i * lv1 t k c X + aY i * lv2 t k c Y) ↔ lK t k = i := by
  rcases eight ht with rfl | rfl | rfl | rfl | rfl | rfl | rfl | rfl <;> rcases hk with rfl | rfl | rfl | rfl <;> rcases hi with rfl | rfl | rfl | rfl <;> simp [lu1, lu2, lv1, lv2, lK, mx, my, aX, aY, oX, oY] <;> omega
theorem l_d (ht : 0 ≤ t ∧ t ≤ 7) (hk : one4 k) : (aX (lK t k) * lu1 t k c X + aY (lK t k) * lu2 t k c Y).tdiv 2 = lC t k c X Y := by
  have : aX (lK t k) * lu1 t k c X + aY (lK t k) * lu2 t k c Y = 2 * lC t k c X Y := by
    unfold lC
    rcases eight ht with rfl | rfl | rfl | rfl | rfl | rfl | rfl | rfl <;> rcases hk with rfl | rfl | rfl | rfl <;> simp [lu1, lu2, lK, lS, mx, my, aX, aY, oX, oY] <;> omega
  rw [this]
  exact Int.mul_tdiv_cancel_left _ (by decide)
theorem l_t (ht : 0 ≤ t ∧ t ≤ 7) (hk : one4 k) : cmp (cmp (inv t) (oT k)) t = oT (lK t k) := by
  rcases eight ht with rfl | rfl | rfl | rfl | rfl | rfl | rfl | rfl <;> rcases hk with rfl | rfl | rfl | rfl <;> decide
theorem l_x (ht : 0 ≤ t ∧ t ≤ 7) (hk : one4 k) : mx t (mx (oT k) (-(mx (inv t) X Y)) (-(my (inv t) X Y)) + oX k c) (my (oT k) (-(mx (inv t) X Y)) (-(my (inv t) X Y)) + oY k c) + X = oX (lK t k) (lC t k c X Y) := by
  unfold lC
  rcases eight ht with rfl | rfl | rfl | rfl | rfl | rfl | rfl | rfl <;> rcases hk with rfl | rfl | rfl | rfl <;> simp [inv, lK, lS, mx, my, aX, aY, oX, oY, oT] <;> omega
theorem l_y (ht : 0 ≤ t ∧ t ≤ 7) (hk : one4 k) : my t (mx (oT k) (-(mx (inv t) X Y)) (-(my (inv t) X Y)) + oX k c) (my (oT k) (-(mx (inv t) X Y)) (-(my (inv t) X Y)) + oY k c) + Y = oY (lK t k) (lC t k c X Y) := by
  unfold lC
  rcases eight ht with rfl | rfl | rfl | rfl | rfl | rfl | rfl | rfl <;> rcases hk with rfl | rfl | rfl | rfl <;> simp [inv, lK, lS, mx, my, aX, aY, oX, oY, oT] <;> omega
end
end Vm
end Go.Proofs.YtgncjbodicabnaaDoor

