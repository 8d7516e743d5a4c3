/-
  Parts of a proof.
-/
import Derived.Test.YtgncjbodicabnaaDoorMv7
import Derived.Test.YtgncjbodicabnaaDoorMv8
set_option linter.unusedSimpArgs false
set_option linter.unusedVariables false

namespace Go.Proofs.YtgncjbodicabnaaDoor
namespace Vm
open Go Go.Vm Go.Vm.W
set_option maxRecDepth 100000
attribute [local irreducible] W WO SpecQ runM

theorem s15w (n : Nat) (t x y k c t' x' y' : Int) (h0 : 0 ≤ t) (h : vm t x y) (hl : vl k c) (e1 : cmp t (oT k) = t') (e2 : mx (oT k) x y + oX k c = x') (e3 : my (oT k) x y + oY k c = y') (hv : vm t' x' y') : SV (n+4) 15 [mvA t x y, ofA k c] (.tup [mvA t' x' y', .int .i64 0]) := by
  subst e1; subst e2; subst e3
  exact s15a n t x y (oT k) (oX k c) (oY k c) h0 h (oT_in k).1 (vm_of hl) hv
theorem s15v (n : Nat) (t x y k c t' x' y' : Int) (h0 : 0 ≤ t ∧ t ≤ 7) (h : -16384 ≤ x ∧ x ≤ 16384 ∧ -16384 ≤ y ∧ y ≤ 16384 ∧ (x + y) % 2 = 0) (hk : 1 ≤ k ∧ k ≤ 4) (hc : -4096 ≤ c ∧ c ≤ 4096) (e1 : cmp t (oT k) = t') (e2 : mx (oT k) x y + oX k c = x') (e3 : my (oT k) x y + oY k c = y') (h1 : t' ≤ 7) (h' : -16384 ≤ x' ∧ x' ≤ 16384 ∧ -16384 ≤ y' ∧ y' ≤ 16384 ∧ (x' + y') % 2 = 0) : SV (n+4) 15 [mvA t x y, ofA k c] (.tup [mvA t' x' y', .int .i64 0]) :=
  s15w n t x y k c t' x' y' h0.1 ⟨h0.2, h⟩ ⟨hk.1, hk.2, hc⟩ e1 e2 e3 ⟨h1, h'⟩
@[reducible] def lp7 : CC := (.loop (.seq (.seq (.region [
 ⟨some 61,none,.p (.mov (.t 9)),false,[]⟩,
 ⟨some 62,none,.p (.mov (.t 7)),false,[]⟩,
 ⟨some 63,none,.p (.len (.t 62)),false,[]⟩,
 ⟨some 64,none,.p (.bin .lss (.t 61) (.t 63)),false,[]⟩]) (.cond (.t 64) .skip (.exit 0))) (.seq (.block 1 (.seq (.region [
 ⟨some 68,none,.p (.mov (.t 7)),false,[]⟩,
 ⟨some 69,none,.p (.mov (.t 9)),false,[]⟩,
 ⟨some 70,none,.p (.iadS 2 (.t 68) (.t 69)),false,[]⟩,
 ⟨some 71,none,.h (.load true 2 (.t 70)),false,[]⟩,
 ⟨some 72,none,.h (.call 26 [(.t 71)]),false,[]⟩,
 ⟨some 67,none,.p (.mov (.t 72)),false,[]⟩,
 ⟨some 73,none,.p (.ext 0 (.t 67)),false,[]⟩,
 ⟨some 74,none,.p (.ext 1 (.t 67)),false,[]⟩,
 ⟨some 10,none,.h (.alloc [(.int .u8 0), (.int .i64 0), (.int .i64 0)]),false,[]⟩,
 ⟨none,none,.h (.store 3 (.t 10) (.t 73)),false,[]⟩,
 ⟨some 11,none,.p (.mov (.t 74)),false,[]⟩]) (.seq (.seq (.region [
 ⟨some 75,none,.p (.mov (.t 11)),false,[]⟩,
 ⟨some 76,none,.p (.bin .neq (.t 75) (.c (.int .i64 0))),false,[]⟩]) (.cond (.t 76) (.seq (.region [
 ⟨some 2,none,.p (.mov (.c (.bool false))),false,[]⟩]) .ret) .skip)) (.seq (.region [
 ⟨some 78,none,.h (.load true 3 (.t 8)),false,[]⟩,
 ⟨some 79,none,.h (.load true 3 (.t 10)),false,[]⟩,
 ⟨some 80,none,.h (.call 15 [(.t 78), (.t 79)]),false,[]⟩,
 ⟨some 77,none,.p (.mov (.t 80)),false,[]⟩,
 ⟨some 81,none,.p (.ext 0 (.t 77)),false,[]⟩,
 ⟨some 82,none,.p (.ext 1 (.t 77)),false,[]⟩,
 ⟨none,none,.h (.store 3 (.t 8) (.t 81)),false,[]⟩,
 ⟨some 11,none,.p (.mov (.t 82)),false,[]⟩]) (.seq (.region [
 ⟨some 83,none,.p (.mov (.t 11)),false,[]⟩,
 ⟨some 84,none,.p (.bin .neq (.t 83) (.c (.int .i64 0))),false,[]⟩,
 ⟨some 85,none,.p (.mov (.t 84)),false,[]⟩,
 ⟨some 86,(some (85, false)),.p (.mov (.t 7)),false,[]⟩,
 ⟨some 87,(some (85, false)),.p (.mov (.t 9)),false,[]⟩,
 ⟨some 88,(some (85, false)),.p (.iadS 2 (.t 86) (.t 87)),false,[]⟩,
 ⟨some 89,(some (85, false)),.h (.load true 2 (.t 88)),false,[]⟩,
 ⟨some 90,(some (85, false)),.h (.call 28 [(.t 89)]),false,[]⟩,
 ⟨some 91,(some (85, false)),.p (.bin .neq (.t 90) (.c (.int .i64 0))),false,[]⟩,
 ⟨some 92,none,.p (.pick (.t 85) (.c (.bool true)) (.t 91)),false,[]⟩]) (.cond (.t 92) (.seq (.region [
 ⟨some 2,none,.p (.mov (.c (.bool false))),false,[]⟩]) .ret) .skip)))))) (.region [
 ⟨some 65,none,.p (.mov (.t 9)),false,[]⟩,
 ⟨some 66,none,.p (.bin .add (.t 65) (.c (.int .i64 1))),false,[]⟩,
 ⟨some 9,none,.p (.mov (.t 66)),false,[]⟩]))))
abbrev mvL (s : Int × Int × Int) : List AV := [.int .u8 s.1, .int .i64 s.2.1, .int .i64 s.2.2]
set_option maxHeartbeats 4000000 in
theorem loop7 {n ro b3 b7 b8 len : Nat} {cap : Option Nat} {O Ob : List Ent} {t : Fr} {L : List AV} {Q : Ex → Fr → List Ent → Prop} (ms : Nat → Int × Int × Int) (ln : Nat → Int × Int) (hl : len ≤ 10)
    (hF : weakF [(9, .int .i64 0), (7, .sl b7 0 len cap 2), (8, .ptr b8 0), (3, .ptr b3 0)] t)
    (hO : (⟨b8, true, .cells (mvL (ms 0))⟩ :: ⟨b7, true, .cells L⟩ :: Ob).Sublist O)
    (hL : ∀ i, i < len → ldv true 2 (0 + i * 2) L = some (lnA (ln i).1 (ln i).2)) (hv : ∀ i, i < len → vl (ln i).1 (ln i).2)
    (hs : ∀ i, i < len → ∀ m, SV (m+4) 15 [mvA (ms i).1 (ms i).2.1 (ms i).2.2, ofA (ln i).1 (ln i).2] (.tup [mvA (ms (i+1)).1 (ms (i+1)).2.1 (ms (i+1)).2.2, .int .i64 0]))
    (hQ : Q (.exit 0) [(64, .bool (decide ((len : Int) < len))), (63, .int .i64 len), (62, .sl b7 0 len cap 2), (61, .int .i64 len), (9, .int .i64 len), (7, .sl b7 0 len cap 2), (8, .ptr b8 0), (3, .ptr b3 0)] (⟨b8, true, .cells (mvL (ms len))⟩ :: ⟨b7, true, .cells L⟩ :: Ob)) : W BB (runM BB mm prog (n + 5)) ro lp7 t O Q := by
  unfold lp7
  refine W_loop (σ := Nat) (fun i => [(9, .int .i64 i), (7, .sl b7 0 len cap 2), (8, .ptr b8 0), (3, .ptr b3 0)])
    (fun i => ⟨b8, true, .cells (mvL (ms i))⟩ :: ⟨b7, true, .cells L⟩ :: Ob)
    (fun i => i ≤ len) (fun i => len - i) 0 hF hO (Nat.zero_le _) (by show len - 0 < fuel; simp [fuel]; omega) ?_
  intro i hi
  repeat' (first
    | (refine A_p ?_; first | refine D_mov rfl ?_ | refine D_fad rfl ?_ | (refine A_bin ?_; first | refine D_add rfl rfl (by simp only [inR]; omega) ?_ | refine D_sub rfl rfl (by simp only [inR]; omega) ?_ | refine D_mul rfl rfl (by simp only [inR]; omega) ?_ | refine D_eql rfl rfl ?_ | refine D_lss rfl rfl ?_ | refine D_neq rfl rfl ?_ | refine D_gtr rfl rfl ?_ | refine D_leq rfl rfl ?_ | refine D_geq rfl rfl ?_ | refine D_eqlS rfl rfl ?_ | refine D_neqS rfl rfl ?_) | refine D_iadS rfl rfl (by omega) (by omega) ?_ | refine D_ext rfl rfl ?_ | refine D_pick_t rfl rfl ?_ | refine D_pick_f rfl rfl ?_ | refine D_cvi rfl (by simp only [inR]; omega) ?_ | refine D_neg rfl (by simp only [inR]; omega) ?_ | (refine D_build ?_; show WO _ _ _ _ _ _ _) | (refine D_eqf rfl rfl rfl ?_; show WO _ _ _ _ _ _ _) | (refine D_neqf rfl rfl rfl ?_; show WO _ _ _ _ _ _ _) | refine D_not_dec rfl ?_ | refine D_not rfl ?_ | refine D_len rfl ?_ | refine D_len_nil rfl ?_ | refine D_lenS rfl ?_ | refine D_lenc ?_ | refine D_cap rfl ?_ | refine D_iadA rfl rfl (by omega) (by omega) ?_ | (refine D_fld rfl ?_; show WO _ _ _ _ _ _ _) | refine D_min rfl rfl ?_ | refine D_max rfl rfl ?_ | refine D_eqn rfl rfl rfl ?_ | refine D_mkif rfl ?_ | refine D_mkfn rfl rfl ?_ | refine D_cvs rfl ?_ | refine D_nilck rfl ?_)
    | (refine A_h ?_; first | (refine A_load ?_; first | (refine D_load rfl (by repeat (first | exact Has.here | refine Has.there ?_)) ?_; show WO _ _ _ _ _ _ _) | refine D_loadV rfl (by repeat (first | exact Has.here | refine Has.there ?_)) (hL i (by omega)) ?_) | (refine A_call ?_; first | refine D_callV rfl (s26 _ _ _ (hv i (by omega))) ?_ | refine D_callV rfl (s28 _ _ _ (hv i (by omega))) ?_ | refine D_callV rfl (hs i (by omega) _) ?_) | (refine D_box_agg rfl ?_; intro _b) | (refine D_box rfl ?_ rfl; intro _b) | (refine D_store rfl rfl (by repeat (first | exact At.here | apply At.there)) rfl rfl ?_; show WO _ _ _ _ _ _ _) | (refine D_alloc ?_; intro _b))
    | (refine A_g ?_; first | refine G_do rfl ?_ | refine G_no rfl ?_ | refine G_skip rfl ?_ | (refine WO_guard_dec rfl ?_ ?_ <;> intro h <;> try (exfalso; omega)) | (refine WO_guard rfl ?_ ?_ <;> intro h <;> try (simp at h; done)))
    | refine WO_nil ?_
    | (refine A_seq ?_; first | refine C_reg ?_ | refine C_assoc ?_ | refine C_if_t rfl ?_ | refine C_if_f rfl ?_ | (refine C_if_dec rfl ?_ ?_ <;> intro h <;> try (exfalso; omega)) | (refine C_if rfl ?_ ?_ <;> intro h <;> try (simp at h; done)) | refine C_ret ?_ | refine C_skip ?_ | refine C_exit ?_ | refine C_block ?_)
    | refine W_ret ?_
    | refine W_region ?_
    | refine W_exit ?_
    | refine W_skip ?_
    | refine W_if_t rfl ?_
    | refine W_if_f rfl ?_
    | (refine W_if_dec rfl ?_ ?_ <;> intro h <;> try (exfalso; omega))
    | (refine W_if rfl ?_ ?_ <;> intro h <;> try (simp at h; done))
    | refine R_t rfl (by repeat (first | exact List.Sublist.refl _ | refine List.Sublist.cons _ ?_)) ?_
    | refine R_ct rfl (by repeat (first | exact Has.here | refine Has.there ?_)) rfl rfl (by repeat (first | exact List.Sublist.refl _ | refine List.Sublist.cons _ ?_)) ?_
    | refine R_tt rfl rfl (by repeat (first | exact List.Sublist.refl _ | refine List.Sublist.cons _ ?_)) ?_
    | refine R_c rfl (by repeat (first | exact Has.here | refine Has.there ?_)) rfl (by repeat (first | exact List.Sublist.refl _ | refine List.Sublist.cons _ ?_)) ?_
    | refine R_cc rfl (by repeat (first | exact Has.here | refine Has.there ?_)) rfl rfl (by repeat (first | exact Has.here | refine Has.there ?_)) rfl (by repeat (first | exact List.Sublist.refl _ | refine List.Sublist.cons _ ?_)) ?_)
  · exact ⟨i + 1, ⟨rfl, rfl, rfl, rfl, trivial⟩, by repeat (first | exact List.Sublist.refl _ | refine List.Sublist.cons _ ?_), by show i + 1 ≤ len; omega, by show len - (i + 1) < len - i; omega⟩
  · obtain rfl : i = len := by omega
    exact hQ
end Vm
end Go.Proofs.YtgncjbodicabnaaDoor

namespace Go.Proofs.YtgncjbodicabnaaDoor
namespace Vm
open Go Go.Vm Go.Vm.W
set_option maxRecDepth 100000
attribute [local irreducible] W WO SpecQ runM

theorem lv (k c : Int) (h : 1 ≤ k ∧ k ≤ 4) (h' : -4096 ≤ c ∧ c ≤ 4096) : vl k c := ⟨h.1, h.2, h'.1, h'.2⟩
set_option maxHeartbeats 8000000 in
theorem s7t (n : Nat) (t r a b x y u v : Int) (ht : 0 ≤ t ∧ t ≤ 7) (c27 : ∀ m, SV (m + 1) 27 [rawA r a b] (mvA t x y)) (hx : -128 ≤ x ∧ x ≤ 128) (hy : -128 ≤ y ∧ y ≤ 128) (hu : x + y = 2 * u) (hv : x - y = 2 * v) : SV (n+6) 7 [rawA r a b] (.bool true) := by
  have q1 : (x + y).tdiv 2 = u := by rw [hu]; exact Int.mul_tdiv_cancel_left _ (by decide)
  have q2 : (x - y).tdiv 2 = v := by rw [hv]; exact Int.mul_tdiv_cancel_left _ (by decide)
  refine SpecQ_run (c := k7) rfl rfl rfl ?_
  intro ro O _
  unfold k7
  rcases eight ht with rfl | rfl | rfl | rfl | rfl | rfl | rfl | rfl
  repeat' (first
    | (refine A_p ?_; first | refine D_mov rfl ?_ | refine D_fad rfl ?_ | (refine A_bin ?_; first | refine D_tdivE q1 rfl rfl (by decide) (by simp only [inR]; omega) ?_ | refine D_tdivE q2 rfl rfl (by decide) (by simp only [inR]; omega) ?_ | refine D_add rfl rfl (by simp only [inR]; omega) ?_ | refine D_sub rfl rfl (by simp only [inR]; omega) ?_ | refine D_mul rfl rfl (by simp only [inR]; omega) ?_ | refine D_eql rfl rfl ?_ | refine D_lss rfl rfl ?_ | refine D_neq rfl rfl ?_ | refine D_gtr rfl rfl ?_ | refine D_leq rfl rfl ?_ | refine D_geq rfl rfl ?_ | refine D_eqlS rfl rfl ?_ | refine D_neqS rfl rfl ?_) | refine D_iadS rfl rfl (by decide) (by decide) ?_ | refine D_ext rfl rfl ?_ | refine D_pick_t rfl rfl ?_ | refine D_pick_f rfl rfl ?_ | refine D_cvi rfl (by simp only [inR]; omega) ?_ | refine D_neg rfl (by simp only [inR]; omega) ?_ | (refine D_build ?_; show WO _ _ _ _ _ _ _) | (refine D_eqf rfl rfl rfl ?_; show WO _ _ _ _ _ _ _) | (refine D_neqf rfl rfl rfl ?_; show WO _ _ _ _ _ _ _) | refine D_not_dec rfl ?_ | refine D_not rfl ?_ | refine D_len rfl ?_ | refine D_len_nil rfl ?_ | refine D_lenS rfl ?_ | refine D_lenc ?_ | refine D_cap rfl ?_ | refine D_iadA rfl rfl (by omega) (by omega) ?_ | (refine D_fld rfl ?_; show WO _ _ _ _ _ _ _) | refine D_min rfl rfl ?_ | refine D_max rfl rfl ?_ | refine D_eqn rfl rfl rfl ?_ | refine D_mkif rfl ?_ | refine D_mkfn rfl rfl ?_ | refine D_cvs rfl ?_ | refine D_nilck rfl ?_)
    | (refine A_h ?_; first | (refine A_load ?_; first | (refine D_load rfl (by repeat (first | exact Has.here | refine Has.there ?_)) ?_; show WO _ _ _ _ _ _ _)) | (refine A_call ?_; first | refine D_callV rfl (s17 _) ?_ | refine D_callV rfl (c27 _) ?_) | (refine D_bsl rfl ?_; intro _b; show WO _ _ _ _ _ _ _) | (refine WO_app_zero (d := some _) rfl ⟨rfl, Or.inr ⟨_, _, _, rfl⟩⟩ rfl Src.none (by intro b o cap e; cases e; exact ⟨_, (by repeat (first | exact Has.here | refine Has.there ?_)), by simp⟩) (by decide) (by decide) ?_; show WO _ _ _ _ _ _ _) | (refine WO_app_full (d := some _) rfl (by repeat (first | exact Has.here | refine Has.there ?_)) (by decide) rfl (Src.sl (by repeat (first | exact Has.here | refine Has.there ?_)) (by exact Nat.le_of_ble_eq_true rfl)) (by decide) (by decide) (by decide) (by decide) rfl ?_; intro _b; show WO _ _ _ _ _ _ _) | (refine WO_app_own (d := some _) rfl (by repeat (first | exact Del.here | apply Del.there)) (by rfl) rfl (Src.sl (by repeat (first | exact Has.here | refine Has.there ?_)) (by exact Nat.le_of_ble_eq_true rfl)) (by decide) (by decide) (by decide) (by rfl) ?_; intro _b; show WO _ _ _ _ _ _ _) | (refine D_box_agg rfl ?_; intro _b) | (refine D_box rfl ?_ rfl; intro _b) | (refine D_store rfl rfl (by repeat (first | exact At.here | apply At.there)) rfl rfl ?_; show WO _ _ _ _ _ _ _) | (refine D_alloc ?_; intro _b))
    | (refine A_g ?_; first | refine G_do rfl ?_ | refine G_no rfl ?_ | refine G_skip rfl ?_ | (refine WO_guard_dec rfl ?_ ?_ <;> intro h <;> try (exfalso; omega)))
    | refine WO_nil ?_
    | (refine A_seq ?_; first | refine C_reg ?_ | refine C_assoc ?_ | refine C_if_t rfl ?_ | refine C_if_f rfl ?_ | (refine C_if_dec rfl ?_ ?_ <;> intro h <;> try (exfalso; omega)) | refine C_ret ?_ | refine C_skip ?_ | refine C_exit ?_ | refine C_block ?_)
    | refine W_ret ?_
    | refine W_region ?_
    | refine W_exit ?_
    | refine W_skip ?_
    | refine W_if_t rfl ?_
    | refine W_if_f rfl ?_
    | (refine W_if_dec rfl ?_ ?_ <;> intro h <;> try (exfalso; omega))
    | refine R_t rfl (by repeat (first | exact List.Sublist.refl _ | refine List.Sublist.cons _ ?_)) ?_
    | refine R_ct rfl (by repeat (first | exact Has.here | refine Has.there ?_)) rfl rfl (by repeat (first | exact List.Sublist.refl _ | refine List.Sublist.cons _ ?_)) ?_
    | refine R_tt rfl rfl (by repeat (first | exact List.Sublist.refl _ | refine List.Sublist.cons _ ?_)) ?_
    | refine R_c rfl (by repeat (first | exact Has.here | refine Has.there ?_)) rfl (by repeat (first | exact List.Sublist.refl _ | refine List.Sublist.cons _ ?_)) ?_
    | refine R_cc rfl (by repeat (first | exact Has.here | refine Has.there ?_)) rfl rfl (by repeat (first | exact Has.here | refine Has.there ?_)) rfl (by repeat (first | exact List.Sublist.refl _ | refine List.Sublist.cons _ ?_)) ?_)
  rename_i b1 b3 d0 d1 d2 d3 d4 d5 d6 d7 d8 d9 d10 d11
  refine loop7 (Ob := ⟨b3, true, .cells [.int .u8 0, .int .i64 x, .int .i64 y]⟩ :: O) (fun i => [(0, 0, 0), (5, 0, 0), (0, u, u), (7, u - v, u + v), (0, x, y)].getD i (0, 0, 0)) (fun i => [(3, 0), (3, u), (4, v), (4, 0)].getD i (0, 0)) (len := 4) (by decide) ⟨rfl, rfl, rfl, rfl, trivial⟩
    (by refine List.Sublist.cons_cons _ (List.Sublist.cons_cons _ ?_); repeat (first | exact List.Sublist.refl _ | refine List.Sublist.cons_cons _ ?_ | refine List.Sublist.cons _ ?_)) ?_ ?_ ?_ ?_
  · intro i hi
    match i, hi with
    | 0, _ | 1, _ | 2, _ | 3, _ => rfl
  · intro i hi
    match i, hi with
    | 0, _ => exact lv 3 (0) (by decide) (by omega)
    | 1, _ => exact lv 3 (u) (by decide) (by omega)
    | 2, _ => exact lv 4 (v) (by decide) (by omega)
    | 3, _ => exact lv 4 (0) (by decide) (by omega)
  · intro i hi m
    match i, hi with
    | 0, _ => exact s15v m 0 (0) (0) 3 (0) 5 (0) (0) (by decide) (by omega) (by decide) (by omega) (by decide) (by simp [mx, oT, oX]; try omega) (by simp [my, oT, oY]; try omega) (by decide) (by omega)
    | 1, _ => exact s15v m 5 (0) (0) 3 (u) 0 (u) (u) (by decide) (by omega) (by decide) (by omega) (by decide) (by simp [mx, oT, oX]; try omega) (by simp [my, oT, oY]; try omega) (by decide) (by omega)
    | 2, _ => exact s15v m 0 (u) (u) 4 (v) 7 (u - v) (u + v) (by decide) (by omega) (by decide) (by omega) (by decide) (by simp [mx, oT, oX]; try omega) (by simp [my, oT, oY]; try omega) (by decide) (by omega)
    | 3, _ => exact s15v m 7 (u - v) (u + v) 4 (0) 0 (x) (y) (by decide) (by omega) (by decide) (by omega) (by decide) (by simp [mx, oT, oX]; try omega) (by simp [my, oT, oY]; try omega) (by decide) (by omega)
  rotate_left
  rename_i b1 b3 d0 d1 d2 d3 d4 d5 d6 d7 d8 d9 d10 d11 d12
  refine loop7 (Ob := ⟨b3, true, .cells [.int .u8 1, .int .i64 x, .int .i64 y]⟩ :: O) (fun i => [(0, 0, 0), (4, 0, 0), (1, 0, 0), (4, 0, 0), (1, u, u), (6, u - v, u + v), (1, x, y)].getD i (0, 0, 0)) (fun i => [(1, 0), (3, 0), (3, 0), (3, u), (4, v), (4, 0)].getD i (0, 0)) (len := 6) (by decide) ⟨rfl, rfl, rfl, rfl, trivial⟩
    (by refine List.Sublist.cons_cons _ (List.Sublist.cons_cons _ ?_); repeat (first | exact List.Sublist.refl _ | refine List.Sublist.cons_cons _ ?_ | refine List.Sublist.cons _ ?_)) ?_ ?_ ?_ ?_
  · intro i hi
    match i, hi with
    | 0, _ | 1, _ | 2, _ | 3, _ | 4, _ | 5, _ => rfl
  · intro i hi
    match i, hi with
    | 0, _ => exact lv 1 (0) (by decide) (by omega)
    | 1, _ => exact lv 3 (0) (by decide) (by omega)
    | 2, _ => exact lv 3 (0) (by decide) (by omega)
    | 3, _ => exact lv 3 (u) (by decide) (by omega)
    | 4, _ => exact lv 4 (v) (by decide) (by omega)
    | 5, _ => exact lv 4 (0) (by decide) (by omega)
  · intro i hi m
    match i, hi with
    | 0, _ => exact s15v m 0 (0) (0) 1 (0) 4 (0) (0) (by decide) (by omega) (by decide) (by omega) (by decide) (by simp [mx, oT, oX]; try omega) (by simp [my, oT, oY]; try omega) (by decide) (by omega)
    | 1, _ => exact s15v m 4 (0) (0) 3 (0) 1 (0) (0) (by decide) (by omega) (by decide) (by omega) (by decide) (by simp [mx, oT, oX]; try omega) (by simp [my, oT, oY]; try omega) (by decide) (by omega)
    | 2, _ => exact s15v m 1 (0) (0) 3 (0) 4 (0) (0) (by decide) (by omega) (by decide) (by omega) (by decide) (by simp [mx, oT, oX]; try omega) (by simp [my, oT, oY]; try omega) (by decide) (by omega)
    | 3, _ => exact s15v m 4 (0) (0) 3 (u) 1 (u) (u) (by decide) (by omega) (by decide) (by omega) (by decide) (by simp [mx, oT, oX]; try omega) (by simp [my, oT, oY]; try omega) (by decide) (by omega)
    | 4, _ => exact s15v m 1 (u) (u) 4 (v) 6 (u - v) (u + v) (by decide) (by omega) (by decide) (by omega) (by decide) (by simp [mx, oT, oX]; try omega) (by simp [my, oT, oY]; try omega) (by decide) (by omega)
    | 5, _ => exact s15v m 6 (u - v) (u + v) 4 (0) 1 (x) (y) (by decide) (by omega) (by decide) (by omega) (by decide) (by simp [mx, oT, oX]; try omega) (by simp [my, oT, oY]; try omega) (by decide) (by omega)
  rotate_left
  rename_i b1 b3 d0 d1 d2 d3 d4 d5 d6 d7 d8 d9 d10 d11 d12
  refine loop7 (Ob := ⟨b3, true, .cells [.int .u8 2, .int .i64 x, .int .i64 y]⟩ :: O) (fun i => [(0, 0, 0), (4, 0, 0), (2, 0, 0), (7, 0, 0), (2, u, u), (5, u - v, u + v), (2, x, y)].getD i (0, 0, 0)) (fun i => [(1, 0), (2, 0), (3, 0), (3, u), (4, v), (4, 0)].getD i (0, 0)) (len := 6) (by decide) ⟨rfl, rfl, rfl, rfl, trivial⟩
    (by refine List.Sublist.cons_cons _ (List.Sublist.cons_cons _ ?_); repeat (first | exact List.Sublist.refl _ | refine List.Sublist.cons_cons _ ?_ | refine List.Sublist.cons _ ?_)) ?_ ?_ ?_ ?_
  · intro i hi
    match i, hi with
    | 0, _ | 1, _ | 2, _ | 3, _ | 4, _ | 5, _ => rfl
  · intro i hi
    match i, hi with
    | 0, _ => exact lv 1 (0) (by decide) (by omega)
    | 1, _ => exact lv 2 (0) (by decide) (by omega)
    | 2, _ => exact lv 3 (0) (by decide) (by omega)
    | 3, _ => exact lv 3 (u) (by decide) (by omega)
    | 4, _ => exact lv 4 (v) (by decide) (by omega)
    | 5, _ => exact lv 4 (0) (by decide) (by omega)
  · intro i hi m
    match i, hi with
    | 0, _ => exact s15v m 0 (0) (0) 1 (0) 4 (0) (0) (by decide) (by omega) (by decide) (by omega) (by decide) (by simp [mx, oT, oX]; try omega) (by simp [my, oT, oY]; try omega) (by decide) (by omega)
    | 1, _ => exact s15v m 4 (0) (0) 2 (0) 2 (0) (0) (by decide) (by omega) (by decide) (by omega) (by decide) (by simp [mx, oT, oX]; try omega) (by simp [my, oT, oY]; try omega) (by decide) (by omega)
    | 2, _ => exact s15v m 2 (0) (0) 3 (0) 7 (0) (0) (by decide) (by omega) (by decide) (by omega) (by decide) (by simp [mx, oT, oX]; try omega) (by simp [my, oT, oY]; try omega) (by decide) (by omega)
    | 3, _ => exact s15v m 7 (0) (0) 3 (u) 2 (u) (u) (by decide) (by omega) (by decide) (by omega) (by decide) (by simp [mx, oT, oX]; try omega) (by simp [my, oT, oY]; try omega) (by decide) (by omega)
    | 4, _ => exact s15v m 2 (u) (u) 4 (v) 5 (u - v) (u + v) (by decide) (by omega) (by decide) (by omega) (by decide) (by simp [mx, oT, oX]; try omega) (by simp [my, oT, oY]; try omega) (by decide) (by omega)
    | 5, _ => exact s15v m 5 (u - v) (u + v) 4 (0) 2 (x) (y) (by decide) (by omega) (by decide) (by omega) (by decide) (by simp [mx, oT, oX]; try omega) (by simp [my, oT, oY]; try omega) (by decide) (by omega)
  rotate_left
  rename_i b1 b3 d0 d1 d2 d3 d4 d5 d6 d7 d8 d9 d10 d11 d12
  refine loop7 (Ob := ⟨b3, true, .cells [.int .u8 3, .int .i64 x, .int .i64 y]⟩ :: O) (fun i => [(0, 0, 0), (5, 0, 0), (3, 0, 0), (6, 0, 0), (3, u, u), (4, u - v, u + v), (3, x, y)].getD i (0, 0, 0)) (fun i => [(3, 0), (1, 0), (3, 0), (3, u), (4, v), (4, 0)].getD i (0, 0)) (len := 6) (by decide) ⟨rfl, rfl, rfl, rfl, trivial⟩
    (by refine List.Sublist.cons_cons _ (List.Sublist.cons_cons _ ?_); repeat (first | exact List.Sublist.refl _ | refine List.Sublist.cons_cons _ ?_ | refine List.Sublist.cons _ ?_)) ?_ ?_ ?_ ?_
  · intro i hi
    match i, hi with
    | 0, _ | 1, _ | 2, _ | 3, _ | 4, _ | 5, _ => rfl
  · intro i hi
    match i, hi with
    | 0, _ => exact lv 3 (0) (by decide) (by omega)
    | 1, _ => exact lv 1 (0) (by decide) (by omega)
    | 2, _ => exact lv 3 (0) (by decide) (by omega)
    | 3, _ => exact lv 3 (u) (by decide) (by omega)
    | 4, _ => exact lv 4 (v) (by decide) (by omega)
    | 5, _ => exact lv 4 (0) (by decide) (by omega)
  · intro i hi m
    match i, hi with
    | 0, _ => exact s15v m 0 (0) (0) 3 (0) 5 (0) (0) (by decide) (by omega) (by decide) (by omega) (by decide) (by simp [mx, oT, oX]; try omega) (by simp [my, oT, oY]; try omega) (by decide) (by omega)
    | 1, _ => exact s15v m 5 (0) (0) 1 (0) 3 (0) (0) (by decide) (by omega) (by decide) (by omega) (by decide) (by simp [mx, oT, oX]; try omega) (by simp [my, oT, oY]; try omega) (by decide) (by omega)
    | 2, _ => exact s15v m 3 (0) (0) 3 (0) 6 (0) (0) (by decide) (by omega) (by decide) (by omega) (by decide) (by simp [mx, oT, oX]; try omega) (by simp [my, oT, oY]; try omega) (by decide) (by omega)
    | 3, _ => exact s15v m 6 (0) (0) 3 (u) 3 (u) (u) (by decide) (by omega) (by decide) (by omega) (by decide) (by simp [mx, oT, oX]; try omega) (by simp [my, oT, oY]; try omega) (by decide) (by omega)
    | 4, _ => exact s15v m 3 (u) (u) 4 (v) 4 (u - v) (u + v) (by decide) (by omega) (by decide) (by omega) (by decide) (by simp [mx, oT, oX]; try omega) (by simp [my, oT, oY]; try omega) (by decide) (by omega)
    | 5, _ => exact s15v m 4 (u - v) (u + v) 4 (0) 3 (x) (y) (by decide) (by omega) (by decide) (by omega) (by decide) (by simp [mx, oT, oX]; try omega) (by simp [my, oT, oY]; try omega) (by decide) (by omega)
  rotate_left
  rename_i b1 b3 d0 d1 d2 d3 d4 d5 d6 d7 d8 d9 d10 d11 d12
  refine loop7 (Ob := ⟨b3, true, .cells [.int .u8 4, .int .i64 x, .int .i64 y]⟩ :: O) (fun i => [(0, 0, 0), (4, 0, 0), (1, 0, 0), (4, u, u), (3, u - v, u + v), (4, x, y)].getD i (0, 0, 0)) (fun i => [(1, 0), (3, 0), (3, u), (4, v), (4, 0)].getD i (0, 0)) (len := 5) (by decide) ⟨rfl, rfl, rfl, rfl, trivial⟩
    (by refine List.Sublist.cons_cons _ (List.Sublist.cons_cons _ ?_); repeat (first | exact List.Sublist.refl _ | refine List.Sublist.cons_cons _ ?_ | refine List.Sublist.cons _ ?_)) ?_ ?_ ?_ ?_
  · intro i hi
    match i, hi with
    | 0, _ | 1, _ | 2, _ | 3, _ | 4, _ => rfl
  · intro i hi
    match i, hi with
    | 0, _ => exact lv 1 (0) (by decide) (by omega)
    | 1, _ => exact lv 3 (0) (by decide) (by omega)
    | 2, _ => exact lv 3 (u) (by decide) (by omega)
    | 3, _ => exact lv 4 (v) (by decide) (by omega)
    | 4, _ => exact lv 4 (0) (by decide) (by omega)
  · intro i hi m
    match i, hi with
    | 0, _ => exact s15v m 0 (0) (0) 1 (0) 4 (0) (0) (by decide) (by omega) (by decide) (by omega) (by decide) (by simp [mx, oT, oX]; try omega) (by simp [my, oT, oY]; try omega) (by decide) (by omega)
    | 1, _ => exact s15v m 4 (0) (0) 3 (0) 1 (0) (0) (by decide) (by omega) (by decide) (by omega) (by decide) (by simp [mx, oT, oX]; try omega) (by simp [my, oT, oY]; try omega) (by decide) (by omega)
    | 2, _ => exact s15v m 1 (0) (0) 3 (u) 4 (u) (u) (by decide) (by omega) (by decide) (by omega) (by decide) (by simp [mx, oT, oX]; try omega) (by simp [my, oT, oY]; try omega) (by decide) (by omega)
    | 3, _ => exact s15v m 4 (u) (u) 4 (v) 3 (u - v) (u + v) (by decide) (by omega) (by decide) (by omega) (by decide) (by simp [mx, oT, oX]; try omega) (by simp [my, oT, oY]; try omega) (by decide) (by omega)
    | 4, _ => exact s15v m 3 (u - v) (u + v) 4 (0) 4 (x) (y) (by decide) (by omega) (by decide) (by omega) (by decide) (by simp [mx, oT, oX]; try omega) (by simp [my, oT, oY]; try omega) (by decide) (by omega)
  rotate_left
  rename_i b1 b3 d0 d1 d2 d3 d4 d5 d6 d7 d8 d9 d10 d11 d12
  refine loop7 (Ob := ⟨b3, true, .cells [.int .u8 5, .int .i64 x, .int .i64 y]⟩ :: O) (fun i => [(0, 0, 0), (5, 0, 0), (0, 0, 0), (5, u, u), (2, u - v, u + v), (5, x, y)].getD i (0, 0, 0)) (fun i => [(3, 0), (3, 0), (3, u), (4, v), (4, 0)].getD i (0, 0)) (len := 5) (by decide) ⟨rfl, rfl, rfl, rfl, trivial⟩
    (by refine List.Sublist.cons_cons _ (List.Sublist.cons_cons _ ?_); repeat (first | exact List.Sublist.refl _ | refine List.Sublist.cons_cons _ ?_ | refine List.Sublist.cons _ ?_)) ?_ ?_ ?_ ?_
  · intro i hi
    match i, hi with
    | 0, _ | 1, _ | 2, _ | 3, _ | 4, _ => rfl
  · intro i hi
    match i, hi with
    | 0, _ => exact lv 3 (0) (by decide) (by omega)
    | 1, _ => exact lv 3 (0) (by decide) (by omega)
    | 2, _ => exact lv 3 (u) (by decide) (by omega)
    | 3, _ => exact lv 4 (v) (by decide) (by omega)
    | 4, _ => exact lv 4 (0) (by decide) (by omega)
  · intro i hi m
    match i, hi with
    | 0, _ => exact s15v m 0 (0) (0) 3 (0) 5 (0) (0) (by decide) (by omega) (by decide) (by omega) (by decide) (by simp [mx, oT, oX]; try omega) (by simp [my, oT, oY]; try omega) (by decide) (by omega)
    | 1, _ => exact s15v m 5 (0) (0) 3 (0) 0 (0) (0) (by decide) (by omega) (by decide) (by omega) (by decide) (by simp [mx, oT, oX]; try omega) (by simp [my, oT, oY]; try omega) (by decide) (by omega)
    | 2, _ => exact s15v m 0 (0) (0) 3 (u) 5 (u) (u) (by decide) (by omega) (by decide) (by omega) (by decide) (by simp [mx, oT, oX]; try omega) (by simp [my, oT, oY]; try omega) (by decide) (by omega)
    | 3, _ => exact s15v m 5 (u) (u) 4 (v) 2 (u - v) (u + v) (by decide) (by omega) (by decide) (by omega) (by decide) (by simp [mx, oT, oX]; try omega) (by simp [my, oT, oY]; try omega) (by decide) (by omega)
    | 4, _ => exact s15v m 2 (u - v) (u + v) 4 (0) 5 (x) (y) (by decide) (by omega) (by decide) (by omega) (by decide) (by simp [mx, oT, oX]; try omega) (by simp [my, oT, oY]; try omega) (by decide) (by omega)
  rotate_left
  rename_i b1 b3 d0 d1 d2 d3 d4 d5 d6 d7 d8 d9 d10 d11 d12
  refine loop7 (Ob := ⟨b3, true, .cells [.int .u8 6, .int .i64 x, .int .i64 y]⟩ :: O) (fun i => [(0, 0, 0), (6, 0, 0), (3, 0, 0), (6, u, u), (1, u - v, u + v), (6, x, y)].getD i (0, 0, 0)) (fun i => [(2, 0), (3, 0), (3, u), (4, v), (4, 0)].getD i (0, 0)) (len := 5) (by decide) ⟨rfl, rfl, rfl, rfl, trivial⟩
    (by refine List.Sublist.cons_cons _ (List.Sublist.cons_cons _ ?_); repeat (first | exact List.Sublist.refl _ | refine List.Sublist.cons_cons _ ?_ | refine List.Sublist.cons _ ?_)) ?_ ?_ ?_ ?_
  · intro i hi
    match i, hi with
    | 0, _ | 1, _ | 2, _ | 3, _ | 4, _ => rfl
  · intro i hi
    match i, hi with
    | 0, _ => exact lv 2 (0) (by decide) (by omega)
    | 1, _ => exact lv 3 (0) (by decide) (by omega)
    | 2, _ => exact lv 3 (u) (by decide) (by omega)
    | 3, _ => exact lv 4 (v) (by decide) (by omega)
    | 4, _ => exact lv 4 (0) (by decide) (by omega)
  · intro i hi m
    match i, hi with
    | 0, _ => exact s15v m 0 (0) (0) 2 (0) 6 (0) (0) (by decide) (by omega) (by decide) (by omega) (by decide) (by simp [mx, oT, oX]; try omega) (by simp [my, oT, oY]; try omega) (by decide) (by omega)
    | 1, _ => exact s15v m 6 (0) (0) 3 (0) 3 (0) (0) (by decide) (by omega) (by decide) (by omega) (by decide) (by simp [mx, oT, oX]; try omega) (by simp [my, oT, oY]; try omega) (by decide) (by omega)
    | 2, _ => exact s15v m 3 (0) (0) 3 (u) 6 (u) (u) (by decide) (by omega) (by decide) (by omega) (by decide) (by simp [mx, oT, oX]; try omega) (by simp [my, oT, oY]; try omega) (by decide) (by omega)
    | 3, _ => exact s15v m 6 (u) (u) 4 (v) 1 (u - v) (u + v) (by decide) (by omega) (by decide) (by omega) (by decide) (by simp [mx, oT, oX]; try omega) (by simp [my, oT, oY]; try omega) (by decide) (by omega)
    | 4, _ => exact s15v m 1 (u - v) (u + v) 4 (0) 6 (x) (y) (by decide) (by omega) (by decide) (by omega) (by decide) (by simp [mx, oT, oX]; try omega) (by simp [my, oT, oY]; try omega) (by decide) (by omega)
  rotate_left
  rename_i b1 b3 d0 d1 d2 d3 d4 d5 d6 d7 d8 d9 d10 d11 d12
  refine loop7 (Ob := ⟨b3, true, .cells [.int .u8 7, .int .i64 x, .int .i64 y]⟩ :: O) (fun i => [(0, 0, 0), (7, 0, 0), (2, 0, 0), (7, u, u), (0, u - v, u + v), (7, x, y)].getD i (0, 0, 0)) (fun i => [(4, 0), (3, 0), (3, u), (4, v), (4, 0)].getD i (0, 0)) (len := 5) (by decide) ⟨rfl, rfl, rfl, rfl, trivial⟩
    (by refine List.Sublist.cons_cons _ (List.Sublist.cons_cons _ ?_); repeat (first | exact List.Sublist.refl _ | refine List.Sublist.cons_cons _ ?_ | refine List.Sublist.cons _ ?_)) ?_ ?_ ?_ ?_
  · intro i hi
    match i, hi with
    | 0, _ | 1, _ | 2, _ | 3, _ | 4, _ => rfl
  · intro i hi
    match i, hi with
    | 0, _ => exact lv 4 (0) (by decide) (by omega)
    | 1, _ => exact lv 3 (0) (by decide) (by omega)
    | 2, _ => exact lv 3 (u) (by decide) (by omega)
    | 3, _ => exact lv 4 (v) (by decide) (by omega)
    | 4, _ => exact lv 4 (0) (by decide) (by omega)
  · intro i hi m
    match i, hi with
    | 0, _ => exact s15v m 0 (0) (0) 4 (0) 7 (0) (0) (by decide) (by omega) (by decide) (by omega) (by decide) (by simp [mx, oT, oX]; try omega) (by simp [my, oT, oY]; try omega) (by decide) (by omega)
    | 1, _ => exact s15v m 7 (0) (0) 3 (0) 2 (0) (0) (by decide) (by omega) (by decide) (by omega) (by decide) (by simp [mx, oT, oX]; try omega) (by simp [my, oT, oY]; try omega) (by decide) (by omega)
    | 2, _ => exact s15v m 2 (0) (0) 3 (u) 7 (u) (u) (by decide) (by omega) (by decide) (by omega) (by decide) (by simp [mx, oT, oX]; try omega) (by simp [my, oT, oY]; try omega) (by decide) (by omega)
    | 3, _ => exact s15v m 7 (u) (u) 4 (v) 0 (u - v) (u + v) (by decide) (by omega) (by decide) (by omega) (by decide) (by simp [mx, oT, oX]; try omega) (by simp [my, oT, oY]; try omega) (by decide) (by omega)
    | 4, _ => exact s15v m 0 (u - v) (u + v) 4 (0) 7 (x) (y) (by decide) (by omega) (by decide) (by omega) (by decide) (by simp [mx, oT, oX]; try omega) (by simp [my, oT, oY]; try omega) (by decide) (by omega)
  rotate_left
  repeat' (first
    | (refine A_p ?_; first | refine D_mov rfl ?_ | refine D_fad rfl ?_ | (refine A_bin ?_; first | refine D_add rfl rfl (by simp only [inR]; omega) ?_ | refine D_sub rfl rfl (by simp only [inR]; omega) ?_ | refine D_mul rfl rfl (by simp only [inR]; omega) ?_ | refine D_eql rfl rfl ?_ | refine D_lss rfl rfl ?_ | refine D_neq rfl rfl ?_ | refine D_gtr rfl rfl ?_ | refine D_leq rfl rfl ?_ | refine D_geq rfl rfl ?_ | refine D_eqlS rfl rfl ?_ | refine D_neqS rfl rfl ?_) | refine D_ext rfl rfl ?_ | refine D_pick_t rfl rfl ?_ | refine D_pick_f rfl rfl ?_ | refine D_cvi rfl (by simp only [inR]; omega) ?_ | refine D_neg rfl (by simp only [inR]; omega) ?_ | (refine D_build ?_; show WO _ _ _ _ _ _ _) | (refine D_eqf rfl rfl rfl ?_; show WO _ _ _ _ _ _ _) | (refine D_neqf rfl rfl rfl ?_; show WO _ _ _ _ _ _ _) | refine D_not_dec rfl ?_ | refine D_not rfl ?_ | refine D_len rfl ?_ | refine D_len_nil rfl ?_ | refine D_lenS rfl ?_ | refine D_lenc ?_ | refine D_cap rfl ?_ | refine D_iadA rfl rfl (by omega) (by omega) ?_ | (refine D_fld rfl ?_; show WO _ _ _ _ _ _ _) | refine D_min rfl rfl ?_ | refine D_max rfl rfl ?_ | refine D_eqn rfl rfl rfl ?_ | refine D_mkif rfl ?_ | refine D_mkfn rfl rfl ?_ | refine D_cvs rfl ?_ | refine D_nilck rfl ?_)
    | (refine A_h ?_; first | (refine A_load ?_; first | (refine D_load rfl (by repeat (first | exact Has.here | refine Has.there ?_)) ?_; show WO _ _ _ _ _ _ _)) | (refine A_call ?_; first | refine D_callV rfl (s14 _) ?_) | (refine D_box_agg rfl ?_; intro _b) | (refine D_box rfl ?_ rfl; intro _b) | (refine D_store rfl rfl (by repeat (first | exact At.here | apply At.there)) rfl rfl ?_; show WO _ _ _ _ _ _ _) | (refine D_alloc ?_; intro _b))
    | (refine A_g ?_; first | refine G_do rfl ?_ | refine G_no rfl ?_ | refine G_skip rfl ?_ | (refine WO_guard_dec rfl ?_ ?_ <;> intro h <;> try (exfalso; omega)) | (refine WO_guard rfl ?_ ?_ <;> intro h <;> try (simp at h; done)))
    | refine WO_nil ?_
    | (refine A_seq ?_; first | refine C_reg ?_ | refine C_assoc ?_ | refine C_if_t rfl ?_ | refine C_if_f rfl ?_ | (refine C_if_dec rfl ?_ ?_ <;> intro h <;> try (exfalso; omega)) | (refine C_if rfl ?_ ?_ <;> intro h <;> try (simp at h; done)) | refine C_ret ?_ | refine C_skip ?_ | refine C_exit ?_ | refine C_block ?_)
    | refine W_ret ?_
    | refine W_region ?_
    | refine W_exit ?_
    | refine W_skip ?_
    | refine W_if_t rfl ?_
    | refine W_if_f rfl ?_
    | (refine W_if_dec rfl ?_ ?_ <;> intro h <;> try (exfalso; omega))
    | (refine W_if rfl ?_ ?_ <;> intro h <;> try (simp at h; done))
    | refine R_t rfl (by repeat (first | exact List.Sublist.refl _ | refine List.Sublist.cons _ ?_)) ?_
    | refine R_ct rfl (by repeat (first | exact Has.here | refine Has.there ?_)) rfl rfl (by repeat (first | exact List.Sublist.refl _ | refine List.Sublist.cons _ ?_)) ?_
    | refine R_tt rfl rfl (by repeat (first | exact List.Sublist.refl _ | refine List.Sublist.cons _ ?_)) ?_
    | refine R_c rfl (by repeat (first | exact Has.here | refine Has.there ?_)) rfl (by repeat (first | exact List.Sublist.refl _ | refine List.Sublist.cons _ ?_)) ?_
    | refine R_cc rfl (by repeat (first | exact Has.here | refine Has.there ?_)) rfl rfl (by repeat (first | exact Has.here | refine Has.there ?_)) rfl (by repeat (first | exact List.Sublist.refl _ | refine List.Sublist.cons _ ?_)) ?_)
  all_goals first | rfl | (exfalso; simp at h; done)
theorem s7 (n : Nat) (r a b : Int) (hr : 0 ≤ r ∧ r ≤ 255) (ha : -128 ≤ a ∧ a ≤ 127) (hb : -128 ≤ b ∧ b ≤ 127) : SV (n+6) 7 [rawA r a b] (.bool true) := by
  have A := sm_of hr ha hb
  have c27 := fun m => s27 m r a b hr ha hb
  generalize r % 8 = t at A c27
  generalize tY a b = y at A c27
  have ht := sm_t A
  obtain ⟨_, _, x1, x2, y1, y2, e⟩ := A
  obtain ⟨u, hu⟩ : ∃ u, a + y = 2 * u := ⟨(a + y) / 2, by omega⟩
  obtain ⟨v, hv⟩ : ∃ v, a - y = 2 * v := ⟨(a - y) / 2, by omega⟩
  exact s7t n t r a b a y u v ht c27 ⟨x1, x2⟩ ⟨y1, y2⟩ hu hv
end Vm
end Go.Proofs.YtgncjbodicabnaaDoor

