/-
  Parts of a proof.
-/
import Derived.Test.YtgncjbodicabnaaDoorMkE
set_option linter.unusedSimpArgs false
set_option linter.unusedVariables false

namespace Go.Proofs.YtgncjbodicabnaaDoor
namespace Vm
variable {mL : Int}
open Go Go.Vm Go.Vm.W
set_option maxRecDepth 100000
attribute [local irreducible] W WO SpecQ runM

/-- A small move. -/
def sm (M t x y : Int) : Prop := 0 ≤ t ∧ t ≤ 7 ∧ -M ≤ x ∧ x ≤ M ∧ -M ≤ y ∧ y ≤ M ∧ (x + y) % 2 = 0
theorem sm_vm {M t x y : Int} (h : sm M t x y) (hM : M ≤ 16384) : vm t x y := by
  obtain ⟨h1, h2, h3, h4, h5, h6, h7⟩ := h
  exact ⟨h2, by omega, by omega, by omega, by omega, h7⟩
theorem sm_t {M t x y : Int} (h : sm M t x y) : 0 ≤ t ∧ t ≤ 7 := ⟨h.1, h.2.1⟩
theorem sm_then {M N t x y s a b : Int} (h : sm M t x y) (k : sm N s a b) : sm (M + N) (cmp t s) (mx s x y + a) (my s x y + b) := by
  obtain ⟨h1, h2, h3, h4, h5, h6, h7⟩ := h
  obtain ⟨k1, k2, k3, k4, k5, k6, k7⟩ := k
  have c := cmp_in (t := t) (s := s) ⟨h1, h2⟩ ⟨k1, k2⟩
  have d1 := mx_bd (t := s) ⟨k1, k2⟩ (M := M) ⟨h3, h4⟩ ⟨h5, h6⟩
  have d2 := my_bd (t := s) ⟨k1, k2⟩ (M := M) ⟨h3, h4⟩ ⟨h5, h6⟩
  have d3 := mxy_even (t := s) ⟨k1, k2⟩ x y
  exact ⟨c.1, c.2, by omega, by omega, by omega, by omega, by omega⟩
def tY (a b : Int) : Int := if (a + b) % 2 = 0 then b else b + 1
abbrev rawA (t a b : Int) : AV := .agg [.int .u8 t, .int .i8 a, .int .i8 b]
theorem sm_of {t a b : Int} (ht : 0 ≤ t ∧ t ≤ 255) (ha : -128 ≤ a ∧ a ≤ 127) (hb : -128 ≤ b ∧ b ≤ 127) : sm 128 (t % 8) a (tY a b) := by
  unfold tY
  split <;> exact ⟨by omega, by omega, by omega, by omega, by omega, by omega, by omega⟩
set_option maxHeartbeats 1000000 in
theorem s27 (n : Nat) (t a b : Int) (ht : 0 ≤ t ∧ t ≤ 255) (ha : -128 ≤ a ∧ a ≤ 127) (hb : -128 ≤ b ∧ b ≤ 127) : SV mL (n+1) 27 [rawA t a b] (mvA (t % 8) a (tY a b)) := by
  by_cases h2 : (a + b) % 2 = 0
  · have e : (a + b).tmod 2 = 0 := (tmod2 _).2 h2
    unfold tY
    rw [if_pos h2]
    refine SpecQ_run (c := k27) rfl rfl rfl ?_
    intro ro O _
    unfold k27
    repeat' (first
      | (refine A_p ?_; first | refine D_fad rfl ?_ | (refine A_bin ?_; first | refine D_rem rfl rfl (by omega) (by omega) ?_ | refine D_tmodE e rfl rfl (by simp) ?_ | refine D_add rfl rfl (by simp only [inR]; omega) ?_ | refine D_neq rfl rfl ?_) | refine D_cvi rfl (by simp only [inR]; omega) ?_ | (refine D_build ?_; show WO _ _ _ _ _ _ _))
      | (refine A_h ?_; first | (refine A_load ?_; first | (refine D_load rfl (by repeat (first | exact Has.here | refine Has.there ?_)) ?_; show WO _ _ _ _ _ _ _)) | (refine D_box_agg rfl ?_; intro _b) | (refine D_box rfl ?_ rfl; intro _b) | (refine D_store rfl rfl (by repeat (first | exact At.here | apply At.there)) rfl rfl ?_; show WO _ _ _ _ _ _ _) | (refine D_alloc ?_; intro _b))
      | refine WO_nil ?_
      | (refine A_seq ?_; first | refine C_reg ?_ | refine C_assoc ?_ | refine C_if_t rfl ?_ | refine C_if_f rfl ?_ | (refine C_if_dec rfl ?_ ?_ <;> intro h <;> try (exfalso; omega)) | refine C_ret ?_ | refine C_skip ?_)
      | refine W_ret ?_
      | refine W_region ?_
      | refine W_skip ?_
      | refine W_if_t rfl ?_
      | refine W_if_f rfl ?_
      | (refine W_if_dec rfl ?_ ?_ <;> intro h <;> try (exfalso; omega))
      | refine R_c rfl (by repeat (first | exact Has.here | refine Has.there ?_)) rfl (by repeat (first | exact List.Sublist.refl _ | refine List.Sublist.cons _ ?_)) ?_)
    all_goals first | rfl | (exfalso; omega)
  · obtain ⟨c, e⟩ : ∃ c, (a + b).tmod 2 = c := ⟨_, rfl⟩
    have hc : c ≠ 0 := fun h0 => h2 ((tmod2 _).1 (e.trans h0))
    unfold tY
    rw [if_neg h2]
    refine SpecQ_run (c := k27) rfl rfl rfl ?_
    intro ro O _
    unfold k27
    clear h2
    repeat' (first
      | (refine A_p ?_; first | refine D_fad rfl ?_ | (refine A_bin ?_; first | refine D_rem rfl rfl (by omega) (by omega) ?_ | refine D_tmodE e rfl rfl (by simp) ?_ | refine D_add rfl rfl (by simp only [inR]; omega) ?_ | refine D_neq rfl rfl ?_) | refine D_cvi rfl (by simp only [inR]; omega) ?_ | (refine D_build ?_; show WO _ _ _ _ _ _ _))
      | (refine A_h ?_; first | (refine A_load ?_; first | (refine D_load rfl (by repeat (first | exact Has.here | refine Has.there ?_)) ?_; show WO _ _ _ _ _ _ _)) | (refine D_box_agg rfl ?_; intro _b) | (refine D_box rfl ?_ rfl; intro _b) | (refine D_store rfl rfl (by repeat (first | exact At.here | apply At.there)) rfl rfl ?_; show WO _ _ _ _ _ _ _) | (refine D_alloc ?_; intro _b))
      | refine WO_nil ?_
      | (refine A_seq ?_; first | refine C_reg ?_ | refine C_assoc ?_ | refine C_if_t rfl ?_ | refine C_if_f rfl ?_ | (refine C_if_dec rfl ?_ ?_ <;> intro h <;> try (exfalso; omega)) | refine C_ret ?_ | refine C_skip ?_)
      | refine W_ret ?_
      | refine W_region ?_
      | refine W_skip ?_
      | refine W_if_t rfl ?_
      | refine W_if_f rfl ?_
      | (refine W_if_dec rfl ?_ ?_ <;> intro h <;> try (exfalso; omega))
      | refine R_c rfl (by repeat (first | exact Has.here | refine Has.there ?_)) rfl (by repeat (first | exact List.Sublist.refl _ | refine List.Sublist.cons _ ?_)) ?_)
    all_goals first | rfl | (exfalso; omega)
end Vm
end Go.Proofs.YtgncjbodicabnaaDoor

namespace Go.Proofs.YtgncjbodicabnaaDoor
namespace Vm
variable {mL : Int}
open Go Go.Vm Go.Vm.W
set_option maxRecDepth 100000
attribute [local irreducible] W WO SpecQ runM

theorem s15s {M N : Int} (n : Nat) (t x y s a b : Int) (h : sm M t x y) (k : sm N s a b) (hM : 0 ≤ M) (hN : 0 ≤ N) (hs : M + N ≤ 16384) : SV mL (n+4) 15 [mvA t x y, mvA s a b] (.tup [mvA (cmp t s) (mx s x y + a) (my s x y + b), .int .i64 0]) :=
  s15a n t x y s a b h.1 (sm_vm h (by omega)) k.1 (sm_vm k (by omega)) (sm_vm (sm_then h k) hs)
theorem cmp_assoc {t s u : Int} (ht : 0 ≤ t ∧ t ≤ 7) (hs : 0 ≤ s ∧ s ≤ 7) (hu : 0 ≤ u ∧ u ≤ 7) : cmp t (cmp s u) = cmp (cmp t s) u := by
  have h1 := cmp_in ht hs
  have h2 := cmp_in hs hu
  apply mat_inj (cmp_in ht h2) (cmp_in h1 hu)
  · rw [cmp_mx ht h2, cmp_mx h1 hu, cmp_mx ht hs, cmp_my ht hs, cmp_mx hs hu]
  · rw [cmp_mx ht h2, cmp_mx h1 hu, cmp_mx ht hs, cmp_my ht hs, cmp_mx hs hu]
  · rw [cmp_my ht h2, cmp_my h1 hu, cmp_mx ht hs, cmp_my ht hs, cmp_my hs hu]
  · rw [cmp_my ht h2, cmp_my h1 hu, cmp_mx ht hs, cmp_my ht hs, cmp_my hs hu]
theorem mx_plus {t : Int} (ht : 0 ≤ t ∧ t ≤ 7) (p q x y : Int) : mx t (p + x) (q + y) = mx t p q + mx t x y := by
  rcases eight ht with rfl | rfl | rfl | rfl | rfl | rfl | rfl | rfl <;> simp [mx] <;> omega
theorem my_plus {t : Int} (ht : 0 ≤ t ∧ t ≤ 7) (p q x y : Int) : my t (p + x) (q + y) = my t p q + my t x y := by
  rcases eight ht with rfl | rfl | rfl | rfl | rfl | rfl | rfl | rfl <;> simp [my] <;> omega

section
variable {ta xa ya tb xb yb tc xc yc : Int}
theorem two_eq (ha : 0 ≤ ta ∧ ta ≤ 7) (hb : 0 ≤ tb ∧ tb ≤ 7) (hc : 0 ≤ tc ∧ tc ≤ 7) :
    mvA (cmp ta (cmp tb tc)) (mx (cmp tb tc) xa ya + (mx tc xb yb + xc)) (my (cmp tb tc) xa ya + (my tc xb yb + yc)) = mvA (cmp (cmp ta tb) tc) (mx tc (mx tb xa ya + xb) (my tb xa ya + yb) + xc) (my tc (mx tb xa ya + xb) (my tb xa ya + yb) + yc) := by
  rw [cmp_assoc ha hb hc, cmp_mx hb hc, cmp_my hb hc, mx_plus hc, my_plus hc, Int.add_assoc, Int.add_assoc]
theorem end_eq (ha : 0 ≤ ta ∧ ta ≤ 7) (hb : 0 ≤ tb ∧ tb ≤ 7) (hc : 0 ≤ tc ∧ tc ≤ 7) (p q : Int) :
    mx (cmp (cmp ta tb) tc) p q + 2 * (mx tc (mx tb xa ya + xb) (my tb xa ya + yb) + xc) = mx tc (mx tb (mx ta p q + 2 * xa) (my ta p q + 2 * ya) + 2 * xb) (my tb (mx ta p q + 2 * xa) (my ta p q + 2 * ya) + 2 * yb) + 2 * xc ∧
    my (cmp (cmp ta tb) tc) p q + 2 * (my tc (mx tb xa ya + xb) (my tb xa ya + yb) + yc) = my tc (mx tb (mx ta p q + 2 * xa) (my ta p q + 2 * ya) + 2 * xb) (my tb (mx ta p q + 2 * xa) (my ta p q + 2 * ya) + 2 * yb) + 2 * yc := by
  have h1 := cmp_in ha hb
  rw [cmp_mx h1 hc, cmp_my h1 hc, cmp_mx ha hb, cmp_my ha hb, mx_add hc, my_add hc, mx_add hb, my_add hb, mx_add hc, my_add hc, mx_plus hc, my_plus hc]
  constructor <;> omega
end

set_option maxHeartbeats 4000000 in
theorem s6 (n : Nat) (t1 a1 b1 t2 a2 b2' t3 a3 b3' p q : Int) (h1 : 0 ≤ t1 ∧ t1 ≤ 255) (ha1 : -128 ≤ a1 ∧ a1 ≤ 127) (hb1 : -128 ≤ b1 ∧ b1 ≤ 127) (h2 : 0 ≤ t2 ∧ t2 ≤ 255) (ha2 : -128 ≤ a2 ∧ a2 ≤ 127) (hb2 : -128 ≤ b2' ∧ b2' ≤ 127)
    (h3 : 0 ≤ t3 ∧ t3 ≤ 255) (ha3 : -128 ≤ a3 ∧ a3 ≤ 127) (hb3 : -128 ≤ b3' ∧ b3' ≤ 127) (hp : -128 ≤ p ∧ p ≤ 127) (hq : -128 ≤ q ∧ q ≤ 127) :
    SV mL (n+6) 6 [.agg [.int .u8 t1, .int .i8 a1, .int .i8 b1, .int .u8 t2, .int .i8 a2, .int .i8 b2', .int .u8 t3, .int .i8 a3, .int .i8 b3'], .agg [.int .i8 p, .int .i8 q]] (.bool true) := by
  have A := sm_of h1 ha1 hb1
  have B := sm_of h2 ha2 hb2
  have C := sm_of h3 ha3 hb3
  have c27a := fun m => s27 (mL := mL) m t1 a1 b1 h1 ha1 hb1
  have c27b := fun m => s27 (mL := mL) m t2 a2 b2' h2 ha2 hb2
  have c27c := fun m => s27 (mL := mL) m t3 a3 b3' h3 ha3 hb3
  generalize t1 % 8 = ta at *
  generalize t2 % 8 = tb at *
  generalize t3 % 8 = tc at *
  generalize tY a1 b1 = ya at *
  generalize tY a2 b2' = yb at *
  generalize tY a3 b3' = yc at *
  have hta := sm_t A
  have htb := sm_t B
  have htc := sm_t C
  have AB := sm_then A B
  have BC := sm_then B C
  have ABC := sm_then AB C
  have e2 := two_eq (xa := a1) (ya := ya) (xb := a2) (yb := yb) (xc := a3) (yc := yc) hta htb htc
  have ee := end_eq (xa := a1) (ya := ya) (xb := a2) (yb := yb) (xc := a3) (yc := yc) hta htb htc p q
  have c15t : ∀ m, SV mL (m+4) 15 [mvA ta a1 ya, mvA (cmp tb tc) (mx tc a2 yb + a3) (my tc a2 yb + yc)] (.tup [mvA (cmp (cmp ta tb) tc) (mx tc (mx tb a1 ya + a2) (my tb a1 ya + yb) + a3) (my tc (mx tb a1 ya + a2) (my tb a1 ya + yb) + yc), .int .i64 0]) := fun m => by
    have := s15s (mL := mL) m ta a1 ya (cmp tb tc) (mx tc a2 yb + a3) (my tc a2 yb + yc) A BC (by omega) (by omega) (by omega)
    rw [e2] at this
    exact this
  -- the points on the way
  obtain ⟨x1, hx1⟩ : ∃ z, mx ta p q + 2 * a1 = z := ⟨_, rfl⟩
  obtain ⟨y1, hy1⟩ : ∃ z, my ta p q + 2 * ya = z := ⟨_, rfl⟩
  have d1 := mx_bd hta (M := 128) (x := p) (y := q) (by omega) (by omega)
  have d2 := my_bd hta (M := 128) (x := p) (y := q) (by omega) (by omega)
  have ba := A.2.2
  have bb := B.2.2
  have bc := C.2.2
  have c18a : ∀ m, SV mL (m+3) 18 [mvA ta a1 ya, ptA p q] (.tup [ptA x1 y1, .int .i64 0]) := fun m => by
    have := s18 (mL := mL) m ta a1 ya p q hta.1 (sm_vm A (by omega)) ⟨by omega, by omega, by omega, by omega⟩ (by rw [hx1, hy1]; exact ⟨by omega, by omega, by omega, by omega⟩)
    rw [hx1, hy1] at this
    exact this
  have g1 : -400 ≤ x1 ∧ x1 ≤ 400 := by omega
  have g2 : -400 ≤ y1 ∧ y1 ≤ 400 := by omega
  rw [hx1, hy1] at ee
  clear hx1 hy1 d1 d2
  obtain ⟨x2, hx2⟩ : ∃ z, mx tb x1 y1 + 2 * a2 = z := ⟨_, rfl⟩
  obtain ⟨y2, hy2⟩ : ∃ z, my tb x1 y1 + 2 * yb = z := ⟨_, rfl⟩
  have d1 := mx_bd htb (M := 400) (x := x1) (y := y1) g1 g2
  have d2 := my_bd htb (M := 400) (x := x1) (y := y1) g1 g2
  have c18b : ∀ m, SV mL (m+3) 18 [mvA tb a2 yb, ptA x1 y1] (.tup [ptA x2 y2, .int .i64 0]) := fun m => by
    have := s18 (mL := mL) m tb a2 yb x1 y1 htb.1 (sm_vm B (by omega)) ⟨by omega, by omega, by omega, by omega⟩ (by rw [hx2, hy2]; exact ⟨by omega, by omega, by omega, by omega⟩)
    rw [hx2, hy2] at this
    exact this
  have g3 : -700 ≤ x2 ∧ x2 ≤ 700 := by omega
  have g4 : -700 ≤ y2 ∧ y2 ≤ 700 := by omega
  rw [hx2, hy2] at ee
  clear hx2 hy2 d1 d2
  obtain ⟨x3, hx3⟩ : ∃ z, mx tc x2 y2 + 2 * a3 = z := ⟨_, rfl⟩
  obtain ⟨y3, hy3⟩ : ∃ z, my tc x2 y2 + 2 * yc = z := ⟨_, rfl⟩
  have d1 := mx_bd htc (M := 700) (x := x2) (y := y2) g3 g4
  have d2 := my_bd htc (M := 700) (x := x2) (y := y2) g3 g4
  have c18c : ∀ m, SV mL (m+3) 18 [mvA tc a3 yc, ptA x2 y2] (.tup [ptA x3 y3, .int .i64 0]) := fun m => by
    have := s18 (mL := mL) m tc a3 yc x2 y2 htc.1 (sm_vm C (by omega)) ⟨by omega, by omega, by omega, by omega⟩ (by rw [hx3, hy3]; exact ⟨by omega, by omega, by omega, by omega⟩)
    rw [hx3, hy3] at this
    exact this
  rw [hx3, hy3] at ee
  have c18e : ∀ m, SV mL (m+3) 18 [mvA (cmp (cmp ta tb) tc) (mx tc (mx tb a1 ya + a2) (my tb a1 ya + yb) + a3) (my tc (mx tb a1 ya + a2) (my tb a1 ya + yb) + yc), ptA p q] (.tup [ptA x3 y3, .int .i64 0]) := fun m => by
    have := s18 (mL := mL) m _ _ _ p q ABC.1 (sm_vm ABC (by omega)) ⟨by omega, by omega, by omega, by omega⟩ (by rw [ee.1, ee.2]; exact ⟨by omega, by omega, by omega, by omega⟩)
    rw [ee.1, ee.2] at this
    exact this
  have c15a : ∀ m, SV mL (m+4) 15 [mvA ta a1 ya, mvA tb a2 yb] _ := fun m => s15s m ta a1 ya tb a2 yb A B (by omega) (by omega) (by omega)
  have c15b : ∀ m, SV mL (m+4) 15 [mvA tb a2 yb, mvA tc a3 yc] _ := fun m => s15s m tb a2 yb tc a3 yc B C (by omega) (by omega) (by omega)
  have c15c : ∀ m, SV mL (m+4) 15 [mvA (cmp ta tb) (mx tb a1 ya + a2) (my tb a1 ya + yb), mvA tc a3 yc] _ := fun m => s15s m _ _ _ tc a3 yc AB C (by omega) (by omega) (by omega)
  clear hx3 hy3 d1 d2 ee e2 ABC AB BC
  refine SpecQ_run (c := k6) rfl rfl rfl ?_
  intro ro O _
  unfold k6
  repeat' (first
    | (refine A_p ?_; first | refine D_mov rfl ?_ | (refine A_bin ?_; first | refine D_add rfl rfl (by simp only [inR]; omega) ?_ | refine D_eql rfl rfl ?_ | refine D_lss rfl rfl ?_ | refine D_neq rfl rfl ?_) | refine D_ext rfl rfl ?_ | refine D_pick_t rfl rfl ?_ | refine D_pick_f rfl rfl ?_ | refine D_cvi rfl (by simp only [inR]; omega) ?_ | (refine D_build ?_; show WO _ _ _ _ _ _ _) | (refine D_eqf rfl rfl rfl ?_; show WO _ _ _ _ _ _ _) | (refine D_neqf rfl rfl rfl ?_; show WO _ _ _ _ _ _ _) | refine D_iadA rfl rfl (by omega) (by omega) ?_)
    | (refine A_h ?_; first | (refine A_load ?_; first | (refine D_load rfl (by repeat (first | exact Has.here | refine Has.there ?_)) ?_; show WO _ _ _ _ _ _ _)) | (refine A_call ?_; first | refine D_callV rfl (s14 _) ?_ | refine D_callV rfl (c27a _) ?_ | refine D_callV rfl (c27b _) ?_ | refine D_callV rfl (c27c _) ?_ | refine D_callV rfl (c15a _) ?_ | refine D_callV rfl (c15b _) ?_ | refine D_callV rfl (c15c _) ?_ | refine D_callV rfl (c15t _) ?_ | refine D_callV rfl (c18e _) ?_) | (refine D_box_agg rfl ?_; intro _b) | (refine D_box rfl ?_ rfl; intro _b) | (refine D_store rfl rfl (by repeat (first | exact At.here | apply At.there)) rfl rfl ?_; show WO _ _ _ _ _ _ _) | (refine D_alloc ?_; intro _b))
    | (refine A_g ?_; first | refine G_do rfl ?_ | refine G_no rfl ?_ | refine G_skip rfl ?_ | (refine WO_guard_dec rfl ?_ ?_ <;> intro h <;> try (exfalso; omega)) | (refine WO_guard rfl ?_ ?_ <;> intro h <;> try (simp at h; done)))
    | refine WO_nil ?_
    | (refine A_seq ?_; first | refine C_reg ?_ | refine C_assoc ?_ | refine C_if_t rfl ?_ | refine C_if_f rfl ?_ | (refine C_if_dec rfl ?_ ?_ <;> intro h <;> try (exfalso; omega)) | (refine C_if rfl ?_ ?_ <;> intro h <;> try (simp at h; done)) | refine C_ret ?_ | refine C_skip ?_ | refine C_exit ?_ | refine C_block ?_)
    | refine W_ret ?_
    | refine W_region ?_
    | refine W_exit ?_
    | refine W_skip ?_
    | refine W_if_t rfl ?_
    | refine W_if_f rfl ?_
    | (refine W_if_dec rfl ?_ ?_ <;> intro h <;> try (exfalso; omega))
    | (refine W_if rfl ?_ ?_ <;> intro h <;> try (simp at h; done))
    | refine R_t rfl (by repeat (first | exact List.Sublist.refl _ | refine List.Sublist.cons _ ?_)) ?_)
  rename_i b2 b3 b5 b6 b7 b8 b10 b12 b14 b16
  refine W_loop (σ := Int × Int × Int) (fun s => [(19, .int .i64 s.1), (2, .ptr b2 0), (16, .ptr b16 0), (17, .ptr _b 0), (18, .int .i64 0)])
    (fun s => ⟨_b, true, .cells [.int .i64 x3, .int .i64 y3]⟩ :: ⟨b16, true, .cells [.int .i64 s.2.1, .int .i64 s.2.2]⟩ :: ⟨b2, true, .cells [.int .u8 t1, .int .i8 a1, .int .i8 b1, .int .u8 t2, .int .i8 a2, .int .i8 b2', .int .u8 t3, .int .i8 a3, .int .i8 b3']⟩ :: O)
    (fun s => s = (0, p, q) ∨ s = (1, x1, y1) ∨ s = (2, x2, y2) ∨ s = (3, x3, y3)) (fun s => (3 - s.1).toNat) (0, p, q) ⟨rfl, rfl, rfl, rfl, rfl, trivial⟩ (by refine List.Sublist.cons_cons _ (List.Sublist.cons_cons _ ?_); repeat (first | exact List.Sublist.refl _ | refine List.Sublist.cons _ ?_)) (Or.inl rfl) (by show (3 - (0 : Int)).toNat < fuel; simp [fuel]) ?_
  rintro s (rfl | rfl | rfl | rfl)
  repeat' (first
    | (refine A_p ?_; first | refine D_mov rfl ?_ | (refine A_bin ?_; first | refine D_add rfl rfl (by simp only [inR]; omega) ?_ | refine D_eql rfl rfl ?_ | refine D_lss rfl rfl ?_ | refine D_neq rfl rfl ?_) | refine D_ext rfl rfl ?_ | refine D_pick_t rfl rfl ?_ | refine D_pick_f rfl rfl ?_ | refine D_cvi rfl (by simp only [inR]; omega) ?_ | (refine D_build ?_; show WO _ _ _ _ _ _ _) | (refine D_eqf rfl rfl rfl ?_; show WO _ _ _ _ _ _ _) | (refine D_neqf rfl rfl rfl ?_; show WO _ _ _ _ _ _ _) | refine D_iadA rfl rfl (by omega) (by omega) ?_)
    | (refine A_h ?_; first | (refine A_load ?_; first | (refine D_load rfl (by repeat (first | exact Has.here | refine Has.there ?_)) ?_; show WO _ _ _ _ _ _ _)) | (refine A_call ?_; first | refine D_callV rfl (s14 _) ?_ | refine D_callV rfl (c27a _) ?_ | refine D_callV rfl (c27b _) ?_ | refine D_callV rfl (c27c _) ?_ | refine D_callV rfl (c18a _) ?_ | refine D_callV rfl (c18b _) ?_ | refine D_callV rfl (c18c _) ?_) | (refine D_box_agg rfl ?_; intro _b) | (refine D_box rfl ?_ rfl; intro _b) | (refine D_store rfl rfl (by repeat (first | exact At.here | apply At.there)) rfl rfl ?_; show WO _ _ _ _ _ _ _) | (refine D_alloc ?_; intro _b))
    | (refine A_g ?_; first | refine G_do rfl ?_ | refine G_no rfl ?_ | refine G_skip rfl ?_ | (refine WO_guard_dec rfl ?_ ?_ <;> intro h <;> try (exfalso; omega)) | (refine WO_guard rfl ?_ ?_ <;> intro h <;> try (simp at h; done)))
    | refine WO_nil ?_
    | (refine A_seq ?_; first | refine C_reg ?_ | refine C_assoc ?_ | refine C_if_t rfl ?_ | refine C_if_f rfl ?_ | (refine C_if_dec rfl ?_ ?_ <;> intro h <;> try (exfalso; omega)) | (refine C_if rfl ?_ ?_ <;> intro h <;> try (simp at h; done)) | refine C_ret ?_ | refine C_skip ?_ | refine C_exit ?_ | refine C_block ?_)
    | refine W_ret ?_
    | refine W_region ?_
    | refine W_exit ?_
    | refine W_skip ?_
    | refine W_if_t rfl ?_
    | refine W_if_f rfl ?_
    | (refine W_if_dec rfl ?_ ?_ <;> intro h <;> try (exfalso; omega))
    | (refine W_if rfl ?_ ?_ <;> intro h <;> try (simp at h; done))
    | refine R_t rfl (by repeat (first | exact List.Sublist.refl _ | refine List.Sublist.cons _ ?_)) ?_)
  · exact ⟨(1, x1, y1), ⟨rfl, rfl, rfl, rfl, rfl, trivial⟩, by repeat (first | exact List.Sublist.refl _ | refine List.Sublist.cons _ ?_), Or.inr (Or.inl rfl), by show (3 - (1 : Int)).toNat < (3 - (0 : Int)).toNat; decide⟩
  · exact ⟨(2, x2, y2), ⟨rfl, rfl, rfl, rfl, rfl, trivial⟩, by repeat (first | exact List.Sublist.refl _ | refine List.Sublist.cons _ ?_), Or.inr (Or.inr (Or.inl rfl)), by show (3 - (2 : Int)).toNat < (3 - (1 : Int)).toNat; decide⟩
  · exact ⟨(3, x3, y3), ⟨rfl, rfl, rfl, rfl, rfl, trivial⟩, by repeat (first | exact List.Sublist.refl _ | refine List.Sublist.cons _ ?_), Or.inr (Or.inr (Or.inr rfl)), by show (3 - (3 : Int)).toNat < (3 - (2 : Int)).toNat; decide⟩
  all_goals first | rfl | (exfalso; simp at *; done)
end Vm
end Go.Proofs.YtgncjbodicabnaaDoor

