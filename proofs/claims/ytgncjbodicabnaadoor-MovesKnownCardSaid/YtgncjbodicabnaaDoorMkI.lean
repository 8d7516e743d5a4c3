/-
  Parts of a proof.
-/
import Derived.Test.YtgncjbodicabnaaDoorMkF
import Derived.Test.YtgncjbodicabnaaDoorVmWJ
set_option linter.unusedSimpArgs false
set_option linter.unusedVariables false

namespace Go.Proofs.YtgncjbodicabnaaDoor
namespace Vm
variable {mL : Int}
open Go Go.Vm Go.Vm.W
set_option maxRecDepth 100000
attribute [local irreducible] W WO SpecQ runM

def aX (k : Int) : Int := if k = 1 then 1 else if k = 2 then 0 else if k = 3 then 1 else -1
def aY (k : Int) : Int := if k = 1 then 0 else 1
theorem tup2_eq {a b c d a' b' c' d' : Int} (h1 : a = a') (h2 : b = b') (h3 : c = c') (h4 : d = d') : AV.tup [ptA a b, ptA c d] = AV.tup [ptA a' b', ptA c' d'] := by rw [h1, h2, h3, h4]
theorem s43 (n : Nat) (k : Int) (h : k = 1 ∨ k = 2 ∨ k = 3 ∨ k = 4) : SV mL (n+1) 43 [.int .u8 k] (.tup [.int .i64 (aX k), .int .i64 (aY k)]) := by
  rcases h with rfl | rfl | rfl | rfl
  all_goals
    refine SpecQ_run (c := k43) rfl rfl rfl ?_
    intro ro O _
    unfold k43
    repeat' (first
      | (refine A_p ?_; first | refine D_mov rfl ?_ | refine D_idxAV rfl rfl (by decide) (by decide) rfl ?_ | (refine D_build ?_; show WO _ _ _ _ _ _ _) | refine D_iadA rfl rfl (by omega) (by omega) ?_)
      | (refine A_h ?_; first | (refine A_load ?_; first | (refine D_load rfl (by repeat (first | exact Has.here | refine Has.there ?_)) ?_; show WO _ _ _ _ _ _ _)) | (refine D_store rfl rfl (by repeat (first | exact At.here | apply At.there)) rfl rfl ?_; show WO _ _ _ _ _ _ _) | (refine D_alloc ?_; intro _b))
      | refine WO_nil ?_
      | (refine A_seq ?_; first | refine C_reg ?_ | refine C_assoc ?_ | refine C_ret ?_)
      | refine W_ret ?_
      | refine W_region ?_
      | refine R_tt rfl rfl (by repeat (first | exact List.Sublist.refl _ | refine List.Sublist.cons _ ?_)) ?_)
  all_goals first | rfl | (exfalso; omega)
set_option maxHeartbeats 2000000 in
theorem s44 (n : Nat) (k c : Int) (h : vl k c) : SV mL (n+2) 44 [lnA k c] (.tup [ptA (oX k c) (oY k c), ptA (oX k c - 2 * aY k) (oY k c + 2 * aX k)]) := by
  have h' := h
  obtain ⟨_, _, h3, h4⟩ := h'
  rcases four h with rfl | rfl | rfl | rfl
  all_goals
    refine SpecQ_run (c := k44) rfl rfl rfl ?_
    intro ro O _
    unfold k44
    repeat' (first
      | (refine A_p ?_; first | refine D_mov rfl ?_ | refine D_fad rfl ?_ | (refine A_bin ?_; first | refine D_add rfl rfl (by simp only [inR]; omega) ?_ | refine D_sub rfl rfl (by simp only [inR]; omega) ?_ | refine D_mul rfl rfl (by simp only [inR]; omega) ?_ | refine D_eql rfl rfl ?_) | refine D_ext rfl rfl ?_ | (refine D_build ?_; show WO _ _ _ _ _ _ _))
      | (refine A_h ?_; first | (refine A_load ?_; first | (refine D_load rfl (by repeat (first | exact Has.here | refine Has.there ?_)) ?_; show WO _ _ _ _ _ _ _)) | (refine A_call ?_; first | refine D_callV rfl (s45 _ 1 1 0 (by simp)) ?_ | refine D_callV rfl (s45 _ 2 0 1 (by simp)) ?_ | refine D_callV rfl (s45 _ 3 1 1 (by simp)) ?_ | refine D_callV rfl (s45 _ 4 (-1) 1 (by simp)) ?_) | (refine WO_storeX (d := none) rfl rfl (At.upd (by repeat (first | exact At.here | apply At.there)) _) rfl rfl (by exact Nat.le_of_ble_eq_true rfl) (fun H nx hk z hz => by simp only [List.mem_cons, List.not_mem_nil, or_false] at hz; rcases hz with rfl | rfl <;> exact ⟨_, _, rfl, (hk.ne (by repeat (first | exact Has.here | apply Has.there))).symm⟩) ?_; show WO _ _ _ _ _ _ _) | (refine D_box_agg rfl ?_; intro _b) | (refine D_box rfl ?_ rfl; intro _b) | (refine D_store rfl rfl (by repeat (first | exact At.here | apply At.there)) rfl rfl ?_; show WO _ _ _ _ _ _ _) | (refine D_alloc ?_; intro _b))
      | refine WO_nil ?_
      | (refine A_seq ?_; first | refine C_reg ?_ | refine C_assoc ?_ | refine C_if_t rfl ?_ | refine C_if_f rfl ?_ | (refine C_if_dec rfl ?_ ?_ <;> intro h <;> try (exfalso; omega)) | refine C_ret ?_ | refine C_skip ?_)
      | refine W_ret ?_
      | refine W_region ?_
      | refine W_skip ?_
      | refine W_if_t rfl ?_
      | refine W_if_f rfl ?_
      | (refine W_if_dec rfl ?_ ?_ <;> intro h <;> try (exfalso; omega))
      | refine R_cc rfl (by repeat (first | exact Has.here | refine Has.there ?_)) rfl rfl (by repeat (first | exact Has.here | refine Has.there ?_)) rfl (by repeat (first | exact List.Sublist.refl _ | refine List.Sublist.cons _ ?_)) ?_)
  all_goals exact tup2_eq (by first | (simp [oX, oY, aX, aY]; done) | (simp [oX, oY, aX, aY]; omega)) (by first | (simp [oX, oY, aX, aY]; done) | (simp [oX, oY, aX, aY]; omega)) (by first | (simp [oX, oY, aX, aY]; done) | (simp [oX, oY, aX, aY]; omega)) (by first | (simp [oX, oY, aX, aY]; done) | (simp [oX, oY, aX, aY]; omega))
end Vm
end Go.Proofs.YtgncjbodicabnaaDoor

namespace Go.Proofs.YtgncjbodicabnaaDoor
namespace Vm
variable {mL : Int}
set_option maxRecDepth 100000
/-! MATH -/
/-- The kind of a line's image, and which way its direction goes. -/
def lK (t k : Int) : Int := if my t (aX k) (aY k) = 0 then 1 else if mx t (aX k) (aY k) = 0 then 2 else if mx t (aX k) (aY k) = my t (aX k) (aY k) then 3 else 4
def lS (t k : Int) : Int := if my t (aX k) (aY k) = 0 then mx t (aX k) (aY k) else my t (aX k) (aY k)
def lC (t k c X Y : Int) : Int := lS t k * c + aX (lK t k) * X + aY (lK t k) * Y
abbrev one4 (k : Int) : Prop := k = 1 ∨ k = 2 ∨ k = 3 ∨ k = 4
theorem lK_in {t k : Int} (ht : 0 ≤ t ∧ t ≤ 7) (hk : one4 k) : 1 ≤ lK t k ∧ lK t k ≤ 4 := by
  rcases eight ht with rfl | rfl | rfl | rfl | rfl | rfl | rfl | rfl <;> rcases hk with rfl | rfl | rfl | rfl <;> decide
theorem lS_in {t k : Int} (ht : 0 ≤ t ∧ t ≤ 7) (hk : one4 k) : lS t k = 1 ∨ lS t k = -1 := by
  rcases eight ht with rfl | rfl | rfl | rfl | rfl | rfl | rfl | rfl <;> rcases hk with rfl | rfl | rfl | rfl <;> decide
theorem l_cond {t k i s : Int} (ht : 0 ≤ t ∧ t ≤ 7) (hk : one4 k) (hi : one4 i) (hs : s = 1 ∨ s = -1) : (mx t (aX k) (aY k) = s * aX i ∧ my t (aX k) (aY k) = s * aY i) ↔ (i = lK t k ∧ s = lS t k) := by
  rcases eight ht with rfl | rfl | rfl | rfl | rfl | rfl | rfl | rfl <;> rcases hk with rfl | rfl | rfl | rfl <;> rcases hi with rfl | rfl | rfl | rfl <;> rcases hs with rfl | rfl <;> decide
section
variable {t k c X Y : Int}
abbrev lu1 (t k c X : Int) : Int := mx t (oX k c) (oY k c) + 2 * X
abbrev lu2 (t k c Y : Int) : Int := my t (oX k c) (oY k c) + 2 * Y
abbrev lv1 (t k c X : Int) : Int := mx t (oX k c - 2 * aY k) (oY k c + 2 * aX k) + 2 * X
abbrev lv2 (t k c Y : Int) : Int := my t (oX k c - 2 * aY k) (oY k c + 2 * aX k) + 2 * Y
theorem l_e {i : Int} (ht : 0 ≤ t ∧ t ≤ 7) (hk : one4 k) (hi : one4 i) : (aX i * lu1 t k c X + aY i * lu2 t k c Y = aX i * lv1 t k c X + aY i * lv2 t k c Y) ↔ lK t k = i := by
  rcases eight ht with rfl | rfl | rfl | rfl | rfl | rfl | rfl | rfl <;> rcases hk with rfl | rfl | rfl | rfl <;> rcases hi with rfl | rfl | rfl | rfl <;> simp [lu1, lu2, lv1, lv2, lK, mx, my, aX, aY, oX, oY] <;> omega
theorem l_d (ht : 0 ≤ t ∧ t ≤ 7) (hk : one4 k) : (aX (lK t k) * lu1 t k c X + aY (lK t k) * lu2 t k c Y).tdiv 2 = lC t k c X Y := by
  have : aX (lK t k) * lu1 t k c X + aY (lK t k) * lu2 t k c Y = 2 * lC t k c X Y := by
    unfold lC
    rcases eight ht with rfl | rfl | rfl | rfl | rfl | rfl | rfl | rfl <;> rcases hk with rfl | rfl | rfl | rfl <;> simp [lu1, lu2, lK, lS, mx, my, aX, aY, oX, oY] <;> omega
  rw [this]
  exact Int.mul_tdiv_cancel_left _ (by decide)
theorem l_t (ht : 0 ≤ t ∧ t ≤ 7) (hk : one4 k) : cmp (cmp (inv t) (oT k)) t = oT (lK t k) := by
  rcases eight ht with rfl | rfl | rfl | rfl | rfl | rfl | rfl | rfl <;> rcases hk with rfl | rfl | rfl | rfl <;> decide
theorem l_x (ht : 0 ≤ t ∧ t ≤ 7) (hk : one4 k) : mx t (mx (oT k) (-(mx (inv t) X Y)) (-(my (inv t) X Y)) + oX k c) (my (oT k) (-(mx (inv t) X Y)) (-(my (inv t) X Y)) + oY k c) + X = oX (lK t k) (lC t k c X Y) := by
  unfold lC
  rcases eight ht with rfl | rfl | rfl | rfl | rfl | rfl | rfl | rfl <;> rcases hk with rfl | rfl | rfl | rfl <;> simp [inv, lK, lS, mx, my, aX, aY, oX, oY, oT] <;> omega
theorem l_y (ht : 0 ≤ t ∧ t ≤ 7) (hk : one4 k) : my t (mx (oT k) (-(mx (inv t) X Y)) (-(my (inv t) X Y)) + oX k c) (my (oT k) (-(mx (inv t) X Y)) (-(my (inv t) X Y)) + oY k c) + Y = oY (lK t k) (lC t k c X Y) := by
  unfold lC
  rcases eight ht with rfl | rfl | rfl | rfl | rfl | rfl | rfl | rfl <;> rcases hk with rfl | rfl | rfl | rfl <;> simp [inv, lK, lS, mx, my, aX, aY, oX, oY, oT] <;> omega
end
end Vm
end Go.Proofs.YtgncjbodicabnaaDoor

namespace Go.Proofs.YtgncjbodicabnaaDoor
namespace Vm
variable {mL : Int}
open Go Go.Vm Go.Vm.W
set_option maxRecDepth 100000
set_option linter.unusedVariables false
set_option linter.unusedSimpArgs false
attribute [local irreducible] W WO SpecQ runM

theorem s45x (n : Nat) (k : Int) (h : 1 ≤ k ∧ k ≤ 4) : SV mL (n+1) 45 [.int .u8 k] (.tup [.int .i64 (aX k), .int .i64 (aY k)]) :=
  s45 n k _ _ (by obtain rfl | rfl | rfl | rfl : k = 1 ∨ k = 2 ∨ k = 3 ∨ k = 4 := by omega
                  all_goals decide)
theorem axy (k : Int) : (aX k = -1 ∨ aX k = 0 ∨ aX k = 1) ∧ (aY k = 0 ∨ aY k = 1) := by
  by_cases h1 : k = 1
  · subst h1; decide
  by_cases h2 : k = 2
  · subst h2; decide
  by_cases h3 : k = 3
  · subst h3; decide
  simp [aX, aY, h1, h2, h3]
theorem mbd {a u M : Int} (h : a = -1 ∨ a = 0 ∨ a = 1) (h1 : -M ≤ u ∧ u ≤ M) : -M ≤ a * u ∧ a * u ≤ M := by
  rcases h with rfl | rfl | rfl <;> omega
theorem s23h (n : Nat) (t X Y k c u1 u2 v1 v2 kk L p1 p2 q1 q2 : Int) (h44 : ∀ m, SV mL (m+2) 44 [lnA k c] (.tup [ptA p1 p2, ptA q1 q2]))
    (ha : ∀ m, SV mL (m+1) 20 [mvA t X Y, ptA p1 p2] (ptA u1 u2)) (hb : ∀ m, SV mL (m+1) 20 [mvA t X Y, ptA q1 q2] (ptA v1 v2))
    (bu1 : -100000 ≤ u1 ∧ u1 ≤ 100000) (bu2 : -100000 ≤ u2 ∧ u2 ≤ 100000) (bv1 : -100000 ≤ v1 ∧ v1 ≤ 100000) (bv2 : -100000 ≤ v2 ∧ v2 ≤ 100000) (hk : 1 ≤ kk ∧ kk ≤ 4)
    (e : ∀ i, 1 ≤ i ∧ i ≤ 4 → (aX i * u1 + aY i * u2 = aX i * v1 + aY i * v2 ↔ i = kk)) (hL : -1000000 ≤ L ∧ L ≤ 1000000) (d : ∀ i, 1 ≤ i ∧ i ≤ 4 → i = kk → (aX i * u1 + aY i * u2).tdiv 2 = L) : SV mL (n+3) 23 [mvA t X Y, lnA k c] (lnA kk L) := by
  refine SpecQ_run (c := k23) rfl rfl rfl ?_
  intro ro O _
  refine X_reg [2, 3, 4] [] [] (fun ν1 => (True)) (fun ν1 => []) (fun ν1 => [(2, (.ptr (ν1 0) 0)), (3, (.ptr (ν1 1) 0)), (4, (.ptr (ν1 2) 0))]) (fun ν1 => ⟨(ν1 2), true, .cells [(.int .u8 0), (.int .i64 0)]⟩ :: ⟨(ν1 1), true, .cells [(.int .u8 k), (.int .i64 c)]⟩ :: ⟨(ν1 0), true, .cells [(.int .u8 t), (.int .i64 X), (.int .i64 Y)]⟩ :: O) (fun ν1 => by kernel_rfl) (fun ν1 => trivial) ?_
  intro ν1
  refine X_reg [2, 4, 5, 6] [3] [(.ld (.e 1)), (.cl (.tup [(.agg [(.int .i64 p1), (.int .i64 p2)]), (.agg [(.int .i64 q1), (.int .i64 q2)])])), .c, .c, .c, .c, .c, (.st 1), (.st 0)] (fun ν2 => (SpecQ (BB mL) (RN mL (n+2)) 44 [(.agg [(.int .u8 k), (.int .i64 c)])] [] fun u N => u = (.tup [(.agg [(.int .i64 p1), (.int .i64 p2)]), (.agg [(.int .i64 q1), (.int .i64 q2)])]) ∧ N = []) ∧ (True)) (fun ν2 => [(ν1 1), (ν2 0), (ν2 1)]) (fun ν2 => [(2, (.ptr (ν1 0) 0)), (4, (.ptr (ν1 2) 0)), (5, (.ptr (ν2 0) 0)), (6, (.ptr (ν2 1) 0))]) (fun ν2 => ⟨(ν2 1), true, .cells [(.int .i64 q1), (.int .i64 q2)]⟩ :: ⟨(ν2 0), true, .cells [(.int .i64 p1), (.int .i64 p2)]⟩ :: ⟨(ν1 2), true, .cells [(.int .u8 0), (.int .i64 0)]⟩ :: ⟨(ν1 0), true, .cells [(.int .u8 t), (.int .i64 X), (.int .i64 Y)]⟩ :: O) (fun ν2 => by kernel_rfl) (fun ν2 => ⟨h44 _, trivial⟩) ?_
  intro ν2
  refine X_reg [4, 7, 8] [5, 3, 2] [(.ld (.e 3)), (.ld (.e 1)), (.cl (.agg [(.int .i64 u1), (.int .i64 u2)])), (.ld (.e 3)), (.ld (.e 0)), (.cl (.agg [(.int .i64 v1), (.int .i64 v2)])), .c, .c, (.st 1), (.st 0)] (fun ν3 => (SpecQ (BB mL) (RN mL (n+2)) 20 [(.agg [(.int .u8 t), (.int .i64 X), (.int .i64 Y)]), (.agg [(.int .i64 p1), (.int .i64 p2)])] [] fun u N => u = (.agg [(.int .i64 u1), (.int .i64 u2)]) ∧ N = []) ∧ (SpecQ (BB mL) (RN mL (n+2)) 20 [(.agg [(.int .u8 t), (.int .i64 X), (.int .i64 Y)]), (.agg [(.int .i64 q1), (.int .i64 q2)])] [] fun u N => u = (.agg [(.int .i64 v1), (.int .i64 v2)]) ∧ N = []) ∧ (True)) (fun ν3 => [(ν1 0), (ν2 0), (ν1 0), (ν2 1), (ν3 0), (ν3 1)]) (fun ν3 => [(4, (.ptr (ν1 2) 0)), (7, (.ptr (ν3 0) 0)), (8, (.ptr (ν3 1) 0))]) (fun ν3 => ⟨(ν3 1), true, .cells [(.int .i64 v1), (.int .i64 v2)]⟩ :: ⟨(ν3 0), true, .cells [(.int .i64 u1), (.int .i64 u2)]⟩ :: ⟨(ν1 2), true, .cells [(.int .u8 0), (.int .i64 0)]⟩ :: O) (fun ν3 => by kernel_rfl) (fun ν3 => ⟨ha _, hb _, trivial⟩) ?_
  intro ν3
  refine X_reg [4, 7, 8, 9] [] [] (fun ν4 => (True)) (fun ν4 => []) (fun ν4 => [(4, (.ptr (ν1 2) 0)), (7, (.ptr (ν3 0) 0)), (8, (.ptr (ν3 1) 0)), (9, (.ptr (ν4 0) 0))]) (fun ν4 => ⟨(ν4 0), true, .cells [(.int .u8 0), (.int .i64 0)]⟩ :: ⟨(ν3 1), true, .cells [(.int .i64 v1), (.int .i64 v2)]⟩ :: ⟨(ν3 0), true, .cells [(.int .i64 u1), (.int .i64 u2)]⟩ :: ⟨(ν1 2), true, .cells [(.int .u8 0), (.int .i64 0)]⟩ :: O) (fun ν4 => by kernel_rfl) (fun ν4 => trivial) ?_
  intro ν4
  refine C_assoc ?_
  refine X_reg [4, 7, 8, 9, 10] [] [] (fun _ => (True)) (fun _ => []) (fun _ => [(4, (.ptr (ν1 2) 0)), (7, (.ptr (ν3 0) 0)), (8, (.ptr (ν3 1) 0)), (9, (.ptr (ν4 0) 0)), (10, (.int .u8 1))]) (fun _ => ⟨(ν4 0), true, .cells [(.int .u8 0), (.int .i64 0)]⟩ :: ⟨(ν3 1), true, .cells [(.int .i64 v1), (.int .i64 v2)]⟩ :: ⟨(ν3 0), true, .cells [(.int .i64 u1), (.int .i64 u2)]⟩ :: ⟨(ν1 2), true, .cells [(.int .u8 0), (.int .i64 0)]⟩ :: O) (fun _ => by kernel_rfl) (fun _ => trivial) ?_
  intro _
  refine C_block ?_
  refine W_loop (σ := Int × Int × Int) (fun ⟨i, a, c'⟩ => [(4, (.ptr (ν1 2) 0)), (7, (.ptr (ν3 0) 0)), (8, (.ptr (ν3 1) 0)), (9, (.ptr (ν4 0) 0)), (10, (.int .u8 i))]) (fun ⟨i, a, c'⟩ => ⟨(ν4 0), true, .cells [(.int .u8 a), (.int .i64 c')]⟩ :: ⟨(ν3 1), true, .cells [(.int .i64 v1), (.int .i64 v2)]⟩ :: ⟨(ν3 0), true, .cells [(.int .i64 u1), (.int .i64 u2)]⟩ :: ⟨(ν1 2), true, .cells [(.int .u8 0), (.int .i64 0)]⟩ :: O) (fun ⟨i, a, c'⟩ => 1 ≤ i ∧ i ≤ 5 ∧ (i ≤ kk → a = 0 ∧ c' = 0) ∧ (kk < i → a = kk ∧ c' = L)) (fun ⟨i, a, c'⟩ => (5 - i).toNat) (1, 0, 0) ⟨rfl, rfl, rfl, rfl, rfl, trivial⟩ (.cons_cons _ (.cons_cons _ (.cons_cons _ (.cons_cons _ (.refl _))))) ⟨by decide, by decide, fun _ => ⟨rfl, rfl⟩, fun h => by omega⟩ (by simp only [fuel]; omega) ?_
  rintro ⟨i, a, c'⟩ ⟨i0, i1, i2, i3⟩
  have bx := (axy i).1
  have by' : aY i = -1 ∨ aY i = 0 ∨ aY i = 1 := .inr (axy i).2
  have z1 := mbd bx bu1
  have z2 := mbd by' bu2
  have z3 := mbd bx bv1
  have z4 := mbd by' bv2
  have ei := e i
  refine C_assoc ?_
  refine X_reg [4, 7, 8, 9, 10, 25] [] [] (fun _ => (True)) (fun _ => []) (fun _ => [(4, (.ptr (ν1 2) 0)), (7, (.ptr (ν3 0) 0)), (8, (.ptr (ν3 1) 0)), (9, (.ptr (ν4 0) 0)), (10, (.int .u8 i)), (25, (.bool (decide (i ≤ 4))))]) (fun _ => ⟨(ν4 0), true, .cells [(.int .u8 a), (.int .i64 c')]⟩ :: ⟨(ν3 1), true, .cells [(.int .i64 v1), (.int .i64 v2)]⟩ :: ⟨(ν3 0), true, .cells [(.int .i64 u1), (.int .i64 u2)]⟩ :: ⟨(ν1 2), true, .cells [(.int .u8 0), (.int .i64 0)]⟩ :: O) (fun _ => by kernel_rfl) (fun _ => trivial) ?_
  intro _
  refine C_if_dec rfl ?_ ?_
  · intro h1
    refine C_skip ?_
    refine C_block ?_
    refine X_reg [4, 7, 8, 9, 10, 11, 12] [] [.c, (.cl (.tup [(.int .i64 (aX i)), (.int .i64 (aY i))]))] (fun _ => (SpecQ (BB mL) (RN mL (n+2)) 45 [(.int .u8 i)] [] fun u N => u = (.tup [(.int .i64 (aX i)), (.int .i64 (aY i))]) ∧ N = []) ∧ (True)) (fun _ => []) (fun _ => [(4, (.ptr (ν1 2) 0)), (7, (.ptr (ν3 0) 0)), (8, (.ptr (ν3 1) 0)), (9, (.ptr (ν4 0) 0)), (10, (.int .u8 i)), (11, (.int .i64 (aX i))), (12, (.int .i64 (aY i)))]) (fun _ => ⟨(ν4 0), true, .cells [(.int .u8 a), (.int .i64 c')]⟩ :: ⟨(ν3 1), true, .cells [(.int .i64 v1), (.int .i64 v2)]⟩ :: ⟨(ν3 0), true, .cells [(.int .i64 u1), (.int .i64 u2)]⟩ :: ⟨(ν1 2), true, .cells [(.int .u8 0), (.int .i64 0)]⟩ :: O) (fun _ => by kernel_rfl) (fun _ => ⟨s45x _ _ (by omega), trivial⟩) ?_
    intro _
    refine X_reg [4, 7, 8, 9, 10, 11, 12, 51] [] [.c, .c, (.ld (.e 2)), .c, .c, .c, (.ld (.e 2)), .c, .c, .c, .c, (.ld (.e 1)), .c, .c, .c, (.ld (.e 1))] (fun _ => (inR .i64 ((aX i) * u1)) ∧ (inR .i64 ((aY i) * u2)) ∧ (inR .i64 (((aX i) * u1) + ((aY i) * u2))) ∧ (inR .i64 ((aX i) * v1)) ∧ (inR .i64 ((aY i) * v2)) ∧ (inR .i64 (((aX i) * v1) + ((aY i) * v2))) ∧ (True)) (fun _ => [(ν3 0), (ν3 0), (ν3 1), (ν3 1)]) (fun _ => [(4, (.ptr (ν1 2) 0)), (7, (.ptr (ν3 0) 0)), (8, (.ptr (ν3 1) 0)), (9, (.ptr (ν4 0) 0)), (10, (.int .u8 i)), (11, (.int .i64 (aX i))), (12, (.int .i64 (aY i))), (51, (.bool (decide ((((aX i) * u1) + ((aY i) * u2)) = (((aX i) * v1) + ((aY i) * v2))))))]) (fun _ => ⟨(ν4 0), true, .cells [(.int .u8 a), (.int .i64 c')]⟩ :: ⟨(ν3 1), true, .cells [(.int .i64 v1), (.int .i64 v2)]⟩ :: ⟨(ν3 0), true, .cells [(.int .i64 u1), (.int .i64 u2)]⟩ :: ⟨(ν1 2), true, .cells [(.int .u8 0), (.int .i64 0)]⟩ :: O) (fun _ => by kernel_rfl) (fun _ => ⟨(by simp only [inR]; omega), (by simp only [inR]; omega), (by simp only [inR]; omega), (by simp only [inR]; omega), (by simp only [inR]; omega), (by simp only [inR]; omega), trivial⟩) ?_
    intro _
    refine W_if_dec rfl ?_ ?_
    · intro h2
      refine X_end [4, 7, 8, 9, 10] [] [.c, .c, .c, (.ld (.e 2)), .c, .c, .c, (.ld (.e 2)), .c, .c, .c, .c, (.st 0)] (fun _ => (inR .i64 ((aX i) * u1)) ∧ (inR .i64 ((aY i) * u2)) ∧ (inR .i64 (((aX i) * u1) + ((aY i) * u2))) ∧ ((2 : Int) ≠ 0 ∧ inR .i64 (((((aX i) * u1) + ((aY i) * u2))).tdiv 2)) ∧ (True)) (fun _ => [(ν3 0), (ν3 0), (ν4 0)]) (fun _ => [(4, (.ptr (ν1 2) 0)), (7, (.ptr (ν3 0) 0)), (8, (.ptr (ν3 1) 0)), (9, (.ptr (ν4 0) 0)), (10, (.int .u8 i))]) (fun _ => ⟨(ν4 0), true, .cells [(.int .u8 i), (.int .i64 (((((aX i) * u1) + ((aY i) * u2))).tdiv 2))]⟩ :: ⟨(ν3 1), true, .cells [(.int .i64 v1), (.int .i64 v2)]⟩ :: ⟨(ν3 0), true, .cells [(.int .i64 u1), (.int .i64 u2)]⟩ :: ⟨(ν1 2), true, .cells [(.int .u8 0), (.int .i64 0)]⟩ :: O) (fun _ => by kernel_rfl) (fun _ => ⟨(by simp only [inR]; omega), (by simp only [inR]; omega), (by simp only [inR]; omega), (by refine ⟨by decide, ?_⟩; rw [d i (by omega) ((ei (by omega)).1 h2)]; simp only [inR]; omega), trivial⟩) ?_
      intro _
      refine X_end [4, 7, 8, 9, 10] [] [] (fun _ => (inR .u8 (i + 1)) ∧ (True)) (fun _ => []) (fun _ => [(4, (.ptr (ν1 2) 0)), (7, (.ptr (ν3 0) 0)), (8, (.ptr (ν3 1) 0)), (9, (.ptr (ν4 0) 0)), (10, (.int .u8 (i + 1)))]) (fun _ => ⟨(ν4 0), true, .cells [(.int .u8 i), (.int .i64 (((((aX i) * u1) + ((aY i) * u2))).tdiv 2))]⟩ :: ⟨(ν3 1), true, .cells [(.int .i64 v1), (.int .i64 v2)]⟩ :: ⟨(ν3 0), true, .cells [(.int .i64 u1), (.int .i64 u2)]⟩ :: ⟨(ν1 2), true, .cells [(.int .u8 0), (.int .i64 0)]⟩ :: O) (fun _ => by kernel_rfl) (fun _ => ⟨(by simp only [inR]; omega), trivial⟩) ?_
      intro _
      exact again_of (i + 1, i, (((((aX i) * u1) + ((aY i) * u2))).tdiv 2)) ⟨rfl, rfl, rfl, rfl, rfl, trivial⟩ (.cons_cons _ (.cons_cons _ (.cons_cons _ (.cons_cons _ (.refl _))))) (by first | (have hk := (ei (by omega)).1 (by assumption); have hd := d i (by omega) hk; exact ⟨by omega, by omega, fun h => by omega, fun h => ⟨by omega, by omega⟩⟩) | (have hk := fun h => (by assumption : ¬ _) ((ei (by omega)).2 h); exact ⟨by omega, by omega, fun h => i2 (by omega), fun h => i3 (by omega)⟩)) (by show (5 - (i + 1)).toNat < (5 - i).toNat; omega)
    · intro h2
      refine W_skip ?_
      refine X_end [4, 7, 8, 9, 10] [] [] (fun _ => (inR .u8 (i + 1)) ∧ (True)) (fun _ => []) (fun _ => [(4, (.ptr (ν1 2) 0)), (7, (.ptr (ν3 0) 0)), (8, (.ptr (ν3 1) 0)), (9, (.ptr (ν4 0) 0)), (10, (.int .u8 (i + 1)))]) (fun _ => ⟨(ν4 0), true, .cells [(.int .u8 a), (.int .i64 c')]⟩ :: ⟨(ν3 1), true, .cells [(.int .i64 v1), (.int .i64 v2)]⟩ :: ⟨(ν3 0), true, .cells [(.int .i64 u1), (.int .i64 u2)]⟩ :: ⟨(ν1 2), true, .cells [(.int .u8 0), (.int .i64 0)]⟩ :: O) (fun _ => by kernel_rfl) (fun _ => ⟨(by simp only [inR]; omega), trivial⟩) ?_
      intro _
      exact again_of (i + 1, a, c') ⟨rfl, rfl, rfl, rfl, rfl, trivial⟩ (.cons_cons _ (.cons_cons _ (.cons_cons _ (.cons_cons _ (.refl _))))) (by first | (have hk := (ei (by omega)).1 (by assumption); have hd := d i (by omega) hk; exact ⟨by omega, by omega, fun h => by omega, fun h => ⟨by omega, by omega⟩⟩) | (have hk := fun h => (by assumption : ¬ _) ((ei (by omega)).2 h); exact ⟨by omega, by omega, fun h => i2 (by omega), fun h => i3 (by omega)⟩)) (by show (5 - (i + 1)).toNat < (5 - i).toNat; omega)
  · intro h1
    refine C_exit ?_
    refine X_reg [4] [2, 1, 0] [(.ld (.e 0)), (.st 3)] (fun _ => (True)) (fun _ => [(ν4 0), (ν1 2)]) (fun _ => [(4, (.ptr (ν1 2) 0))]) (fun _ => ⟨(ν1 2), true, .cells [(.int .u8 a), (.int .i64 c')]⟩ :: O) (fun _ => by kernel_rfl) (fun _ => trivial) ?_
    intro _
    refine W_ret ?_
    exact RetQ_ret (vs := [(.agg [(.int .u8 a), (.int .i64 c')])]) (N := []) (ResV.cell rfl (.here) rfl ResV.nil) ⟨(by obtain ⟨rfl, rfl⟩ := i3 (by omega); rfl), rfl⟩ (.cons _ (.refl _))
end Vm
end Go.Proofs.YtgncjbodicabnaaDoor

namespace Go.Proofs.YtgncjbodicabnaaDoor
namespace Vm
variable {mL : Int}
open Go Go.Vm Go.Vm.W
set_option maxRecDepth 100000
set_option linter.unusedVariables false
set_option linter.unusedSimpArgs false
attribute [local irreducible] W WO SpecQ runM

theorem aX_mul {i X : Int} (h : i = 1 ∨ i = 2 ∨ i = 3 ∨ i = 4) (b : -16384 ≤ X ∧ X ≤ 16384) : (-16384 ≤ aX i * X ∧ aX i * X ≤ 16384) ∧ (-16384 ≤ aY i * X ∧ aY i * X ≤ 16384) ∧ (-1 ≤ aX i ∧ aX i ≤ 1) ∧ (-1 ≤ aY i ∧ aY i ≤ 1) := by
  rcases h with rfl | rfl | rfl | rfl <;> simp [aX, aY] <;> omega
theorem s21h (n : Nat) (t X Y k c x y kk sg e : Int) (Rr : AV) (h0 : 0 ≤ t) (hv : vm t X Y) (hl : vl k c)
    (h37 : ∀ m, SV mL (m+1) 37 [.agg (mat t), .int .i64 (aX k), .int .i64 (aY k)] (.tup [.int .i64 x, .int .i64 y]))
    (hk : 1 ≤ kk ∧ kk ≤ 4) (hsg : sg = 1 ∨ sg = -1)
    (hc : ∀ i s, 1 ≤ i ∧ i ≤ 4 → s = 1 ∨ s = -1 → ((x = s * aX i ∧ y = s * aY i) ↔ (i = kk ∧ s = sg)))
    (h28 : ∀ i s m, 1 ≤ i ∧ i ≤ 4 → s = 1 ∨ s = -1 → x = s * aX i → y = s * aY i → SV mL (m+1) 28 [lnA i (s * c + aX i * X + aY i * Y)] (.int .i64 e))
    (r0 : ∀ i s, 1 ≤ i ∧ i ≤ 4 → s = 1 ∨ s = -1 → x = s * aX i → y = s * aY i → e = 0 → Rr = .tup [lnA i (s * c + aX i * X + aY i * Y), .int .i64 0])
    (r1 : e ≠ 0 → Rr = .tup [lnA 0 0, .int .i64 3]) : SV mL (n+3) 21 [mvA t X Y, lnA k c] Rr := by
  have ht := vm_t h0 hv
  obtain ⟨w1, w2, w3, w4⟩ := id hl
  obtain ⟨v1, v2, v3, v4, v5, v6⟩ := id hv
  refine SpecQ_run (c := k21) rfl rfl rfl ?_
  intro ro O _
  refine X_reg [2, 3, 4] [] [] (fun ν1 => (True)) (fun ν1 => []) (fun ν1 => [(2, (.ptr (ν1 0) 0)), (3, (.ptr (ν1 1) 0)), (4, (.ptr (ν1 2) 0))]) (fun ν1 => ⟨(ν1 2), true, .cells [(.int .u8 0), (.int .i64 0)]⟩ :: ⟨(ν1 1), true, .cells [(.int .u8 k), (.int .i64 c)]⟩ :: ⟨(ν1 0), true, .cells [(.int .u8 t), (.int .i64 X), (.int .i64 Y)]⟩ :: O) (fun ν1 => by kernel_rfl) (fun ν1 => trivial) ?_
  intro ν1
  refine C_assoc ?_
  refine X_reg [2, 3, 4, 22] [] [(.ld (.e 2)), (.cl (.int .i64 0)), .c, .c, (.ld (.e 1)), (.cl (.int .i64 0))] (fun _ => (SpecQ (BB mL) (RN mL (n+2)) 34 [(.agg [(.int .u8 t), (.int .i64 X), (.int .i64 Y)])] [] fun u N => u = (.int .i64 0) ∧ N = []) ∧ (SpecQ (BB mL) (RN mL (n+2)) 28 [(.agg [(.int .u8 k), (.int .i64 c)])] [] fun u N => u = (.int .i64 0) ∧ N = []) ∧ (True)) (fun _ => [(ν1 0), (ν1 1)]) (fun _ => [(2, (.ptr (ν1 0) 0)), (3, (.ptr (ν1 1) 0)), (4, (.ptr (ν1 2) 0)), (22, (.bool false))]) (fun _ => ⟨(ν1 2), true, .cells [(.int .u8 0), (.int .i64 0)]⟩ :: ⟨(ν1 1), true, .cells [(.int .u8 k), (.int .i64 c)]⟩ :: ⟨(ν1 0), true, .cells [(.int .u8 t), (.int .i64 X), (.int .i64 Y)]⟩ :: O) (fun _ => by kernel_rfl) (fun _ => ⟨s34 _ _ _ _ ⟨h0, by omega⟩ hv, s28 _ _ _ hl, trivial⟩) ?_
  intro _
  refine C_if_f rfl ?_
  refine C_skip ?_
  refine X_reg [2, 3, 4, 6] [] [.c, (.ld (.e 2)), .c, (.ldg turnsL (.agg (mat t)))] (fun _ => (0 ≤ t ∧ t < (8 : Nat)) ∧ (Glob (BB mL) 0 turnsL ∧ ldv true 4 (0 + (t : Int).toNat * 4) turnsL = some (.agg (mat t))) ∧ (True)) (fun _ => [(ν1 0)]) (fun _ => [(2, (.ptr (ν1 0) 0)), (3, (.ptr (ν1 1) 0)), (4, (.ptr (ν1 2) 0)), (6, (.fn (.func 37) [(.agg (mat t))] []))]) (fun _ => ⟨(ν1 2), true, .cells [(.int .u8 0), (.int .i64 0)]⟩ :: ⟨(ν1 1), true, .cells [(.int .u8 k), (.int .i64 c)]⟩ :: ⟨(ν1 0), true, .cells [(.int .u8 t), (.int .i64 X), (.int .i64 Y)]⟩ :: O) (fun _ => by kernel_rfl) (fun _ => ⟨(by omega), ⟨glob_turns, (turns_at ht (by omega))⟩, trivial⟩) ?_
  intro _
  refine X_reg [2, 3, 4, 7, 8] [] [.c, .c, (.ld (.e 1)), (.cl (.tup [(.int .i64 (aX k)), (.int .i64 (aY k))])), .c, .c, (.cl (.tup [(.int .i64 x), (.int .i64 y)]))] (fun _ => (SpecQ (BB mL) (RN mL (n+2)) 43 [(.int .u8 k)] [] fun u N => u = (.tup [(.int .i64 (aX k)), (.int .i64 (aY k))]) ∧ N = []) ∧ (SpecQ (BB mL) (RN mL (n+2)) 37 [(.agg (mat t)), (.int .i64 (aX k)), (.int .i64 (aY k))] [] fun u N => u = (.tup [(.int .i64 x), (.int .i64 y)]) ∧ N = []) ∧ (True)) (fun _ => [(ν1 1)]) (fun _ => [(2, (.ptr (ν1 0) 0)), (3, (.ptr (ν1 1) 0)), (4, (.ptr (ν1 2) 0)), (7, (.int .i64 x)), (8, (.int .i64 y))]) (fun _ => ⟨(ν1 2), true, .cells [(.int .u8 0), (.int .i64 0)]⟩ :: ⟨(ν1 1), true, .cells [(.int .u8 k), (.int .i64 c)]⟩ :: ⟨(ν1 0), true, .cells [(.int .u8 t), (.int .i64 X), (.int .i64 Y)]⟩ :: O) (fun _ => by kernel_rfl) (fun _ => ⟨s43 _ _ (four hl), h37 _, trivial⟩) ?_
  intro _
  refine C_assoc ?_
  refine X_reg [2, 3, 4, 7, 8, 9] [] [] (fun _ => (True)) (fun _ => []) (fun _ => [(2, (.ptr (ν1 0) 0)), (3, (.ptr (ν1 1) 0)), (4, (.ptr (ν1 2) 0)), (7, (.int .i64 x)), (8, (.int .i64 y)), (9, (.int .u8 1))]) (fun _ => ⟨(ν1 2), true, .cells [(.int .u8 0), (.int .i64 0)]⟩ :: ⟨(ν1 1), true, .cells [(.int .u8 k), (.int .i64 c)]⟩ :: ⟨(ν1 0), true, .cells [(.int .u8 t), (.int .i64 X), (.int .i64 Y)]⟩ :: O) (fun _ => by kernel_rfl) (fun _ => trivial) ?_
  intro _
  refine C_block ?_
  refine W_loop (σ := Int) (fun i => [(2, (.ptr (ν1 0) 0)), (3, (.ptr (ν1 1) 0)), (4, (.ptr (ν1 2) 0)), (7, (.int .i64 x)), (8, (.int .i64 y)), (9, (.int .u8 i))]) (fun i => ⟨(ν1 2), true, .cells [(.int .u8 0), (.int .i64 0)]⟩ :: ⟨(ν1 1), true, .cells [(.int .u8 k), (.int .i64 c)]⟩ :: ⟨(ν1 0), true, .cells [(.int .u8 t), (.int .i64 X), (.int .i64 Y)]⟩ :: O) (fun i => 1 ≤ i ∧ i ≤ kk) (fun i => (5 - i).toNat) 1 ⟨rfl, rfl, rfl, rfl, rfl, rfl, trivial⟩ (.cons_cons _ (.cons_cons _ (.cons_cons _ (.refl _)))) ⟨by decide, hk.1⟩ (by simp only [fuel]; omega) ?_
  rintro i ⟨i0, i1⟩
  have hi4 : 1 ≤ i ∧ i ≤ 4 := by omega
  have hi : i = 1 ∨ i = 2 ∨ i = 3 ∨ i = 4 := by omega
  obtain ⟨m1, m8, m3, m4⟩ := aX_mul hi (X := X) ⟨v2, v3⟩
  obtain ⟨m5, m2, m6, m7⟩ := aX_mul hi (X := Y) ⟨v4, v5⟩
  refine C_assoc ?_
  refine X_reg [2, 3, 4, 7, 8, 9, 40] [] [] (fun _ => (True)) (fun _ => []) (fun _ => [(2, (.ptr (ν1 0) 0)), (3, (.ptr (ν1 1) 0)), (4, (.ptr (ν1 2) 0)), (7, (.int .i64 x)), (8, (.int .i64 y)), (9, (.int .u8 i)), (40, (.bool (decide (i ≤ 4))))]) (fun _ => ⟨(ν1 2), true, .cells [(.int .u8 0), (.int .i64 0)]⟩ :: ⟨(ν1 1), true, .cells [(.int .u8 k), (.int .i64 c)]⟩ :: ⟨(ν1 0), true, .cells [(.int .u8 t), (.int .i64 X), (.int .i64 Y)]⟩ :: O) (fun _ => by kernel_rfl) (fun _ => trivial) ?_
  intro _
  refine C_if_dec rfl ?_ ?_
  · intro h1
    refine C_skip ?_
    refine C_block ?_
    refine X_reg [2, 3, 4, 7, 8, 9, 10, 11] [] [.c, (.cl (.tup [(.int .i64 (aX i)), (.int .i64 (aY i))]))] (fun _ => (SpecQ (BB mL) (RN mL (n+2)) 43 [(.int .u8 i)] [] fun u N => u = (.tup [(.int .i64 (aX i)), (.int .i64 (aY i))]) ∧ N = []) ∧ (True)) (fun _ => []) (fun _ => [(2, (.ptr (ν1 0) 0)), (3, (.ptr (ν1 1) 0)), (4, (.ptr (ν1 2) 0)), (7, (.int .i64 x)), (8, (.int .i64 y)), (9, (.int .u8 i)), (10, (.int .i64 (aX i))), (11, (.int .i64 (aY i)))]) (fun _ => ⟨(ν1 2), true, .cells [(.int .u8 0), (.int .i64 0)]⟩ :: ⟨(ν1 1), true, .cells [(.int .u8 k), (.int .i64 c)]⟩ :: ⟨(ν1 0), true, .cells [(.int .u8 t), (.int .i64 X), (.int .i64 Y)]⟩ :: O) (fun _ => by kernel_rfl) (fun _ => ⟨s43 _ _ hi, trivial⟩) ?_
    intro _
    refine X_reg [2, 3, 4, 7, 8, 9, 10, 11, 48, 49, 50] [] [] (fun ν8 => (True)) (fun ν8 => []) (fun ν8 => [(2, (.ptr (ν1 0) 0)), (3, (.ptr (ν1 1) 0)), (4, (.ptr (ν1 2) 0)), (7, (.int .i64 x)), (8, (.int .i64 y)), (9, (.int .u8 i)), (10, (.int .i64 (aX i))), (11, (.int .i64 (aY i))), (48, (.sl (ν8 0) 0 2 (some 2) 1)), (49, (.int .i64 2)), (50, (.int .i64 0))]) (fun ν8 => ⟨(ν8 0), true, .cells [(.int .i64 1), (.int .i64 (-1))]⟩ :: ⟨(ν1 2), true, .cells [(.int .u8 0), (.int .i64 0)]⟩ :: ⟨(ν1 1), true, .cells [(.int .u8 k), (.int .i64 c)]⟩ :: ⟨(ν1 0), true, .cells [(.int .u8 t), (.int .i64 X), (.int .i64 Y)]⟩ :: O) (fun ν8 => by kernel_rfl) (fun ν8 => trivial) ?_
    intro ν8
    refine W_block ?_
    refine W_loop (σ := Int) (fun j => [(2, (.ptr (ν1 0) 0)), (3, (.ptr (ν1 1) 0)), (4, (.ptr (ν1 2) 0)), (7, (.int .i64 x)), (8, (.int .i64 y)), (9, (.int .u8 i)), (10, (.int .i64 (aX i))), (11, (.int .i64 (aY i))), (48, (.sl (ν8 0) 0 2 (some 2) 1)), (49, (.int .i64 2)), (50, (.int .i64 j))]) (fun j => ⟨(ν8 0), true, .cells [(.int .i64 1), (.int .i64 (-1))]⟩ :: ⟨(ν1 2), true, .cells [(.int .u8 0), (.int .i64 0)]⟩ :: ⟨(ν1 1), true, .cells [(.int .u8 k), (.int .i64 c)]⟩ :: ⟨(ν1 0), true, .cells [(.int .u8 t), (.int .i64 X), (.int .i64 Y)]⟩ :: O) (fun j => j = 0 ∨ (j = 1 ∧ (i = kk → sg = -1)) ∨ (j = 2 ∧ i ≠ kk)) (fun j => (3 - j).toNat) 0 ⟨rfl, rfl, rfl, rfl, rfl, rfl, rfl, rfl, rfl, rfl, rfl, trivial⟩ (.cons_cons _ (.cons_cons _ (.cons_cons _ (.cons_cons _ (.refl _))))) (Or.inl rfl) (by simp only [fuel]; omega) ?_
    rintro j (rfl | ⟨rfl, hj⟩ | ⟨rfl, hj⟩)
    · skip
      refine X_reg [2, 3, 4, 7, 8, 9, 10, 11, 48, 49, 50, 51] [] [] (fun _ => (True)) (fun _ => []) (fun _ => [(2, (.ptr (ν1 0) 0)), (3, (.ptr (ν1 1) 0)), (4, (.ptr (ν1 2) 0)), (7, (.int .i64 x)), (8, (.int .i64 y)), (9, (.int .u8 i)), (10, (.int .i64 (aX i))), (11, (.int .i64 (aY i))), (48, (.sl (ν8 0) 0 2 (some 2) 1)), (49, (.int .i64 2)), (50, (.int .i64 0)), (51, (.bool true))]) (fun _ => ⟨(ν8 0), true, .cells [(.int .i64 1), (.int .i64 (-1))]⟩ :: ⟨(ν1 2), true, .cells [(.int .u8 0), (.int .i64 0)]⟩ :: ⟨(ν1 1), true, .cells [(.int .u8 k), (.int .i64 c)]⟩ :: ⟨(ν1 0), true, .cells [(.int .u8 t), (.int .i64 X), (.int .i64 Y)]⟩ :: O) (fun _ => by kernel_rfl) (fun _ => trivial) ?_
      intro _
      refine C_if_t rfl ?_
      refine C_skip ?_
      refine C_block ?_
      refine X_reg [2, 3, 4, 7, 8, 9, 10, 11, 13, 48, 49, 50] [] [.c, (.ld (.e 0))] (fun _ => (0 ≤ (0 : Int) ∧ (0 : Int) < (2 : Nat)) ∧ (True)) (fun _ => [(ν8 0)]) (fun _ => [(2, (.ptr (ν1 0) 0)), (3, (.ptr (ν1 1) 0)), (4, (.ptr (ν1 2) 0)), (7, (.int .i64 x)), (8, (.int .i64 y)), (9, (.int .u8 i)), (10, (.int .i64 (aX i))), (11, (.int .i64 (aY i))), (13, (.int .i64 1)), (48, (.sl (ν8 0) 0 2 (some 2) 1)), (49, (.int .i64 2)), (50, (.int .i64 0))]) (fun _ => ⟨(ν8 0), true, .cells [(.int .i64 1), (.int .i64 (-1))]⟩ :: ⟨(ν1 2), true, .cells [(.int .u8 0), (.int .i64 0)]⟩ :: ⟨(ν1 1), true, .cells [(.int .u8 k), (.int .i64 c)]⟩ :: ⟨(ν1 0), true, .cells [(.int .u8 t), (.int .i64 X), (.int .i64 Y)]⟩ :: O) (fun _ => by kernel_rfl) (fun _ => ⟨(by omega), trivial⟩) ?_
      intro _
      refine X_reg [2, 3, 4, 7, 8, 9, 10, 11, 13, 48, 49, 50, 65] [] [.c, .c, .c, .c, .c, .c, (.g .c), (.g .c), (.g .c), (.g .c), (.g .c), .pk] (fun _ => (inR .i64 (1 * (aX i))) ∧ (((decide (x = (1 * (aX i)))) = true → inR .i64 (1 * (aY i)))) ∧ (True)) (fun _ => []) (fun _ => [(2, (.ptr (ν1 0) 0)), (3, (.ptr (ν1 1) 0)), (4, (.ptr (ν1 2) 0)), (7, (.int .i64 x)), (8, (.int .i64 y)), (9, (.int .u8 i)), (10, (.int .i64 (aX i))), (11, (.int .i64 (aY i))), (13, (.int .i64 1)), (48, (.sl (ν8 0) 0 2 (some 2) 1)), (49, (.int .i64 2)), (50, (.int .i64 0)), (65, (.bool ((decide (x = (1 * (aX i)))) && (decide (y = (1 * (aY i)))))))]) (fun _ => ⟨(ν8 0), true, .cells [(.int .i64 1), (.int .i64 (-1))]⟩ :: ⟨(ν1 2), true, .cells [(.int .u8 0), (.int .i64 0)]⟩ :: ⟨(ν1 1), true, .cells [(.int .u8 k), (.int .i64 c)]⟩ :: ⟨(ν1 0), true, .cells [(.int .u8 t), (.int .i64 X), (.int .i64 Y)]⟩ :: O) (fun _ => by kernel_rfl) (fun _ => ⟨(by simp only [inR]; omega), (fun hg => by first | (simp only [inR]; omega) | (simp at hg; simp only [inR]; omega)), trivial⟩) ?_
      intro _
      refine W_if rfl ?_ ?_
      · intro h2
        simp only [Bool.and_eq_true, Bool.or_eq_true, Bool.not_eq_true', Bool.and_eq_false_iff, Bool.or_eq_false_iff, Bool.not_eq_false', decide_eq_true_eq, decide_eq_false_iff_not, ne_eq, Decidable.not_not] at h2
        refine X_reg [4, 14] [4, 3, 1] [.c, .c, .c, (.ld (.e 2)), .c, .c, .c, (.ld (.e 3)), .c, .c, .c, .c, (.ld (.e 3)), .c, .c, .c, .c, (.st 0)] (fun ν12 => (inR .i64 (1 * c)) ∧ (inR .i64 ((aX i) * X)) ∧ (inR .i64 ((1 * c) + ((aX i) * X))) ∧ (inR .i64 ((aY i) * Y)) ∧ (inR .i64 (((1 * c) + ((aX i) * X)) + ((aY i) * Y))) ∧ (True)) (fun ν12 => [(ν1 1), (ν1 0), (ν1 0), (ν12 0)]) (fun ν12 => [(4, (.ptr (ν1 2) 0)), (14, (.ptr (ν12 0) 0))]) (fun ν12 => ⟨(ν12 0), true, .cells [(.int .u8 i), (.int .i64 (((1 * c) + ((aX i) * X)) + ((aY i) * Y)))]⟩ :: ⟨(ν1 2), true, .cells [(.int .u8 0), (.int .i64 0)]⟩ :: O) (fun ν12 => by kernel_rfl) (fun ν12 => ⟨(by simp only [inR]; omega), (by simp only [inR]; omega), (by simp only [inR]; omega), (by simp only [inR]; omega), (by simp only [inR]; omega), trivial⟩) ?_
        intro ν12
        refine C_assoc ?_
        refine X_reg [4, 14, 84] [] [(.ld (.e 0)), (.cl (.int .i64 e))] (fun _ => (SpecQ (BB mL) (RN mL (n+2)) 28 [(.agg [(.int .u8 i), (.int .i64 (((1 * c) + ((aX i) * X)) + ((aY i) * Y)))])] [] fun u N => u = (.int .i64 e) ∧ N = []) ∧ (True)) (fun _ => [(ν12 0)]) (fun _ => [(4, (.ptr (ν1 2) 0)), (14, (.ptr (ν12 0) 0)), (84, (.bool (decide (e ≠ 0))))]) (fun _ => ⟨(ν12 0), true, .cells [(.int .u8 i), (.int .i64 (((1 * c) + ((aX i) * X)) + ((aY i) * Y)))]⟩ :: ⟨(ν1 2), true, .cells [(.int .u8 0), (.int .i64 0)]⟩ :: O) (fun _ => by kernel_rfl) (fun _ => ⟨h28 i 1 _ hi4 (by decide) (by omega) (by omega), trivial⟩) ?_
        intro _
        refine C_if_dec rfl ?_ ?_
        · intro h3
          refine C_assoc ?_
          refine X_reg [4, 5] [0] [.c, (.st 1)] (fun _ => (True)) (fun _ => [(ν1 2)]) (fun _ => [(4, (.ptr (ν1 2) 0)), (5, (.int .i64 3))]) (fun _ => ⟨(ν1 2), true, .cells [(.int .u8 0), (.int .i64 0)]⟩ :: O) (fun _ => by kernel_rfl) (fun _ => trivial) ?_
          intro _
          refine C_ret ?_
          refine blockC_ret ?_
          refine thenC_ret ?_
          refine again_ret ?_
          refine blockC_ret ?_
          refine blockC_ret ?_
          refine thenC_ret ?_
          refine again_ret ?_
          refine blockC_ret ?_
          refine thenC_ret ?_
          exact RetQ_ret (vs := [(.agg [(.int .u8 0), (.int .i64 0)]), (.int .i64 3)]) (N := []) (ResV.cell rfl (.here) rfl (ResV.t rfl ResV.nil)) ⟨(by first | exact (r1 (by omega)).symm | exact (r0 i 1 hi4 (by decide) (by omega) (by omega) (by omega)).symm | exact (r0 i (-1) hi4 (by decide) (by omega) (by omega) (by omega)).symm | (exfalso; omega)), rfl⟩ (.cons _ (.refl _))
        · intro h3
          refine C_skip ?_
          refine X_reg [4, 5] [0] [(.ld (.e 0)), (.st 1)] (fun _ => (True)) (fun _ => [(ν12 0), (ν1 2)]) (fun _ => [(4, (.ptr (ν1 2) 0)), (5, (.int .i64 0))]) (fun _ => ⟨(ν1 2), true, .cells [(.int .u8 i), (.int .i64 (((1 * c) + ((aX i) * X)) + ((aY i) * Y)))]⟩ :: O) (fun _ => by kernel_rfl) (fun _ => trivial) ?_
          intro _
          refine W_ret ?_
          refine blockC_ret ?_
          refine thenC_ret ?_
          refine again_ret ?_
          refine blockC_ret ?_
          refine blockC_ret ?_
          refine thenC_ret ?_
          refine again_ret ?_
          refine blockC_ret ?_
          refine thenC_ret ?_
          exact RetQ_ret (vs := [(.agg [(.int .u8 i), (.int .i64 (((1 * c) + ((aX i) * X)) + ((aY i) * Y)))]), (.int .i64 0)]) (N := []) (ResV.cell rfl (.here) rfl (ResV.t rfl ResV.nil)) ⟨(by first | exact (r1 (by omega)).symm | exact (r0 i 1 hi4 (by decide) (by omega) (by omega) (by omega)).symm | exact (r0 i (-1) hi4 (by decide) (by omega) (by omega) (by omega)).symm | (exfalso; omega)), rfl⟩ (.cons _ (.refl _))
      · intro h2
        simp only [Bool.and_eq_true, Bool.or_eq_true, Bool.not_eq_true', Bool.and_eq_false_iff, Bool.or_eq_false_iff, Bool.not_eq_false', decide_eq_true_eq, decide_eq_false_iff_not, ne_eq, Decidable.not_not] at h2
        refine W_skip ?_
        refine X_end [2, 3, 4, 7, 8, 9, 10, 11, 48, 49, 50] [] [] (fun _ => (inR .i64 1) ∧ (True)) (fun _ => []) (fun _ => [(2, (.ptr (ν1 0) 0)), (3, (.ptr (ν1 1) 0)), (4, (.ptr (ν1 2) 0)), (7, (.int .i64 x)), (8, (.int .i64 y)), (9, (.int .u8 i)), (10, (.int .i64 (aX i))), (11, (.int .i64 (aY i))), (48, (.sl (ν8 0) 0 2 (some 2) 1)), (49, (.int .i64 2)), (50, (.int .i64 1))]) (fun _ => ⟨(ν8 0), true, .cells [(.int .i64 1), (.int .i64 (-1))]⟩ :: ⟨(ν1 2), true, .cells [(.int .u8 0), (.int .i64 0)]⟩ :: ⟨(ν1 1), true, .cells [(.int .u8 k), (.int .i64 c)]⟩ :: ⟨(ν1 0), true, .cells [(.int .u8 t), (.int .i64 X), (.int .i64 Y)]⟩ :: O) (fun _ => by kernel_rfl) (fun _ => ⟨(by simp only [inR]; omega), trivial⟩) ?_
        intro _
        exact again_of 1 ⟨rfl, rfl, rfl, rfl, rfl, rfl, rfl, rfl, rfl, rfl, rfl, trivial⟩ (.cons_cons _ (.cons_cons _ (.cons_cons _ (.cons_cons _ (.refl _))))) (Or.inr (Or.inl ⟨rfl, fun hq => by rcases hsg with q | q; (exact absurd ((hc i 1 hi4 (Or.inl rfl)).2 ⟨hq, q.symm⟩) (by omega)); exact q⟩)) (by show (3 - (1 : Int)).toNat < (3 - (0 : Int)).toNat; decide)
    · skip
      refine X_reg [2, 3, 4, 7, 8, 9, 10, 11, 48, 49, 50, 51] [] [] (fun _ => (True)) (fun _ => []) (fun _ => [(2, (.ptr (ν1 0) 0)), (3, (.ptr (ν1 1) 0)), (4, (.ptr (ν1 2) 0)), (7, (.int .i64 x)), (8, (.int .i64 y)), (9, (.int .u8 i)), (10, (.int .i64 (aX i))), (11, (.int .i64 (aY i))), (48, (.sl (ν8 0) 0 2 (some 2) 1)), (49, (.int .i64 2)), (50, (.int .i64 1)), (51, (.bool true))]) (fun _ => ⟨(ν8 0), true, .cells [(.int .i64 1), (.int .i64 (-1))]⟩ :: ⟨(ν1 2), true, .cells [(.int .u8 0), (.int .i64 0)]⟩ :: ⟨(ν1 1), true, .cells [(.int .u8 k), (.int .i64 c)]⟩ :: ⟨(ν1 0), true, .cells [(.int .u8 t), (.int .i64 X), (.int .i64 Y)]⟩ :: O) (fun _ => by kernel_rfl) (fun _ => trivial) ?_
      intro _
      refine C_if_t rfl ?_
      refine C_skip ?_
      refine C_block ?_
      refine X_reg [2, 3, 4, 7, 8, 9, 10, 11, 13, 48, 49, 50] [] [.c, (.ld (.e 0))] (fun _ => (0 ≤ (1 : Int) ∧ (1 : Int) < (2 : Nat)) ∧ (True)) (fun _ => [(ν8 0)]) (fun _ => [(2, (.ptr (ν1 0) 0)), (3, (.ptr (ν1 1) 0)), (4, (.ptr (ν1 2) 0)), (7, (.int .i64 x)), (8, (.int .i64 y)), (9, (.int .u8 i)), (10, (.int .i64 (aX i))), (11, (.int .i64 (aY i))), (13, (.int .i64 (-1))), (48, (.sl (ν8 0) 0 2 (some 2) 1)), (49, (.int .i64 2)), (50, (.int .i64 1))]) (fun _ => ⟨(ν8 0), true, .cells [(.int .i64 1), (.int .i64 (-1))]⟩ :: ⟨(ν1 2), true, .cells [(.int .u8 0), (.int .i64 0)]⟩ :: ⟨(ν1 1), true, .cells [(.int .u8 k), (.int .i64 c)]⟩ :: ⟨(ν1 0), true, .cells [(.int .u8 t), (.int .i64 X), (.int .i64 Y)]⟩ :: O) (fun _ => by kernel_rfl) (fun _ => ⟨(by omega), trivial⟩) ?_
      intro _
      refine X_reg [2, 3, 4, 7, 8, 9, 10, 11, 13, 48, 49, 50, 65] [] [.c, .c, .c, .c, .c, .c, (.g .c), (.g .c), (.g .c), (.g .c), (.g .c), .pk] (fun _ => (inR .i64 ((-1) * (aX i))) ∧ (((decide (x = ((-1) * (aX i)))) = true → inR .i64 ((-1) * (aY i)))) ∧ (True)) (fun _ => []) (fun _ => [(2, (.ptr (ν1 0) 0)), (3, (.ptr (ν1 1) 0)), (4, (.ptr (ν1 2) 0)), (7, (.int .i64 x)), (8, (.int .i64 y)), (9, (.int .u8 i)), (10, (.int .i64 (aX i))), (11, (.int .i64 (aY i))), (13, (.int .i64 (-1))), (48, (.sl (ν8 0) 0 2 (some 2) 1)), (49, (.int .i64 2)), (50, (.int .i64 1)), (65, (.bool ((decide (x = ((-1) * (aX i)))) && (decide (y = ((-1) * (aY i)))))))]) (fun _ => ⟨(ν8 0), true, .cells [(.int .i64 1), (.int .i64 (-1))]⟩ :: ⟨(ν1 2), true, .cells [(.int .u8 0), (.int .i64 0)]⟩ :: ⟨(ν1 1), true, .cells [(.int .u8 k), (.int .i64 c)]⟩ :: ⟨(ν1 0), true, .cells [(.int .u8 t), (.int .i64 X), (.int .i64 Y)]⟩ :: O) (fun _ => by kernel_rfl) (fun _ => ⟨(by simp only [inR]; omega), (fun hg => by first | (simp only [inR]; omega) | (simp at hg; simp only [inR]; omega)), trivial⟩) ?_
      intro _
      refine W_if rfl ?_ ?_
      · intro h4
        simp only [Bool.and_eq_true, Bool.or_eq_true, Bool.not_eq_true', Bool.and_eq_false_iff, Bool.or_eq_false_iff, Bool.not_eq_false', decide_eq_true_eq, decide_eq_false_iff_not, ne_eq, Decidable.not_not] at h4
        refine X_reg [4, 14] [4, 3, 1] [.c, .c, .c, (.ld (.e 2)), .c, .c, .c, (.ld (.e 3)), .c, .c, .c, .c, (.ld (.e 3)), .c, .c, .c, .c, (.st 0)] (fun ν20 => (inR .i64 ((-1) * c)) ∧ (inR .i64 ((aX i) * X)) ∧ (inR .i64 (((-1) * c) + ((aX i) * X))) ∧ (inR .i64 ((aY i) * Y)) ∧ (inR .i64 ((((-1) * c) + ((aX i) * X)) + ((aY i) * Y))) ∧ (True)) (fun ν20 => [(ν1 1), (ν1 0), (ν1 0), (ν20 0)]) (fun ν20 => [(4, (.ptr (ν1 2) 0)), (14, (.ptr (ν20 0) 0))]) (fun ν20 => ⟨(ν20 0), true, .cells [(.int .u8 i), (.int .i64 ((((-1) * c) + ((aX i) * X)) + ((aY i) * Y)))]⟩ :: ⟨(ν1 2), true, .cells [(.int .u8 0), (.int .i64 0)]⟩ :: O) (fun ν20 => by kernel_rfl) (fun ν20 => ⟨(by simp only [inR]; omega), (by simp only [inR]; omega), (by simp only [inR]; omega), (by simp only [inR]; omega), (by simp only [inR]; omega), trivial⟩) ?_
        intro ν20
        refine C_assoc ?_
        refine X_reg [4, 14, 84] [] [(.ld (.e 0)), (.cl (.int .i64 e))] (fun _ => (SpecQ (BB mL) (RN mL (n+2)) 28 [(.agg [(.int .u8 i), (.int .i64 ((((-1) * c) + ((aX i) * X)) + ((aY i) * Y)))])] [] fun u N => u = (.int .i64 e) ∧ N = []) ∧ (True)) (fun _ => [(ν20 0)]) (fun _ => [(4, (.ptr (ν1 2) 0)), (14, (.ptr (ν20 0) 0)), (84, (.bool (decide (e ≠ 0))))]) (fun _ => ⟨(ν20 0), true, .cells [(.int .u8 i), (.int .i64 ((((-1) * c) + ((aX i) * X)) + ((aY i) * Y)))]⟩ :: ⟨(ν1 2), true, .cells [(.int .u8 0), (.int .i64 0)]⟩ :: O) (fun _ => by kernel_rfl) (fun _ => ⟨h28 i (-1) _ hi4 (by decide) (by omega) (by omega), trivial⟩) ?_
        intro _
        refine C_if_dec rfl ?_ ?_
        · intro h5
          refine C_assoc ?_
          refine X_reg [4, 5] [0] [.c, (.st 1)] (fun _ => (True)) (fun _ => [(ν1 2)]) (fun _ => [(4, (.ptr (ν1 2) 0)), (5, (.int .i64 3))]) (fun _ => ⟨(ν1 2), true, .cells [(.int .u8 0), (.int .i64 0)]⟩ :: O) (fun _ => by kernel_rfl) (fun _ => trivial) ?_
          intro _
          refine C_ret ?_
          refine blockC_ret ?_
          refine thenC_ret ?_
          refine again_ret ?_
          refine blockC_ret ?_
          refine blockC_ret ?_
          refine thenC_ret ?_
          refine again_ret ?_
          refine blockC_ret ?_
          refine thenC_ret ?_
          exact RetQ_ret (vs := [(.agg [(.int .u8 0), (.int .i64 0)]), (.int .i64 3)]) (N := []) (ResV.cell rfl (.here) rfl (ResV.t rfl ResV.nil)) ⟨(by first | exact (r1 (by omega)).symm | exact (r0 i 1 hi4 (by decide) (by omega) (by omega) (by omega)).symm | exact (r0 i (-1) hi4 (by decide) (by omega) (by omega) (by omega)).symm | (exfalso; omega)), rfl⟩ (.cons _ (.refl _))
        · intro h5
          refine C_skip ?_
          refine X_reg [4, 5] [0] [(.ld (.e 0)), (.st 1)] (fun _ => (True)) (fun _ => [(ν20 0), (ν1 2)]) (fun _ => [(4, (.ptr (ν1 2) 0)), (5, (.int .i64 0))]) (fun _ => ⟨(ν1 2), true, .cells [(.int .u8 i), (.int .i64 ((((-1) * c) + ((aX i) * X)) + ((aY i) * Y)))]⟩ :: O) (fun _ => by kernel_rfl) (fun _ => trivial) ?_
          intro _
          refine W_ret ?_
          refine blockC_ret ?_
          refine thenC_ret ?_
          refine again_ret ?_
          refine blockC_ret ?_
          refine blockC_ret ?_
          refine thenC_ret ?_
          refine again_ret ?_
          refine blockC_ret ?_
          refine thenC_ret ?_
          exact RetQ_ret (vs := [(.agg [(.int .u8 i), (.int .i64 ((((-1) * c) + ((aX i) * X)) + ((aY i) * Y)))]), (.int .i64 0)]) (N := []) (ResV.cell rfl (.here) rfl (ResV.t rfl ResV.nil)) ⟨(by first | exact (r1 (by omega)).symm | exact (r0 i 1 hi4 (by decide) (by omega) (by omega) (by omega)).symm | exact (r0 i (-1) hi4 (by decide) (by omega) (by omega) (by omega)).symm | (exfalso; omega)), rfl⟩ (.cons _ (.refl _))
      · intro h4
        simp only [Bool.and_eq_true, Bool.or_eq_true, Bool.not_eq_true', Bool.and_eq_false_iff, Bool.or_eq_false_iff, Bool.not_eq_false', decide_eq_true_eq, decide_eq_false_iff_not, ne_eq, Decidable.not_not] at h4
        refine W_skip ?_
        refine X_end [2, 3, 4, 7, 8, 9, 10, 11, 48, 49, 50] [] [] (fun _ => (inR .i64 2) ∧ (True)) (fun _ => []) (fun _ => [(2, (.ptr (ν1 0) 0)), (3, (.ptr (ν1 1) 0)), (4, (.ptr (ν1 2) 0)), (7, (.int .i64 x)), (8, (.int .i64 y)), (9, (.int .u8 i)), (10, (.int .i64 (aX i))), (11, (.int .i64 (aY i))), (48, (.sl (ν8 0) 0 2 (some 2) 1)), (49, (.int .i64 2)), (50, (.int .i64 2))]) (fun _ => ⟨(ν8 0), true, .cells [(.int .i64 1), (.int .i64 (-1))]⟩ :: ⟨(ν1 2), true, .cells [(.int .u8 0), (.int .i64 0)]⟩ :: ⟨(ν1 1), true, .cells [(.int .u8 k), (.int .i64 c)]⟩ :: ⟨(ν1 0), true, .cells [(.int .u8 t), (.int .i64 X), (.int .i64 Y)]⟩ :: O) (fun _ => by kernel_rfl) (fun _ => ⟨(by simp only [inR]; omega), trivial⟩) ?_
        intro _
        exact again_of 2 ⟨rfl, rfl, rfl, rfl, rfl, rfl, rfl, rfl, rfl, rfl, rfl, trivial⟩ (.cons_cons _ (.cons_cons _ (.cons_cons _ (.cons_cons _ (.refl _))))) (Or.inr (Or.inr ⟨rfl, fun hq => absurd ((hc i (-1) hi4 (Or.inr rfl)).2 ⟨hq, (hj hq).symm⟩) (by omega)⟩)) (by show (3 - (2 : Int)).toNat < (3 - (1 : Int)).toNat; decide)
    · skip
      refine X_reg [2, 3, 4, 7, 8, 9, 10, 11, 48, 49, 50, 51] [] [] (fun _ => (True)) (fun _ => []) (fun _ => [(2, (.ptr (ν1 0) 0)), (3, (.ptr (ν1 1) 0)), (4, (.ptr (ν1 2) 0)), (7, (.int .i64 x)), (8, (.int .i64 y)), (9, (.int .u8 i)), (10, (.int .i64 (aX i))), (11, (.int .i64 (aY i))), (48, (.sl (ν8 0) 0 2 (some 2) 1)), (49, (.int .i64 2)), (50, (.int .i64 2)), (51, (.bool false))]) (fun _ => ⟨(ν8 0), true, .cells [(.int .i64 1), (.int .i64 (-1))]⟩ :: ⟨(ν1 2), true, .cells [(.int .u8 0), (.int .i64 0)]⟩ :: ⟨(ν1 1), true, .cells [(.int .u8 k), (.int .i64 c)]⟩ :: ⟨(ν1 0), true, .cells [(.int .u8 t), (.int .i64 X), (.int .i64 Y)]⟩ :: O) (fun _ => by kernel_rfl) (fun _ => trivial) ?_
      intro _
      refine C_if_f rfl ?_
      refine C_exit ?_
      refine X_end [2, 3, 4, 7, 8, 9] [0] [] (fun _ => (inR .u8 (i + 1)) ∧ (True)) (fun _ => []) (fun _ => [(2, (.ptr (ν1 0) 0)), (3, (.ptr (ν1 1) 0)), (4, (.ptr (ν1 2) 0)), (7, (.int .i64 x)), (8, (.int .i64 y)), (9, (.int .u8 (i + 1)))]) (fun _ => ⟨(ν1 2), true, .cells [(.int .u8 0), (.int .i64 0)]⟩ :: ⟨(ν1 1), true, .cells [(.int .u8 k), (.int .i64 c)]⟩ :: ⟨(ν1 0), true, .cells [(.int .u8 t), (.int .i64 X), (.int .i64 Y)]⟩ :: O) (fun _ => by kernel_rfl) (fun _ => ⟨(by simp only [inR]; omega), trivial⟩) ?_
      intro _
      exact again_of (i + 1) ⟨rfl, rfl, rfl, rfl, rfl, rfl, trivial⟩ (.cons_cons _ (.cons_cons _ (.cons_cons _ (.refl _)))) ⟨by omega, by omega⟩ (by show (5 - (i + 1)).toNat < (5 - i).toNat; omega)
  · intro h1
    refine C_exit ?_
    refine X_reg [4, 5] [2, 1] [.c, (.st 0)] (fun _ => (True)) (fun _ => [(ν1 2)]) (fun _ => [(4, (.ptr (ν1 2) 0)), (5, (.int .i64 3))]) (fun _ => ⟨(ν1 2), true, .cells [(.int .u8 0), (.int .i64 0)]⟩ :: O) (fun _ => by kernel_rfl) (fun _ => trivial) ?_
    intro _
    refine W_ret ?_
    exact RetQ_ret (vs := [(.agg [(.int .u8 0), (.int .i64 0)]), (.int .i64 3)]) (N := []) (ResV.cell rfl (.here) rfl (ResV.t rfl ResV.nil)) ⟨(by first | exact (r1 (by omega)).symm | exact (r0 i 1 hi4 (by decide) (by omega) (by omega) (by omega)).symm | exact (r0 i (-1) hi4 (by decide) (by omega) (by omega) (by omega)).symm | (exfalso; omega)), rfl⟩ (.cons _ (.refl _))
end Vm
end Go.Proofs.YtgncjbodicabnaaDoor

namespace Go.Proofs.YtgncjbodicabnaaDoor
namespace Vm
variable {mL : Int}
open Go Go.Vm Go.Vm.W
set_option maxRecDepth 100000
set_option linter.unusedVariables false
set_option linter.unusedSimpArgs false
attribute [local irreducible] W WO SpecQ runM

theorem o_bd {k c : Int} (h : vl k c) : (-8192 ≤ oX k c ∧ oX k c ≤ 8192) ∧ (-8192 ≤ oY k c ∧ oY k c ≤ 8192) := by
  obtain ⟨_, _, h3, h4⟩ := id h
  rcases four h with rfl | rfl | rfl | rfl <;> simp [oX, oY] <;> omega
theorem lC_bd {t k c X Y : Int} (ht : 0 ≤ t ∧ t ≤ 7) (h : vl k c) (hX : -16384 ≤ X ∧ X ≤ 16384) (hY : -16384 ≤ Y ∧ Y ≤ 16384) : -100000 ≤ lC t k c X Y ∧ lC t k c X Y ≤ 100000 := by
  have hk := lK_in ht (four h)
  have hi : one4 (lK t k) := by unfold one4; omega
  obtain ⟨a1, _, _, _⟩ := aX_mul hi hX
  obtain ⟨_, a2, _, _⟩ := aX_mul hi hY
  obtain ⟨_, _, h3, h4⟩ := h
  unfold lC
  rcases lS_in ht (four ⟨‹_›, ‹_›, h3, h4⟩) with e | e <;> rw [e] <;> omega
theorem s21_noA (n : Nat) (t X Y k c : Int) (h0 : 0 ≤ t ∧ t ≤ 255) (hv : ¬ vm t X Y) : SV mL (n+3) 21 [mvA t X Y, lnA k c] (.tup [lnA 0 0, .int .i64 1]) := by
  refine SpecQ_run (c := k21) rfl rfl rfl ?_
  intro ro O _
  refine X_reg [2, 3, 4] [] [] (fun ν1 => (True)) (fun ν1 => []) (fun ν1 => [(2, (.ptr (ν1 0) 0)), (3, (.ptr (ν1 1) 0)), (4, (.ptr (ν1 2) 0))]) (fun ν1 => ⟨(ν1 2), true, .cells [(.int .u8 0), (.int .i64 0)]⟩ :: ⟨(ν1 1), true, .cells [(.int .u8 k), (.int .i64 c)]⟩ :: ⟨(ν1 0), true, .cells [(.int .u8 t), (.int .i64 X), (.int .i64 Y)]⟩ :: O) (fun ν1 => by kernel_rfl) (fun ν1 => trivial) ?_
  intro ν1
  refine C_assoc ?_
  refine X_reg [2, 3, 4, 22] [] [(.ld (.e 2)), (.cl (.int .i64 1))] (fun _ => (SpecQ (BB mL) (RN mL (n+2)) 34 [(.agg [(.int .u8 t), (.int .i64 X), (.int .i64 Y)])] [] fun u N => u = (.int .i64 1) ∧ N = []) ∧ (True)) (fun _ => [(ν1 0)]) (fun _ => [(2, (.ptr (ν1 0) 0)), (3, (.ptr (ν1 1) 0)), (4, (.ptr (ν1 2) 0)), (22, (.bool true))]) (fun _ => ⟨(ν1 2), true, .cells [(.int .u8 0), (.int .i64 0)]⟩ :: ⟨(ν1 1), true, .cells [(.int .u8 k), (.int .i64 c)]⟩ :: ⟨(ν1 0), true, .cells [(.int .u8 t), (.int .i64 X), (.int .i64 Y)]⟩ :: O) (fun _ => by kernel_rfl) (fun _ => ⟨s34_no _ _ _ _ h0 hv, trivial⟩) ?_
  intro _
  refine C_if_t rfl ?_
  refine C_assoc ?_
  refine X_reg [4, 5] [2, 1] [.c, (.st 0)] (fun _ => (True)) (fun _ => [(ν1 2)]) (fun _ => [(4, (.ptr (ν1 2) 0)), (5, (.int .i64 1))]) (fun _ => ⟨(ν1 2), true, .cells [(.int .u8 0), (.int .i64 0)]⟩ :: O) (fun _ => by kernel_rfl) (fun _ => trivial) ?_
  intro _
  refine C_ret ?_
  exact RetQ_ret (vs := [(.agg [(.int .u8 0), (.int .i64 0)]), (.int .i64 1)]) (N := []) (ResV.cell rfl (.here) rfl (ResV.t rfl ResV.nil)) ⟨by rfl, rfl⟩ (.cons _ (.refl _))
theorem s21_noB (n : Nat) (t X Y k c : Int) (h0 : 0 ≤ t) (hv : vm t X Y) (hl : ¬ vl k c) : SV mL (n+3) 21 [mvA t X Y, lnA k c] (.tup [lnA 0 0, .int .i64 1]) := by
  refine SpecQ_run (c := k21) rfl rfl rfl ?_
  intro ro O _
  refine X_reg [2, 3, 4] [] [] (fun ν1 => (True)) (fun ν1 => []) (fun ν1 => [(2, (.ptr (ν1 0) 0)), (3, (.ptr (ν1 1) 0)), (4, (.ptr (ν1 2) 0))]) (fun ν1 => ⟨(ν1 2), true, .cells [(.int .u8 0), (.int .i64 0)]⟩ :: ⟨(ν1 1), true, .cells [(.int .u8 k), (.int .i64 c)]⟩ :: ⟨(ν1 0), true, .cells [(.int .u8 t), (.int .i64 X), (.int .i64 Y)]⟩ :: O) (fun ν1 => by kernel_rfl) (fun ν1 => trivial) ?_
  intro ν1
  refine C_assoc ?_
  refine X_reg [2, 3, 4, 22] [] [(.ld (.e 2)), (.cl (.int .i64 0)), .c, .c, (.ld (.e 1)), (.cl (.int .i64 1))] (fun _ => (SpecQ (BB mL) (RN mL (n+2)) 34 [(.agg [(.int .u8 t), (.int .i64 X), (.int .i64 Y)])] [] fun u N => u = (.int .i64 0) ∧ N = []) ∧ (SpecQ (BB mL) (RN mL (n+2)) 28 [(.agg [(.int .u8 k), (.int .i64 c)])] [] fun u N => u = (.int .i64 1) ∧ N = []) ∧ (True)) (fun _ => [(ν1 0), (ν1 1)]) (fun _ => [(2, (.ptr (ν1 0) 0)), (3, (.ptr (ν1 1) 0)), (4, (.ptr (ν1 2) 0)), (22, (.bool true))]) (fun _ => ⟨(ν1 2), true, .cells [(.int .u8 0), (.int .i64 0)]⟩ :: ⟨(ν1 1), true, .cells [(.int .u8 k), (.int .i64 c)]⟩ :: ⟨(ν1 0), true, .cells [(.int .u8 t), (.int .i64 X), (.int .i64 Y)]⟩ :: O) (fun _ => by kernel_rfl) (fun _ => ⟨s34 _ _ _ _ ⟨h0, by have := hv.1; omega⟩ hv, s28_no _ _ _ hl, trivial⟩) ?_
  intro _
  refine C_if_t rfl ?_
  refine C_assoc ?_
  refine X_reg [4, 5] [2, 1] [.c, (.st 0)] (fun _ => (True)) (fun _ => [(ν1 2)]) (fun _ => [(4, (.ptr (ν1 2) 0)), (5, (.int .i64 1))]) (fun _ => ⟨(ν1 2), true, .cells [(.int .u8 0), (.int .i64 0)]⟩ :: O) (fun _ => by kernel_rfl) (fun _ => trivial) ?_
  intro _
  refine C_ret ?_
  exact RetQ_ret (vs := [(.agg [(.int .u8 0), (.int .i64 0)]), (.int .i64 1)]) (N := []) (ResV.cell rfl (.here) rfl (ResV.t rfl ResV.nil)) ⟨by rfl, rfl⟩ (.cons _ (.refl _))
theorem s24g (n : Nat) (t x y s a b : Int) (ht : 0 ≤ t ∧ t ≤ 7) (hs : 0 ≤ s ∧ s ≤ 7) (hx : -30000 ≤ x ∧ x ≤ 30000) (hy : -30000 ≤ y ∧ y ≤ 30000) (ha : -30000 ≤ a ∧ a ≤ 30000) (hb : -30000 ≤ b ∧ b ≤ 30000) : SV mL (n+3) 24 [mvA t x y, mvA s a b] (mvA (cmp t s) (mx s x y + a) (my s x y + b)) := by
  have c1 := mx_bd hs (M := 30000) hx hy
  have c2 := my_bd hs (M := 30000) hx hy
  have d1 := mx_bd ht (x := 0) (y := 0) (M := 2) (by omega) (by omega)
  have d2 := my_bd ht (x := 0) (y := 0) (M := 2) (by omega) (by omega)
  have d3 := mx_bd ht (x := 2) (y := 0) (M := 2) (by omega) (by omega)
  have d4 := my_bd ht (x := 2) (y := 0) (M := 2) (by omega) (by omega)
  have d5 := mx_bd ht (x := 0) (y := 2) (M := 2) (by omega) (by omega)
  have d6 := my_bd ht (x := 0) (y := 2) (M := 2) (by omega) (by omega)
  have e : ∀ p q, mx s (mx t p q + 2 * x) (my t p q + 2 * y) + 2 * a = mx (cmp t s) p q + 2 * (mx s x y + a) := fun p q => by rw [mx_add hs, cmp_mx ht hs]; omega
  have f : ∀ p q, my s (mx t p q + 2 * x) (my t p q + 2 * y) + 2 * b = my (cmp t s) p q + 2 * (my s x y + b) := fun p q => by rw [my_add hs, cmp_my ht hs]; omega
  have e0 : mx s (mx t 0 0 + 2 * x) (my t 0 0 + 2 * y) + 2 * a = 2 * (mx s x y + a) := by rw [e, mx_zero]; omega
  have f0 : my s (mx t 0 0 + 2 * x) (my t 0 0 + 2 * y) + 2 * b = 2 * (my s x y + b) := by rw [f, my_zero]; omega
  refine SpecQ_run (c := k24) rfl rfl rfl ?_
  intro ro O _
  refine X_reg [2, 3, 4] [] [] (fun ν1 => (True)) (fun ν1 => []) (fun ν1 => [(2, (.ptr (ν1 0) 0)), (3, (.ptr (ν1 1) 0)), (4, (.ptr (ν1 2) 0))]) (fun ν1 => ⟨(ν1 2), true, .cells [(.int .u8 0), (.int .i64 0), (.int .i64 0)]⟩ :: ⟨(ν1 1), true, .cells [(.int .u8 s), (.int .i64 a), (.int .i64 b)]⟩ :: ⟨(ν1 0), true, .cells [(.int .u8 t), (.int .i64 x), (.int .i64 y)]⟩ :: O) (fun ν1 => by kernel_rfl) (fun ν1 => trivial) ?_
  intro ν1
  refine X_reg [4] [2, 1] [(.ld (.e 1)), (.ld (.e 2)), .c, (.cl (.agg [(.int .i64 (mx t 0 0 + 2 * x)), (.int .i64 (my t 0 0 + 2 * y))])), (.cl (.agg [(.int .i64 (mx s (mx t 0 0 + 2 * x) (my t 0 0 + 2 * y) + 2 * a)), (.int .i64 (my s (mx t 0 0 + 2 * x) (my t 0 0 + 2 * y) + 2 * b))])), (.ld (.e 1)), (.ld (.e 2)), .c, (.cl (.agg [(.int .i64 (mx t 2 0 + 2 * x)), (.int .i64 (my t 2 0 + 2 * y))])), (.cl (.agg [(.int .i64 (mx s (mx t 2 0 + 2 * x) (my t 2 0 + 2 * y) + 2 * a)), (.int .i64 (my s (mx t 2 0 + 2 * x) (my t 2 0 + 2 * y) + 2 * b))])), (.ld (.e 1)), (.ld (.e 2)), .c, (.cl (.agg [(.int .i64 (mx t 0 2 + 2 * x)), (.int .i64 (my t 0 2 + 2 * y))])), (.cl (.agg [(.int .i64 (mx s (mx t 0 2 + 2 * x) (my t 0 2 + 2 * y) + 2 * a)), (.int .i64 (my s (mx t 0 2 + 2 * x) (my t 0 2 + 2 * y) + 2 * b))])), (.cl (.agg [(.int .u8 (cmp t s)), (.int .i64 (mx s x y + a)), (.int .i64 (my s x y + b))])), (.st 0)] (fun _ => (SpecQ (BB mL) (RN mL (n+2)) 20 [(.agg [(.int .u8 t), (.int .i64 x), (.int .i64 y)]), (.agg [(.int .i64 0), (.int .i64 0)])] [] fun u N => u = (.agg [(.int .i64 (mx t 0 0 + 2 * x)), (.int .i64 (my t 0 0 + 2 * y))]) ∧ N = []) ∧ (SpecQ (BB mL) (RN mL (n+2)) 20 [(.agg [(.int .u8 s), (.int .i64 a), (.int .i64 b)]), (.agg [(.int .i64 (mx t 0 0 + 2 * x)), (.int .i64 (my t 0 0 + 2 * y))])] [] fun u N => u = (.agg [(.int .i64 (mx s (mx t 0 0 + 2 * x) (my t 0 0 + 2 * y) + 2 * a)), (.int .i64 (my s (mx t 0 0 + 2 * x) (my t 0 0 + 2 * y) + 2 * b))]) ∧ N = []) ∧ (SpecQ (BB mL) (RN mL (n+2)) 20 [(.agg [(.int .u8 t), (.int .i64 x), (.int .i64 y)]), (.agg [(.int .i64 2), (.int .i64 0)])] [] fun u N => u = (.agg [(.int .i64 (mx t 2 0 + 2 * x)), (.int .i64 (my t 2 0 + 2 * y))]) ∧ N = []) ∧ (SpecQ (BB mL) (RN mL (n+2)) 20 [(.agg [(.int .u8 s), (.int .i64 a), (.int .i64 b)]), (.agg [(.int .i64 (mx t 2 0 + 2 * x)), (.int .i64 (my t 2 0 + 2 * y))])] [] fun u N => u = (.agg [(.int .i64 (mx s (mx t 2 0 + 2 * x) (my t 2 0 + 2 * y) + 2 * a)), (.int .i64 (my s (mx t 2 0 + 2 * x) (my t 2 0 + 2 * y) + 2 * b))]) ∧ N = []) ∧ (SpecQ (BB mL) (RN mL (n+2)) 20 [(.agg [(.int .u8 t), (.int .i64 x), (.int .i64 y)]), (.agg [(.int .i64 0), (.int .i64 2)])] [] fun u N => u = (.agg [(.int .i64 (mx t 0 2 + 2 * x)), (.int .i64 (my t 0 2 + 2 * y))]) ∧ N = []) ∧ (SpecQ (BB mL) (RN mL (n+2)) 20 [(.agg [(.int .u8 s), (.int .i64 a), (.int .i64 b)]), (.agg [(.int .i64 (mx t 0 2 + 2 * x)), (.int .i64 (my t 0 2 + 2 * y))])] [] fun u N => u = (.agg [(.int .i64 (mx s (mx t 0 2 + 2 * x) (my t 0 2 + 2 * y) + 2 * a)), (.int .i64 (my s (mx t 0 2 + 2 * x) (my t 0 2 + 2 * y) + 2 * b))]) ∧ N = []) ∧ (SpecQ (BB mL) (RN mL (n+2)) 46 [(.agg [(.int .i64 (mx s (mx t 0 0 + 2 * x) (my t 0 0 + 2 * y) + 2 * a)), (.int .i64 (my s (mx t 0 0 + 2 * x) (my t 0 0 + 2 * y) + 2 * b))]), (.agg [(.int .i64 (mx s (mx t 2 0 + 2 * x) (my t 2 0 + 2 * y) + 2 * a)), (.int .i64 (my s (mx t 2 0 + 2 * x) (my t 2 0 + 2 * y) + 2 * b))]), (.agg [(.int .i64 (mx s (mx t 0 2 + 2 * x) (my t 0 2 + 2 * y) + 2 * a)), (.int .i64 (my s (mx t 0 2 + 2 * x) (my t 0 2 + 2 * y) + 2 * b))])] [] fun u N => u = (.agg [(.int .u8 (cmp t s)), (.int .i64 (mx s x y + a)), (.int .i64 (my s x y + b))]) ∧ N = []) ∧ (True)) (fun _ => [(ν1 1), (ν1 0), (ν1 1), (ν1 0), (ν1 1), (ν1 0), (ν1 2)]) (fun _ => [(4, (.ptr (ν1 2) 0))]) (fun _ => ⟨(ν1 2), true, .cells [(.int .u8 (cmp t s)), (.int .i64 (mx s x y + a)), (.int .i64 (my s x y + b))]⟩ :: O) (fun _ => by kernel_rfl) (fun _ => ⟨s20 _ t _ _ _ _ (by omega) (by omega) (by omega) (by omega) (by omega), s20 _ s _ _ _ _ (by omega) (by omega) (by omega) (by omega) (by omega), s20 _ t _ _ _ _ (by omega) (by omega) (by omega) (by omega) (by omega), s20 _ s _ _ _ _ (by omega) (by omega) (by omega) (by omega) (by omega), s20 _ t _ _ _ _ (by omega) (by omega) (by omega) (by omega) (by omega), s20 _ s _ _ _ _ (by omega) (by omega) (by omega) (by omega) (by omega), s46 _ (cmp t s) (mx s x y + a) (my s x y + b) _ _ _ _ _ _ (cmp_in ht hs) (by omega) (by omega) e0 f0 (e _ _) (f _ _) (e _ _) (f _ _), trivial⟩) ?_
  intro _
  refine W_ret ?_
  exact RetQ_ret (vs := [(.agg [(.int .u8 (cmp t s)), (.int .i64 (mx s x y + a)), (.int .i64 (my s x y + b))])]) (N := []) (ResV.cell rfl (.here) rfl ResV.nil) ⟨by rfl, rfl⟩ (.cons _ (.refl _))
theorem l_ei {t k c X Y : Int} (ht : 0 ≤ t ∧ t ≤ 7) (hk : one4 k) (i : Int) (hi : 1 ≤ i ∧ i ≤ 4) : (aX i * lu1 t k c X + aY i * lu2 t k c Y = aX i * lv1 t k c X + aY i * lv2 t k c Y) ↔ i = lK t k :=
  (l_e ht hk (by unfold one4; omega)).trans eq_comm
theorem s23 (n : Nat) (t X Y k c : Int) (h0 : 0 ≤ t) (hv : vm t X Y) (hl : vl k c) : SV mL (n+3) 23 [mvA t X Y, lnA k c] (lnA (lK t k) (lC t k c X Y)) := by
  have ht := vm_t h0 hv
  have hk := four hl
  obtain ⟨v1, v2, v3, v4, v5, v6⟩ := id hv
  obtain ⟨b1, b2⟩ := o_bd hl
  obtain ⟨_, _, b3, b4⟩ := aX_mul hk (X := 0) (by decide)
  have c1 := mx_bd ht (M := 10000) (x := oX k c) (y := oY k c) (by omega) (by omega)
  have c2 := my_bd ht (M := 10000) (x := oX k c) (y := oY k c) (by omega) (by omega)
  have c3 := mx_bd ht (M := 10000) (x := oX k c - 2 * aY k) (y := oY k c + 2 * aX k) (by omega) (by omega)
  have c4 := my_bd ht (M := 10000) (x := oX k c - 2 * aY k) (y := oY k c + 2 * aX k) (by omega) (by omega)
  have hd := l_d (c := c) (X := X) (Y := Y) ht hk
  have hL := lC_bd ht hl ⟨v2, v3⟩ ⟨v4, v5⟩
  exact s23h n t X Y k c (lu1 t k c X) (lu2 t k c Y) (lv1 t k c X) (lv2 t k c Y) (lK t k) (lC t k c X Y) _ _ _ _ (fun m => s44 m k c hl)
    (fun m => s20 m t X Y _ _ (by omega) (by omega) (by omega) (by omega) (by omega)) (fun m => s20 m t X Y _ _ (by omega) (by omega) (by omega) (by omega) (by omega))
    (by simp only [lu1]; omega) (by simp only [lu2]; omega) (by simp only [lv1]; omega) (by simp only [lv2]; omega) (lK_in ht hk)
    (fun i hi => l_ei ht hk i hi) (by omega) (fun i hi h => by rw [h]; exact hd)
theorem s21c (n : Nat) (t X Y k c e : Int) (R : AV) (h0 : 0 ≤ t) (hv : vm t X Y) (hl : vl k c) (h28 : ∀ m, SV mL (m+1) 28 [lnA (lK t k) (lC t k c X Y)] (.int .i64 e))
    (r0 : e = 0 → R = .tup [lnA (lK t k) (lC t k c X Y), .int .i64 0]) (r1 : e ≠ 0 → R = .tup [lnA 0 0, .int .i64 3]) : SV mL (n+3) 21 [mvA t X Y, lnA k c] R := by
  have ht := vm_t h0 hv
  have hk := four hl
  obtain ⟨_, _, b3, b4⟩ := aX_mul hk (X := 0) (by decide)
  refine s21h n t X Y k c (mx t (aX k) (aY k)) (my t (aX k) (aY k)) (lK t k) (lS t k) e R h0 hv hl (fun m => s37 m t _ _ ht (by omega) (by omega)) (lK_in ht hk) (lS_in ht hk)
    (fun i s hi hs => l_cond ht hk (by unfold one4; omega) hs) (fun i s m hi hs e1 e2 => ?_) (fun i s hi hs e1 e2 h => ?_) r1
  · obtain ⟨rfl, rfl⟩ := (l_cond ht hk (show one4 i by unfold one4; omega) hs).1 ⟨e1, e2⟩
    exact h28 m
  · obtain ⟨rfl, rfl⟩ := (l_cond ht hk (show one4 i by unfold one4; omega) hs).1 ⟨e1, e2⟩
    exact r0 h
theorem s21 (n : Nat) (t X Y k c : Int) (h0 : 0 ≤ t) (hv : vm t X Y) (hl : vl k c) (hL : vl (lK t k) (lC t k c X Y)) : SV mL (n+3) 21 [mvA t X Y, lnA k c] (.tup [lnA (lK t k) (lC t k c X Y), .int .i64 0]) :=
  s21c n t X Y k c 0 _ h0 hv hl (fun m => s28 m _ _ hL) (fun _ => rfl) (fun h => absurd rfl h)
theorem s21_far (n : Nat) (t X Y k c : Int) (h0 : 0 ≤ t) (hv : vm t X Y) (hl : vl k c) (hL : ¬ vl (lK t k) (lC t k c X Y)) : SV mL (n+3) 21 [mvA t X Y, lnA k c] (.tup [lnA 0 0, .int .i64 3]) :=
  s21c n t X Y k c 1 _ h0 hv hl (fun m => s28_no m _ _ hL) (fun h => absurd h (by decide)) (fun _ => rfl)
theorem s5_A (n : Nat) (t X Y k c : Int) (h0 : 0 ≤ t ∧ t ≤ 255) (hv : ¬ vm t X Y) : SV mL (n+10) 5 [mvA t X Y, lnA k c] (.bool true) := by
  refine SpecQ_run (c := k5) rfl rfl rfl ?_
  intro ro O _
  refine X_reg [2, 3] [] [] (fun ν1 => (True)) (fun ν1 => []) (fun ν1 => [(2, (.ptr (ν1 0) 0)), (3, (.ptr (ν1 1) 0))]) (fun ν1 => ⟨(ν1 1), true, .cells [(.int .u8 k), (.int .i64 c)]⟩ :: ⟨(ν1 0), true, .cells [(.int .u8 t), (.int .i64 X), (.int .i64 Y)]⟩ :: O) (fun ν1 => by kernel_rfl) (fun ν1 => trivial) ?_
  intro ν1
  refine X_reg [2, 3, 5, 6] [] [(.ld (.e 1)), (.ld (.e 0)), (.cl (.tup [(.agg [(.int .u8 0), (.int .i64 0)]), (.int .i64 1)])), .c, .c, .c, .c, (.st 0)] (fun ν2 => (SpecQ (BB mL) (RN mL (n+9)) 21 [(.agg [(.int .u8 t), (.int .i64 X), (.int .i64 Y)]), (.agg [(.int .u8 k), (.int .i64 c)])] [] fun u N => u = (.tup [(.agg [(.int .u8 0), (.int .i64 0)]), (.int .i64 1)]) ∧ N = []) ∧ (True)) (fun ν2 => [(ν1 0), (ν1 1), (ν2 0)]) (fun ν2 => [(2, (.ptr (ν1 0) 0)), (3, (.ptr (ν1 1) 0)), (5, (.ptr (ν2 0) 0)), (6, (.int .i64 1))]) (fun ν2 => ⟨(ν2 0), true, .cells [(.int .u8 0), (.int .i64 0)]⟩ :: ⟨(ν1 1), true, .cells [(.int .u8 k), (.int .i64 c)]⟩ :: ⟨(ν1 0), true, .cells [(.int .u8 t), (.int .i64 X), (.int .i64 Y)]⟩ :: O) (fun ν2 => by kernel_rfl) (fun ν2 => ⟨s21_noA _ _ _ _ _ _ h0 hv, trivial⟩) ?_
  intro ν2
  refine C_assoc ?_
  refine X_reg [2, 3, 5, 6, 24] [] [(.ld (.e 2)), (.cl (.int .i64 0))] (fun _ => (SpecQ (BB mL) (RN mL (n+9)) 13 [(.agg [(.int .u8 t), (.int .i64 X), (.int .i64 Y)])] [] fun u N => u = (.int .i64 0) ∧ N = []) ∧ (True)) (fun _ => [(ν1 0)]) (fun _ => [(2, (.ptr (ν1 0) 0)), (3, (.ptr (ν1 1) 0)), (5, (.ptr (ν2 0) 0)), (6, (.int .i64 1)), (24, (.bool true))]) (fun _ => ⟨(ν2 0), true, .cells [(.int .u8 0), (.int .i64 0)]⟩ :: ⟨(ν1 1), true, .cells [(.int .u8 k), (.int .i64 c)]⟩ :: ⟨(ν1 0), true, .cells [(.int .u8 t), (.int .i64 X), (.int .i64 Y)]⟩ :: O) (fun _ => by kernel_rfl) (fun _ => ⟨s13_no _ _ _ _ h0 hv, trivial⟩) ?_
  intro _
  refine C_if_t rfl ?_
  refine C_assoc ?_
  refine X_reg [4] [2, 1, 0] [.c, .c, .c, (.ld (.e 0)), .c, .c, .c, .c, (.cl (.bool true))] (fun _ => (SpecQ (BB mL) (RN mL (n+9)) 14 [] [] fun u N => u = (.bool true) ∧ N = []) ∧ (True)) (fun _ => [(ν2 0)]) (fun _ => [(4, (.bool true))]) (fun _ => O) (fun _ => by kernel_rfl) (fun _ => ⟨s14 _, trivial⟩) ?_
  intro _
  refine C_ret ?_
  exact RetQ_ret (vs := [(.bool true)]) (N := []) (ResV.t rfl ResV.nil) ⟨by first | rfl | (show AV.bool _ = _; simp), rfl⟩ (.refl _)
theorem s5_B (n : Nat) (t X Y k c : Int) (h0 : 0 ≤ t ∧ t ≤ 255) (hv : vm t X Y) (hl : ¬ vl k c) : SV mL (n+10) 5 [mvA t X Y, lnA k c] (.bool true) := by
  refine SpecQ_run (c := k5) rfl rfl rfl ?_
  intro ro O _
  refine X_reg [2, 3] [] [] (fun ν1 => (True)) (fun ν1 => []) (fun ν1 => [(2, (.ptr (ν1 0) 0)), (3, (.ptr (ν1 1) 0))]) (fun ν1 => ⟨(ν1 1), true, .cells [(.int .u8 k), (.int .i64 c)]⟩ :: ⟨(ν1 0), true, .cells [(.int .u8 t), (.int .i64 X), (.int .i64 Y)]⟩ :: O) (fun ν1 => by kernel_rfl) (fun ν1 => trivial) ?_
  intro ν1
  refine X_reg [2, 3, 5, 6] [] [(.ld (.e 1)), (.ld (.e 0)), (.cl (.tup [(.agg [(.int .u8 0), (.int .i64 0)]), (.int .i64 1)])), .c, .c, .c, .c, (.st 0)] (fun ν2 => (SpecQ (BB mL) (RN mL (n+9)) 21 [(.agg [(.int .u8 t), (.int .i64 X), (.int .i64 Y)]), (.agg [(.int .u8 k), (.int .i64 c)])] [] fun u N => u = (.tup [(.agg [(.int .u8 0), (.int .i64 0)]), (.int .i64 1)]) ∧ N = []) ∧ (True)) (fun ν2 => [(ν1 0), (ν1 1), (ν2 0)]) (fun ν2 => [(2, (.ptr (ν1 0) 0)), (3, (.ptr (ν1 1) 0)), (5, (.ptr (ν2 0) 0)), (6, (.int .i64 1))]) (fun ν2 => ⟨(ν2 0), true, .cells [(.int .u8 0), (.int .i64 0)]⟩ :: ⟨(ν1 1), true, .cells [(.int .u8 k), (.int .i64 c)]⟩ :: ⟨(ν1 0), true, .cells [(.int .u8 t), (.int .i64 X), (.int .i64 Y)]⟩ :: O) (fun ν2 => by kernel_rfl) (fun ν2 => ⟨s21_noB _ _ _ _ _ _ h0.1 hv hl, trivial⟩) ?_
  intro ν2
  refine C_assoc ?_
  refine X_reg [2, 3, 5, 6, 24] [] [(.ld (.e 2)), (.cl (.int .i64 1)), .c, .c, (.ld (.e 1)), (.cl (.int .i64 0))] (fun _ => (SpecQ (BB mL) (RN mL (n+9)) 13 [(.agg [(.int .u8 t), (.int .i64 X), (.int .i64 Y)])] [] fun u N => u = (.int .i64 1) ∧ N = []) ∧ (SpecQ (BB mL) (RN mL (n+9)) 22 [(.agg [(.int .u8 k), (.int .i64 c)])] [] fun u N => u = (.int .i64 0) ∧ N = []) ∧ (True)) (fun _ => [(ν1 0), (ν1 1)]) (fun _ => [(2, (.ptr (ν1 0) 0)), (3, (.ptr (ν1 1) 0)), (5, (.ptr (ν2 0) 0)), (6, (.int .i64 1)), (24, (.bool true))]) (fun _ => ⟨(ν2 0), true, .cells [(.int .u8 0), (.int .i64 0)]⟩ :: ⟨(ν1 1), true, .cells [(.int .u8 k), (.int .i64 c)]⟩ :: ⟨(ν1 0), true, .cells [(.int .u8 t), (.int .i64 X), (.int .i64 Y)]⟩ :: O) (fun _ => by kernel_rfl) (fun _ => ⟨s13 _ _ _ _ h0 hv, s22_no _ _ _ hl, trivial⟩) ?_
  intro _
  refine C_if_t rfl ?_
  refine C_assoc ?_
  refine X_reg [4] [2, 1, 0] [.c, .c, .c, (.ld (.e 0)), .c, .c, .c, .c, (.cl (.bool true))] (fun _ => (SpecQ (BB mL) (RN mL (n+9)) 14 [] [] fun u N => u = (.bool true) ∧ N = []) ∧ (True)) (fun _ => [(ν2 0)]) (fun _ => [(4, (.bool true))]) (fun _ => O) (fun _ => by kernel_rfl) (fun _ => ⟨s14 _, trivial⟩) ?_
  intro _
  refine C_ret ?_
  exact RetQ_ret (vs := [(.bool true)]) (N := []) (ResV.t rfl ResV.nil) ⟨by first | rfl | (show AV.bool _ = _; simp), rfl⟩ (.refl _)
theorem s5_C (n : Nat) (t X Y k c : Int) (h0 : 0 ≤ t ∧ t ≤ 255) (hv : vm t X Y) (hl : vl k c) (hL : ¬ vl (lK t k) (lC t k c X Y)) : SV mL (n+10) 5 [mvA t X Y, lnA k c] (.bool true) := by
  refine SpecQ_run (c := k5) rfl rfl rfl ?_
  intro ro O _
  refine X_reg [2, 3] [] [] (fun ν1 => (True)) (fun ν1 => []) (fun ν1 => [(2, (.ptr (ν1 0) 0)), (3, (.ptr (ν1 1) 0))]) (fun ν1 => ⟨(ν1 1), true, .cells [(.int .u8 k), (.int .i64 c)]⟩ :: ⟨(ν1 0), true, .cells [(.int .u8 t), (.int .i64 X), (.int .i64 Y)]⟩ :: O) (fun ν1 => by kernel_rfl) (fun ν1 => trivial) ?_
  intro ν1
  refine X_reg [2, 3, 5, 6] [] [(.ld (.e 1)), (.ld (.e 0)), (.cl (.tup [(.agg [(.int .u8 0), (.int .i64 0)]), (.int .i64 3)])), .c, .c, .c, .c, (.st 0)] (fun ν2 => (SpecQ (BB mL) (RN mL (n+9)) 21 [(.agg [(.int .u8 t), (.int .i64 X), (.int .i64 Y)]), (.agg [(.int .u8 k), (.int .i64 c)])] [] fun u N => u = (.tup [(.agg [(.int .u8 0), (.int .i64 0)]), (.int .i64 3)]) ∧ N = []) ∧ (True)) (fun ν2 => [(ν1 0), (ν1 1), (ν2 0)]) (fun ν2 => [(2, (.ptr (ν1 0) 0)), (3, (.ptr (ν1 1) 0)), (5, (.ptr (ν2 0) 0)), (6, (.int .i64 3))]) (fun ν2 => ⟨(ν2 0), true, .cells [(.int .u8 0), (.int .i64 0)]⟩ :: ⟨(ν1 1), true, .cells [(.int .u8 k), (.int .i64 c)]⟩ :: ⟨(ν1 0), true, .cells [(.int .u8 t), (.int .i64 X), (.int .i64 Y)]⟩ :: O) (fun ν2 => by kernel_rfl) (fun ν2 => ⟨s21_far _ _ _ _ _ _ h0.1 hv hl hL, trivial⟩) ?_
  intro ν2
  refine C_assoc ?_
  refine X_reg [2, 3, 5, 6, 24] [] [(.ld (.e 2)), (.cl (.int .i64 1)), .c, .c, (.ld (.e 1)), (.cl (.int .i64 1))] (fun _ => (SpecQ (BB mL) (RN mL (n+9)) 13 [(.agg [(.int .u8 t), (.int .i64 X), (.int .i64 Y)])] [] fun u N => u = (.int .i64 1) ∧ N = []) ∧ (SpecQ (BB mL) (RN mL (n+9)) 22 [(.agg [(.int .u8 k), (.int .i64 c)])] [] fun u N => u = (.int .i64 1) ∧ N = []) ∧ (True)) (fun _ => [(ν1 0), (ν1 1)]) (fun _ => [(2, (.ptr (ν1 0) 0)), (3, (.ptr (ν1 1) 0)), (5, (.ptr (ν2 0) 0)), (6, (.int .i64 3)), (24, (.bool false))]) (fun _ => ⟨(ν2 0), true, .cells [(.int .u8 0), (.int .i64 0)]⟩ :: ⟨(ν1 1), true, .cells [(.int .u8 k), (.int .i64 c)]⟩ :: ⟨(ν1 0), true, .cells [(.int .u8 t), (.int .i64 X), (.int .i64 Y)]⟩ :: O) (fun _ => by kernel_rfl) (fun _ => ⟨s13 _ _ _ _ h0 hv, s22 _ _ _ hl, trivial⟩) ?_
  intro _
  refine C_if_f rfl ?_
  refine C_skip ?_
  refine X_reg [2, 3, 5, 6, 7] [] [(.ld (.e 2)), (.ld (.e 1)), (.cl (.agg [(.int .u8 (lK t k)), (.int .i64 (lC t k c X Y))])), .c, (.st 0)] (fun ν4 => (SpecQ (BB mL) (RN mL (n+9)) 23 [(.agg [(.int .u8 t), (.int .i64 X), (.int .i64 Y)]), (.agg [(.int .u8 k), (.int .i64 c)])] [] fun u N => u = (.agg [(.int .u8 (lK t k)), (.int .i64 (lC t k c X Y))]) ∧ N = []) ∧ (True)) (fun ν4 => [(ν1 0), (ν1 1), (ν4 0)]) (fun ν4 => [(2, (.ptr (ν1 0) 0)), (3, (.ptr (ν1 1) 0)), (5, (.ptr (ν2 0) 0)), (6, (.int .i64 3)), (7, (.ptr (ν4 0) 0))]) (fun ν4 => ⟨(ν4 0), true, .cells [(.int .u8 (lK t k)), (.int .i64 (lC t k c X Y))]⟩ :: ⟨(ν2 0), true, .cells [(.int .u8 0), (.int .i64 0)]⟩ :: ⟨(ν1 1), true, .cells [(.int .u8 k), (.int .i64 c)]⟩ :: ⟨(ν1 0), true, .cells [(.int .u8 t), (.int .i64 X), (.int .i64 Y)]⟩ :: O) (fun ν4 => by kernel_rfl) (fun ν4 => ⟨s23 _ _ _ _ _ _ h0.1 hv hl, trivial⟩) ?_
  intro ν4
  refine C_assoc ?_
  refine X_reg [2, 3, 5, 6, 7, 40] [] [(.ld (.e 0)), (.cl (.int .i64 0))] (fun _ => (SpecQ (BB mL) (RN mL (n+9)) 22 [(.agg [(.int .u8 (lK t k)), (.int .i64 (lC t k c X Y))])] [] fun u N => u = (.int .i64 0) ∧ N = []) ∧ (True)) (fun _ => [(ν4 0)]) (fun _ => [(2, (.ptr (ν1 0) 0)), (3, (.ptr (ν1 1) 0)), (5, (.ptr (ν2 0) 0)), (6, (.int .i64 3)), (7, (.ptr (ν4 0) 0)), (40, (.bool true))]) (fun _ => ⟨(ν4 0), true, .cells [(.int .u8 (lK t k)), (.int .i64 (lC t k c X Y))]⟩ :: ⟨(ν2 0), true, .cells [(.int .u8 0), (.int .i64 0)]⟩ :: ⟨(ν1 1), true, .cells [(.int .u8 k), (.int .i64 c)]⟩ :: ⟨(ν1 0), true, .cells [(.int .u8 t), (.int .i64 X), (.int .i64 Y)]⟩ :: O) (fun _ => by kernel_rfl) (fun _ => ⟨s22_no _ _ _ hL, trivial⟩) ?_
  intro _
  refine C_if_t rfl ?_
  refine C_assoc ?_
  refine X_reg [4] [3, 2, 1, 0] [.c, .c, .c, (.ld (.e 1)), .c, .c, .c, .c, (.cl (.bool true))] (fun _ => (SpecQ (BB mL) (RN mL (n+9)) 14 [] [] fun u N => u = (.bool true) ∧ N = []) ∧ (True)) (fun _ => [(ν2 0)]) (fun _ => [(4, (.bool true))]) (fun _ => O) (fun _ => by kernel_rfl) (fun _ => ⟨s14 _, trivial⟩) ?_
  intro _
  refine C_ret ?_
  exact RetQ_ret (vs := [(.bool true)]) (N := []) (ResV.t rfl ResV.nil) ⟨by first | rfl | (show AV.bool _ = _; simp), rfl⟩ (.refl _)
theorem s5_D (n : Nat) (t X Y k c : Int) (h0 : 0 ≤ t ∧ t ≤ 255) (hv : vm t X Y) (hl : vl k c) (hL : vl (lK t k) (lC t k c X Y)) : SV mL (n+10) 5 [mvA t X Y, lnA k c] (.bool true) := by
  have ht := vm_t h0.1 hv
  have hk := four hl
  obtain ⟨v1, v2, v3, v4, v5, v6⟩ := id hv
  obtain ⟨b1, b2⟩ := o_bd hl
  have c1 := mx_bd (inv_in ht) (M := 16384) (x := X) (y := Y) ⟨v2, v3⟩ ⟨v4, v5⟩
  have c2 := my_bd (inv_in ht) (M := 16384) (x := X) (y := Y) ⟨v2, v3⟩ ⟨v4, v5⟩
  have c3 := mx_bd (oT_in k) (M := 16384) (x := -(mx (inv t) X Y)) (y := -(my (inv t) X Y)) (by omega) (by omega)
  have c4 := my_bd (oT_in k) (M := 16384) (x := -(mx (inv t) X Y)) (y := -(my (inv t) X Y)) (by omega) (by omega)
  refine SpecQ_run (c := k5) rfl rfl rfl ?_
  intro ro O _
  refine X_reg [2, 3] [] [] (fun ν1 => (True)) (fun ν1 => []) (fun ν1 => [(2, (.ptr (ν1 0) 0)), (3, (.ptr (ν1 1) 0))]) (fun ν1 => ⟨(ν1 1), true, .cells [(.int .u8 k), (.int .i64 c)]⟩ :: ⟨(ν1 0), true, .cells [(.int .u8 t), (.int .i64 X), (.int .i64 Y)]⟩ :: O) (fun ν1 => by kernel_rfl) (fun ν1 => trivial) ?_
  intro ν1
  refine X_reg [2, 3, 5, 6] [] [(.ld (.e 1)), (.ld (.e 0)), (.cl (.tup [(.agg [(.int .u8 (lK t k)), (.int .i64 (lC t k c X Y))]), (.int .i64 0)])), .c, .c, .c, .c, (.st 0)] (fun ν2 => (SpecQ (BB mL) (RN mL (n+9)) 21 [(.agg [(.int .u8 t), (.int .i64 X), (.int .i64 Y)]), (.agg [(.int .u8 k), (.int .i64 c)])] [] fun u N => u = (.tup [(.agg [(.int .u8 (lK t k)), (.int .i64 (lC t k c X Y))]), (.int .i64 0)]) ∧ N = []) ∧ (True)) (fun ν2 => [(ν1 0), (ν1 1), (ν2 0)]) (fun ν2 => [(2, (.ptr (ν1 0) 0)), (3, (.ptr (ν1 1) 0)), (5, (.ptr (ν2 0) 0)), (6, (.int .i64 0))]) (fun ν2 => ⟨(ν2 0), true, .cells [(.int .u8 (lK t k)), (.int .i64 (lC t k c X Y))]⟩ :: ⟨(ν1 1), true, .cells [(.int .u8 k), (.int .i64 c)]⟩ :: ⟨(ν1 0), true, .cells [(.int .u8 t), (.int .i64 X), (.int .i64 Y)]⟩ :: O) (fun ν2 => by kernel_rfl) (fun ν2 => ⟨s21 _ _ _ _ _ _ h0.1 hv hl hL, trivial⟩) ?_
  intro ν2
  refine C_assoc ?_
  refine X_reg [2, 3, 5, 6, 24] [] [(.ld (.e 2)), (.cl (.int .i64 1)), .c, .c, (.ld (.e 1)), (.cl (.int .i64 1))] (fun _ => (SpecQ (BB mL) (RN mL (n+9)) 13 [(.agg [(.int .u8 t), (.int .i64 X), (.int .i64 Y)])] [] fun u N => u = (.int .i64 1) ∧ N = []) ∧ (SpecQ (BB mL) (RN mL (n+9)) 22 [(.agg [(.int .u8 k), (.int .i64 c)])] [] fun u N => u = (.int .i64 1) ∧ N = []) ∧ (True)) (fun _ => [(ν1 0), (ν1 1)]) (fun _ => [(2, (.ptr (ν1 0) 0)), (3, (.ptr (ν1 1) 0)), (5, (.ptr (ν2 0) 0)), (6, (.int .i64 0)), (24, (.bool false))]) (fun _ => ⟨(ν2 0), true, .cells [(.int .u8 (lK t k)), (.int .i64 (lC t k c X Y))]⟩ :: ⟨(ν1 1), true, .cells [(.int .u8 k), (.int .i64 c)]⟩ :: ⟨(ν1 0), true, .cells [(.int .u8 t), (.int .i64 X), (.int .i64 Y)]⟩ :: O) (fun _ => by kernel_rfl) (fun _ => ⟨s13 _ _ _ _ h0 hv, s22 _ _ _ hl, trivial⟩) ?_
  intro _
  refine C_if_f rfl ?_
  refine C_skip ?_
  refine X_reg [2, 3, 5, 6, 7] [] [(.ld (.e 2)), (.ld (.e 1)), (.cl (.agg [(.int .u8 (lK t k)), (.int .i64 (lC t k c X Y))])), .c, (.st 0)] (fun ν4 => (SpecQ (BB mL) (RN mL (n+9)) 23 [(.agg [(.int .u8 t), (.int .i64 X), (.int .i64 Y)]), (.agg [(.int .u8 k), (.int .i64 c)])] [] fun u N => u = (.agg [(.int .u8 (lK t k)), (.int .i64 (lC t k c X Y))]) ∧ N = []) ∧ (True)) (fun ν4 => [(ν1 0), (ν1 1), (ν4 0)]) (fun ν4 => [(2, (.ptr (ν1 0) 0)), (3, (.ptr (ν1 1) 0)), (5, (.ptr (ν2 0) 0)), (6, (.int .i64 0)), (7, (.ptr (ν4 0) 0))]) (fun ν4 => ⟨(ν4 0), true, .cells [(.int .u8 (lK t k)), (.int .i64 (lC t k c X Y))]⟩ :: ⟨(ν2 0), true, .cells [(.int .u8 (lK t k)), (.int .i64 (lC t k c X Y))]⟩ :: ⟨(ν1 1), true, .cells [(.int .u8 k), (.int .i64 c)]⟩ :: ⟨(ν1 0), true, .cells [(.int .u8 t), (.int .i64 X), (.int .i64 Y)]⟩ :: O) (fun ν4 => by kernel_rfl) (fun ν4 => ⟨s23 _ _ _ _ _ _ h0.1 hv hl, trivial⟩) ?_
  intro ν4
  refine C_assoc ?_
  refine X_reg [2, 3, 5, 6, 7, 40] [] [(.ld (.e 0)), (.cl (.int .i64 1))] (fun _ => (SpecQ (BB mL) (RN mL (n+9)) 22 [(.agg [(.int .u8 (lK t k)), (.int .i64 (lC t k c X Y))])] [] fun u N => u = (.int .i64 1) ∧ N = []) ∧ (True)) (fun _ => [(ν4 0)]) (fun _ => [(2, (.ptr (ν1 0) 0)), (3, (.ptr (ν1 1) 0)), (5, (.ptr (ν2 0) 0)), (6, (.int .i64 0)), (7, (.ptr (ν4 0) 0)), (40, (.bool false))]) (fun _ => ⟨(ν4 0), true, .cells [(.int .u8 (lK t k)), (.int .i64 (lC t k c X Y))]⟩ :: ⟨(ν2 0), true, .cells [(.int .u8 (lK t k)), (.int .i64 (lC t k c X Y))]⟩ :: ⟨(ν1 1), true, .cells [(.int .u8 k), (.int .i64 c)]⟩ :: ⟨(ν1 0), true, .cells [(.int .u8 t), (.int .i64 X), (.int .i64 Y)]⟩ :: O) (fun _ => by kernel_rfl) (fun _ => ⟨s22 _ _ _ hL, trivial⟩) ?_
  intro _
  refine C_if_f rfl ?_
  refine C_skip ?_
  refine X_reg [5, 6, 7, 8] [4, 3] [(.ld (.e 3)), (.cl (.agg [(.int .u8 (inv t)), (.int .i64 (-(mx (inv t) X Y))), (.int .i64 (-(my (inv t) X Y)))])), (.ld (.e 2)), (.cl (.agg [(.int .u8 (oT k)), (.int .i64 (oX k c)), (.int .i64 (oY k c))])), (.cl (.agg [(.int .u8 (cmp (inv t) (oT k))), (.int .i64 (mx (oT k) (-(mx (inv t) X Y)) (-(my (inv t) X Y)) + oX k c)), (.int .i64 (my (oT k) (-(mx (inv t) X Y)) (-(my (inv t) X Y)) + oY k c))])), (.ld (.e 3)), (.cl (.agg [(.int .u8 (cmp (cmp (inv t) (oT k)) t)), (.int .i64 (mx t (mx (oT k) (-(mx (inv t) X Y)) (-(my (inv t) X Y)) + oX k c) (my (oT k) (-(mx (inv t) X Y)) (-(my (inv t) X Y)) + oY k c) + X)), (.int .i64 (my t (mx (oT k) (-(mx (inv t) X Y)) (-(my (inv t) X Y)) + oX k c) (my (oT k) (-(mx (inv t) X Y)) (-(my (inv t) X Y)) + oY k c) + Y))])), .c, (.st 0)] (fun ν6 => (SpecQ (BB mL) (RN mL (n+9)) 16 [(.agg [(.int .u8 t), (.int .i64 X), (.int .i64 Y)])] [] fun u N => u = (.agg [(.int .u8 (inv t)), (.int .i64 (-(mx (inv t) X Y))), (.int .i64 (-(my (inv t) X Y)))]) ∧ N = []) ∧ (SpecQ (BB mL) (RN mL (n+9)) 25 [(.agg [(.int .u8 k), (.int .i64 c)])] [] fun u N => u = (.agg [(.int .u8 (oT k)), (.int .i64 (oX k c)), (.int .i64 (oY k c))]) ∧ N = []) ∧ (SpecQ (BB mL) (RN mL (n+9)) 24 [(.agg [(.int .u8 (inv t)), (.int .i64 (-(mx (inv t) X Y))), (.int .i64 (-(my (inv t) X Y)))]), (.agg [(.int .u8 (oT k)), (.int .i64 (oX k c)), (.int .i64 (oY k c))])] [] fun u N => u = (.agg [(.int .u8 (cmp (inv t) (oT k))), (.int .i64 (mx (oT k) (-(mx (inv t) X Y)) (-(my (inv t) X Y)) + oX k c)), (.int .i64 (my (oT k) (-(mx (inv t) X Y)) (-(my (inv t) X Y)) + oY k c))]) ∧ N = []) ∧ (SpecQ (BB mL) (RN mL (n+9)) 24 [(.agg [(.int .u8 (cmp (inv t) (oT k))), (.int .i64 (mx (oT k) (-(mx (inv t) X Y)) (-(my (inv t) X Y)) + oX k c)), (.int .i64 (my (oT k) (-(mx (inv t) X Y)) (-(my (inv t) X Y)) + oY k c))]), (.agg [(.int .u8 t), (.int .i64 X), (.int .i64 Y)])] [] fun u N => u = (.agg [(.int .u8 (cmp (cmp (inv t) (oT k)) t)), (.int .i64 (mx t (mx (oT k) (-(mx (inv t) X Y)) (-(my (inv t) X Y)) + oX k c) (my (oT k) (-(mx (inv t) X Y)) (-(my (inv t) X Y)) + oY k c) + X)), (.int .i64 (my t (mx (oT k) (-(mx (inv t) X Y)) (-(my (inv t) X Y)) + oX k c) (my (oT k) (-(mx (inv t) X Y)) (-(my (inv t) X Y)) + oY k c) + Y))]) ∧ N = []) ∧ (True)) (fun ν6 => [(ν1 0), (ν1 1), (ν1 0), (ν6 0)]) (fun ν6 => [(5, (.ptr (ν2 0) 0)), (6, (.int .i64 0)), (7, (.ptr (ν4 0) 0)), (8, (.ptr (ν6 0) 0))]) (fun ν6 => ⟨(ν6 0), true, .cells [(.int .u8 (cmp (cmp (inv t) (oT k)) t)), (.int .i64 (mx t (mx (oT k) (-(mx (inv t) X Y)) (-(my (inv t) X Y)) + oX k c) (my (oT k) (-(mx (inv t) X Y)) (-(my (inv t) X Y)) + oY k c) + X)), (.int .i64 (my t (mx (oT k) (-(mx (inv t) X Y)) (-(my (inv t) X Y)) + oX k c) (my (oT k) (-(mx (inv t) X Y)) (-(my (inv t) X Y)) + oY k c) + Y))]⟩ :: ⟨(ν4 0), true, .cells [(.int .u8 (lK t k)), (.int .i64 (lC t k c X Y))]⟩ :: ⟨(ν2 0), true, .cells [(.int .u8 (lK t k)), (.int .i64 (lC t k c X Y))]⟩ :: O) (fun ν6 => by kernel_rfl) (fun ν6 => ⟨s16 _ _ _ _ h0.1 hv, s25 _ _ _ hl, s24g _ _ _ _ _ _ _ (inv_in ht) (oT_in k) (by omega) (by omega) (by omega) (by omega), s24g _ _ _ _ _ _ _ (cmp_in (inv_in ht) (oT_in k)) ht (by omega) (by omega) (by omega) (by omega), trivial⟩) ?_
  intro ν6
  refine X_reg [5, 6, 7, 8, 9, 10] [] [(.ld (.e 2)), (.cl (.tup [(.agg [(.int .u8 (oT (lK t k))), (.int .i64 (oX (lK t k) (lC t k c X Y))), (.int .i64 (oY (lK t k) (lC t k c X Y)))]), (.int .i64 0)])), .c, .c, .c, .c, (.st 0)] (fun ν7 => (SpecQ (BB mL) (RN mL (n+9)) 26 [(.agg [(.int .u8 (lK t k)), (.int .i64 (lC t k c X Y))])] [] fun u N => u = (.tup [(.agg [(.int .u8 (oT (lK t k))), (.int .i64 (oX (lK t k) (lC t k c X Y))), (.int .i64 (oY (lK t k) (lC t k c X Y)))]), (.int .i64 0)]) ∧ N = []) ∧ (True)) (fun ν7 => [(ν2 0), (ν7 0)]) (fun ν7 => [(5, (.ptr (ν2 0) 0)), (6, (.int .i64 0)), (7, (.ptr (ν4 0) 0)), (8, (.ptr (ν6 0) 0)), (9, (.ptr (ν7 0) 0)), (10, (.int .i64 0))]) (fun ν7 => ⟨(ν7 0), true, .cells [(.int .u8 (oT (lK t k))), (.int .i64 (oX (lK t k) (lC t k c X Y))), (.int .i64 (oY (lK t k) (lC t k c X Y)))]⟩ :: ⟨(ν6 0), true, .cells [(.int .u8 (cmp (cmp (inv t) (oT k)) t)), (.int .i64 (mx t (mx (oT k) (-(mx (inv t) X Y)) (-(my (inv t) X Y)) + oX k c) (my (oT k) (-(mx (inv t) X Y)) (-(my (inv t) X Y)) + oY k c) + X)), (.int .i64 (my t (mx (oT k) (-(mx (inv t) X Y)) (-(my (inv t) X Y)) + oX k c) (my (oT k) (-(mx (inv t) X Y)) (-(my (inv t) X Y)) + oY k c) + Y))]⟩ :: ⟨(ν4 0), true, .cells [(.int .u8 (lK t k)), (.int .i64 (lC t k c X Y))]⟩ :: ⟨(ν2 0), true, .cells [(.int .u8 (lK t k)), (.int .i64 (lC t k c X Y))]⟩ :: O) (fun ν7 => by kernel_rfl) (fun ν7 => ⟨s26 _ _ _ hL, trivial⟩) ?_
  intro ν7
  refine X_reg [4] [3, 2, 1, 0] [.c, .c, .c, (.ld (.e 3)), (.ld (.e 2)), .c, .c, .c, (.g .c), (.g .c), .pk, .c, (.g (.ld (.e 0))), (.g (.ld (.e 1))), (.g .c), .pk, .c, (.g (.cl (.bool true))), .pk] (fun _ => ((((((decide ((lK t k) = (lK t k))) && (decide ((lC t k c X Y) = (lC t k c X Y)))) && true) && ((decide ((oT (lK t k)) = (cmp (cmp (inv t) (oT k)) t))) && ((decide ((oX (lK t k) (lC t k c X Y)) = (mx t (mx (oT k) (-(mx (inv t) X Y)) (-(my (inv t) X Y)) + oX k c) (my (oT k) (-(mx (inv t) X Y)) (-(my (inv t) X Y)) + oY k c) + X))) && (decide ((oY (lK t k) (lC t k c X Y)) = (my t (mx (oT k) (-(mx (inv t) X Y)) (-(my (inv t) X Y)) + oX k c) (my (oT k) (-(mx (inv t) X Y)) (-(my (inv t) X Y)) + oY k c) + Y)))))) = true → SpecQ (BB mL) (RN mL (n+9)) 14 [] [] fun u N => u = (.bool true) ∧ N = [])) ∧ (True)) (fun _ => [(ν2 0), (ν4 0), (ν7 0), (ν6 0)]) (fun _ => [(4, (.bool (((((decide ((lK t k) = (lK t k))) && (decide ((lC t k c X Y) = (lC t k c X Y)))) && true) && ((decide ((oT (lK t k)) = (cmp (cmp (inv t) (oT k)) t))) && ((decide ((oX (lK t k) (lC t k c X Y)) = (mx t (mx (oT k) (-(mx (inv t) X Y)) (-(my (inv t) X Y)) + oX k c) (my (oT k) (-(mx (inv t) X Y)) (-(my (inv t) X Y)) + oY k c) + X))) && (decide ((oY (lK t k) (lC t k c X Y)) = (my t (mx (oT k) (-(mx (inv t) X Y)) (-(my (inv t) X Y)) + oX k c) (my (oT k) (-(mx (inv t) X Y)) (-(my (inv t) X Y)) + oY k c) + Y)))))) && true)))]) (fun _ => O) (fun _ => by kernel_rfl) (fun _ => ⟨(fun hg => s14 _), trivial⟩) ?_
  intro _
  refine W_ret ?_
  exact RetQ_ret (vs := [(.bool (((((decide ((lK t k) = (lK t k))) && (decide ((lC t k c X Y) = (lC t k c X Y)))) && true) && ((decide ((oT (lK t k)) = (cmp (cmp (inv t) (oT k)) t))) && ((decide ((oX (lK t k) (lC t k c X Y)) = (mx t (mx (oT k) (-(mx (inv t) X Y)) (-(my (inv t) X Y)) + oX k c) (my (oT k) (-(mx (inv t) X Y)) (-(my (inv t) X Y)) + oY k c) + X))) && (decide ((oY (lK t k) (lC t k c X Y)) = (my t (mx (oT k) (-(mx (inv t) X Y)) (-(my (inv t) X Y)) + oX k c) (my (oT k) (-(mx (inv t) X Y)) (-(my (inv t) X Y)) + oY k c) + Y)))))) && true))]) (N := []) (ResV.t rfl ResV.nil) ⟨(by show AV.bool _ = _; simp [l_t ht hk, l_x (X := X) (Y := Y) (c := c) ht hk, l_y (X := X) (Y := Y) (c := c) ht hk]), rfl⟩ (.refl _)
theorem s5 (n : Nat) (t X Y k c : Int) (h0 : 0 ≤ t ∧ t ≤ 255) : SV mL (n+10) 5 [mvA t X Y, lnA k c] (.bool true) := by
  by_cases hv : vm t X Y
  · by_cases hl : vl k c
    · by_cases hL : vl (lK t k) (lC t k c X Y)
      · exact s5_D n t X Y k c h0 hv hl hL
      · exact s5_C n t X Y k c h0 hv hl hL
    · exact s5_B n t X Y k c h0 hv hl
  · exact s5_A n t X Y k c h0 hv
end Vm
end Go.Proofs.YtgncjbodicabnaaDoor

