/-
  Sheets and patterns: plain laws of Cell, Id, Neighbour, Name, Check at a strip's pattern; the law StripsPattern.
  The laws StripsTurn and StripsKnown.
  The law StripsKnown.
-/
import Derived.Test.YtppgnpodkmacoaaGreatDoorPLa
import Derived.Test.YtppgnpodkmacoaaGreatDoorPLb
set_option linter.unusedSimpArgs false
set_option linter.unusedVariables false

namespace Go.Vm
namespace X
open W Go.Proofs.St
theorem sheet_ok {W H : Int} (h1 : 1 ≤ W) (h2 : W ≤ 256) (h3 : 1 ≤ H) (h4 : W * H ≤ 256) (h5 : H ≤ 256) : sheets_Check fuel (W, H) = some 0 := by
  apply Ret.eq
  unfold sheets_Check
  have hn : 0 ≤ W * H := Int.mul_nonneg (by omega) (by omega)
  refine Ret_dec (fun h => absurd h (by simp only; omega)) fun _ => Ret_dec (fun h => absurd h (by simp only; omega)) fun _ => Ret_dec (fun h => absurd h (by simp only; omega)) fun _ => Ret_dec (fun h => absurd h (by simp only; omega)) fun _ => ?_
  exact Ret_chk (i64b_t (by simp only; omega) (by simp only; omega)) (Ret_dec (fun h => absurd h (by simp only; omega)) fun _ => Ret_some rfl)
theorem wrap64 {n : Int} (h1 : -9223372036854775808 ≤ n) (h2 : n ≤ 9223372036854775807) : IntKind.i64.wrap n = n := i64b_ok (i64b_t h1 h2)
theorem sheet1 {W : Int} (h1 : 1 ≤ W) (h2 : W ≤ 256) : sheets_Check fuel (W, 1) = some 0 := sheet_ok h1 h2 (by decide) (by rw [Int.mul_one]; exact h2) (by decide)
theorem cell_good {W j : Int} (h1 : 1 ≤ W) (h2 : W ≤ 256) (hj : 0 ≤ j) (hjW : j < W) : sheets_Cell fuel ((W, 1), 4 * j + 1) = some ((j, (0, 1)), 0) := by
  apply Ret.eq
  have e1 : (4 * j + 1) / 4 = j := by omega
  have e2 : (4 * j + 1) % 4 = 1 := by omega
  have e3 : j % W = j := Int.emod_eq_of_lt hj hjW
  have e4 : j / W = 0 := Int.ediv_eq_zero_of_lt hj hjW
  unfold sheets_Cell
  refine Ret_bind (Ret.of (sheet1 h1 h2)) fun r e => ?_
  subst e
  refine Ret_dec (fun h => absurd rfl h) fun _ => ?_
  simp only [Int.mul_one, e1, e2, e3, e4, wrap_u8 (n := 1) (by decide) (by decide), wrap64 (n := j) (by omega) (by omega), wrap64 (n := 0) (by decide) (by decide)]
  refine Ret_dec (fun _ => ?_) fun h => absurd (show (0 : Int) ≤ 4 * j + 1 by omega) h
  refine Ret_chk (i64b_t (by omega) (by omega)) (Ret_chk (i64b_t (by omega) (by omega)) ?_)
  rw [decide_eq_true (show 4 * j + 1 < 4 * W by omega)]
  simp only [Bool.not_true, cond_false]
  exact Ret_chk (by simp; omega) (Ret_chk (by simp; omega) (Ret_chk (by simp; omega) (Ret_chk (by simp; omega) (Ret_chk (by simp; omega) (Ret_some rfl)))))
theorem neigh_good {j : Int} (hj : 0 ≤ j) (hj2 : j ≤ 256) : cells_Neighbour fuel ((j, (0, 1)), 0) = some ((1 + j, (0, 3)), 0) := by
  apply Ret.eq
  have q : (quarters.getD (1 : Int).toNat ((0, 0), (0, (0, ((List.replicate 3 (0, (0, 0))), ((0, 0), (0, 0))))))).2.2.2.1.getD (0 : Int).toNat (0, (0, 0)) = (1, (0, 3)) := rfl
  unfold cells_Neighbour
  simp only [q]
  iterate 6 (refine Ret_dec (fun h => absurd h (by omega)) fun _ => ?_)
  refine Ret_chk (by decide) (Ret_chk (by decide) (Ret_chk (i64b_t (by omega) (by omega)) (Ret_chk (i64b_t (by omega) (by omega)) ?_)))
  iterate 5 (refine Ret_dec (fun h => absurd h (by omega)) fun _ => ?_)
  exact Ret_some rfl
theorem id_good {W j : Int} (h1 : 1 ≤ W) (h2 : W ≤ 256) (hj : 0 ≤ j) (hjW : j < W) : sheets_Id fuel ((W, 1), (j, (0, 3))) = some (4 * j + 3, 0) := by
  apply Ret.eq
  unfold sheets_Id
  refine Ret_bind (Ret.of (sheet1 h1 h2)) fun r e => ?_
  subst e
  refine Ret_dec (fun h => absurd rfl h) fun _ => ?_
  simp only [Int.zero_mul, Int.zero_add]
  iterate 9 (refine Ret_dec (fun h => absurd h (by omega)) fun _ => ?_)
  exact Ret_chk (i64b_t (by omega) (by omega)) (Ret_chk (i64b_t (by omega) (by omega)) (Ret_chk (i64b_t (by omega) (by omega)) (Ret_chk (i64b_t (by omega) (by omega)) (Ret_chk (i64b_t (by omega) (by omega)) (Ret_some rfl)))))
theorem name_good {W j : Int} (h1 : 1 ≤ W) (h2 : W ≤ 256) (hj : 0 ≤ j) (hjW : j + 1 < W) : sheets_Name fuel ((W, 1), (4 * j + 1, 0)) = some ((4 * j + 1, 0), 0) := by
  have e : sheets_Neighbour fuel ((W, 1), (4 * j + 1, 0)) = some (4 * (1 + j) + 3, 0) := by
    apply Ret.eq
    unfold sheets_Neighbour
    dsimp only
    refine Ret_bind (Ret.of (cell_good h1 h2 hj (by omega))) fun r e => ?_
    subst e
    refine Ret_dec (fun h => absurd rfl h) fun _ => ?_
    refine Ret_bind (Ret.of (neigh_good hj (show j ≤ 256 by omega))) fun r e => ?_
    subst e
    refine Ret_dec (fun h => absurd rfl h) fun _ => ?_
    refine Ret_bind (Ret.of (id_good h1 h2 (j := 1 + j) (by omega) (by omega))) fun r e => ?_
    subst e
    exact Ret_some rfl
  apply Ret.eq
  unfold sheets_Name
  refine Ret_bind (Ret.of e) fun r e => ?_
  subst e
  refine Ret_dec (fun h => absurd rfl h) fun _ => Ret_some ?_
  simp only
  rw [Int.min_eq_left (by omega)]
abbrev Cr := Int × (Int × Int)
def Across (W : Int) (l : List Cr) (k : Nat → Int) : Prop := (∀ i : Nat, i < l.length → (l.getD i (0, (0, 0))).1 = 4 * k i - 3 ∧ (l.getD i (0, (0, 0))).2.1 = 0 ∧ 1 ≤ (l.getD i (0, (0, 0))).2.2 ∧ (l.getD i (0, (0, 0))).2.2 ≤ 3 ∧ 1 ≤ k i ∧ k i < W) ∧ ∀ i : Nat, i + 1 < l.length → k i < k (i + 1)
theorem contains_good {l : List Cr} (hl : l.length ≤ 1000) (h : ∀ i : Nat, i < l.length → 1 ≤ (l.getD i (0, (0, 0))).2.2 ∧ (l.getD i (0, (0, 0))).2.2 ≤ 3) : slices_ContainsFunc_patterns_Crease fuel (l, ()) = some false := by
  have e : slices_IndexFunc_patterns_Crease fuel (l, ()) = some (-1) := by
    apply Ret.eq
    unfold slices_IndexFunc_patterns_Crease
    dsimp only
    refine Ret_loop (Inv := fun x : Int => 0 ≤ x ∧ x ≤ l.length) (m := fun x : Int => ((l.length : Int) - x).toNat) ?_ _ _ ⟨by omega, by omega⟩ (by unfold fuel; omega)
    intro x rec ⟨i1, i2⟩ ih
    refine Ret_dec (fun hlt => ?_) fun _ => Ret_some rfl
    have := h x.toNat (by omega)
    refine Ret_chk (inb_t i1 hlt) (Ret_dec (fun _ => ?_) fun hn => absurd this.1 hn)
    rw [decide_eq_true this.2]
    simp only [Bool.not_true, cond_false]
    exact Ret_chk (i64b_t (by omega) (by omega)) (ih _ ⟨by omega, by omega⟩ (by omega))
  unfold slices_ContainsFunc_patterns_Crease
  rw [e]; rfl
theorem order_lt {a c : Int} {e1 e2 : Int} (h : a < c) (h1 : -1000000 ≤ a) (h2 : c ≤ 1000000) : Ret (patterns_order fuel ((a, e1), (c, e2))) fun r => r < 0 := by
  unfold patterns_order
  dsimp only
  refine Ret_dec (fun _ => ?_) fun hn => absurd (show a ≠ c by omega) hn
  exact Ret_chk (i64b_t (by omega) (by omega)) (Ret_some (by omega))
theorem check_across {W : Int} {l : List Cr} {k : Nat → Int} (h1 : 1 ≤ W) (h2 : W ≤ 256) (hl : l.length ≤ 1000) (h : Across W l k) : patterns_Check fuel (W, (1, l)) = some 0 := by
  obtain ⟨g1, g2⟩ := h
  apply Ret.eq
  unfold patterns_Check
  dsimp only
  refine Ret_bind (Ret.of (sheet1 h1 h2)) fun r e => ?_
  subst e
  refine Ret_dec (fun h => absurd rfl h) fun _ => ?_
  refine Ret_bind (Ret.of (contains_good hl fun i hi => ⟨(g1 i hi).2.2.1, (g1 i hi).2.2.2.1⟩)) fun r e => ?_
  subst e
  refine Ret_bif (fun h => by cases h) fun _ => ?_
  refine Ret_loop (Inv := fun x : Int => 0 ≤ x ∧ x ≤ l.length) (m := fun x : Int => ((l.length : Int) - x).toNat) ?_ _ _ ⟨by omega, by omega⟩ (by unfold fuel; omega)
  intro x rec ⟨i1, i2⟩ ih
  refine Ret_dec (fun hlt => ?_) fun hge => ?_
  · have hx := g1 x.toNat (by omega)
    have hn : sheets_Name fuel ((W, 1), ((l.getD x.toNat (0, (0, 0))).1, (l.getD x.toNat (0, (0, 0))).2.1)) = some (((l.getD x.toNat (0, (0, 0))).1, 0), 0) := by
      rw [hx.1, hx.2.1, show 4 * k x.toNat - 3 = 4 * (k x.toNat - 1) + 1 by omega]
      exact name_good h1 h2 (by omega) (by omega)
    refine Ret_chk (inb_t i1 hlt) (Ret_bind (Ret.of hn) fun r e => ?_)
    subst e
    refine Ret_dec (fun h => absurd rfl h) fun _ => ?_
    rw [show ((!(decide (((l.getD x.toNat (0, (0, 0))).1) = (l.getD x.toNat (0, (0, 0))).1) && decide ((0 : Int) = (l.getD x.toNat (0, (0, 0))).2.1))) = false) by rw [decide_eq_true rfl, decide_eq_true hx.2.1.symm]; rfl]
    simp only [cond_false]
    exact Ret_chk (i64b_t (by omega) (by omega)) (ih _ ⟨by omega, by omega⟩ (by omega))
  · refine Ret_loop (Inv := fun x : Int => 1 ≤ x ∧ (x ≤ l.length ∨ x = 1)) (m := fun x : Int => ((l.length : Int) - x).toNat) ?_ _ _ ⟨by omega, .inr rfl⟩ (by unfold fuel; omega)
    intro x rec ⟨i1, i2⟩ ih
    refine Ret_dec (fun hlt => ?_) fun hge => Ret_some rfl
    have ha := g1 (x - 1).toNat (by omega)
    have hb := g1 x.toNat (by omega)
    have hk := g2 (x - 1).toNat (by omega)
    rw [show (x - 1).toNat + 1 = x.toNat by omega] at hk
    refine Ret_chk (i64b_t (by omega) (by omega)) (Ret_chk (inb_t (by omega) (by omega)) (Ret_chk (inb_t (by omega) (by omega)) (Ret_bind (order_lt (by rw [ha.1, hb.1]; omega) (by rw [ha.1]; omega) (by rw [hb.1]; omega)) fun r hr => ?_)))
    exact Ret_dec (fun h => absurd h (by omega)) fun _ => Ret_chk (i64b_t (by omega) (by omega)) (ih _ ⟨by omega, by omega⟩ (by omega))
theorem creases_len {s : List Int × List Int} {n : Nat} : (creases s n).length = n := by simp [creases]
theorem creases_get {s : List Int × List Int} {n i : Nat} (h : i < n) : (creases s n).getD i (0, (0, 0)) = crease s i := by
  unfold creases
  rw [List.getD, List.getElem?_map, List.getElem?_range h]; rfl
theorem sumN_lt {L : List Int} (hL : okI L) : ∀ j i, i < j → j ≤ L.length → sumN L i < sumN L j
  | 0, i, h, _ => absurd h (Nat.not_lt_zero _)
  | j + 1, i, h, hj => by
    have hx := (hL _ (getD_mem (L := L) (i := j) (by omega))).1
    have e : sumN L (j + 1) = sumN L j + L.getD j 0 := rfl
    by_cases hij : i = j
    · subst hij; omega
    · have := sumN_lt hL j i (by omega) (by omega)
      omega
theorem across_strip {s : List Int × List Int} (h : Valid s) : Across (sumN s.1 s.1.length) (creases s s.2.length) (fun i => sumN s.1 (i + 1)) := by
  obtain ⟨h1, h2, h3, h4⟩ := h
  have hI : okI s.1 := h3
  refine ⟨fun i hi => ?_, fun i hi => ?_⟩
  · rw [creases_len] at hi
    rw [creases_get hi]
    have hk := h4 _ (getD_mem (L := s.2) (i := i) hi)
    have a := sumN_lt hI (i + 1) 0 (by omega) (by omega)
    have b := sumN_lt hI s.1.length (i + 1) (by omega) (Nat.le_refl _)
    have a' : (0 : Int) < sumN s.1 (i + 1) := a
    exact ⟨rfl, rfl, hk.1, hk.2, show (1 : Int) ≤ sumN s.1 (i + 1) by omega, b⟩
  · rw [creases_len] at hi
    exact sumN_lt hI (i + 1 + 1) (i + 1) (by omega) (by omega)
theorem take_snoc' {L : List Int} {k : Nat} (h : k < L.length) : L.take k ++ [L.getD k 0] = L.take (k + 1) := by
  rw [List.take_add_one, List.getD, List.getElem?_eq_getElem h]; rfl
theorem of_strip {s : List Int × List Int} (h : Valid s) (hs : 1 ≤ s.1.length) (hW : sumN s.1 s.1.length ≤ 256) : strips_Of fuel (sumN s.1 s.1.length, (1, creases s s.2.length)) = some (s, 0) := by
  have hV := h
  obtain ⟨h1, h2, h3, h4⟩ := h
  have hI : okI s.1 := h3
  have hpos := sumN_lt hI s.1.length 0 (by omega) (Nat.le_refl _)
  have hp0 : sumN s.1 0 = 0 := rfl
  rw [hp0] at hpos
  apply Ret.eq
  unfold strips_Of
  dsimp only
  refine Ret_bind (Ret.of (check_across (by omega) hW (by rw [creases_len]; omega) (across_strip hV))) fun r e => ?_
  subst e
  refine Ret_dec (fun h => absurd rfl h) fun _ => Ret_dec (fun h => absurd rfl h) fun _ => ?_
  refine Ret_loop (Inv := fun x : (Int × (Int × ((Unit × Unit) × ((List Int) × (List Int))))) => 0 ≤ x.2.1 ∧ x.2.1 ≤ s.2.length ∧ x.1 = sumN s.1 x.2.1.toNat ∧ x.2.2.2.1 = s.1.take x.2.1.toNat ∧ x.2.2.2.2 = s.2.take x.2.1.toNat) (m := fun x => ((s.2.length : Int) - x.2.1).toNat) ?_ _ _ ⟨by simp, by simp, rfl, rfl, rfl⟩ (by simp only [fuel]; omega)
  rintro ⟨last, i, _, ls, ks⟩ rec ⟨i1, i2, i3, i4, i5⟩ ih
  dsimp only at i1 i2 i3 i4 i5 ⊢
  subst i4; subst i5
  simp only [creases_len]
  refine Ret_dec (fun hlt => ?_) fun hge => ?_
  · rw [creases_get (by omega)]
    simp only [crease]
    have b1 := sumN_bd hI (i.toNat + 1) (by omega)
    have b0 := sumN_bd hI i.toNat (by omega)
    have hk := h3 _ (getD_mem (L := s.1) (i := i.toNat) (by omega))
    have e1 : sumN s.1 (i.toNat + 1) = sumN s.1 i.toNat + s.1.getD i.toNat 0 := rfl
    have e2 : (4 * sumN s.1 (i.toNat + 1) - 3 + 3) / 4 = sumN s.1 (i.toNat + 1) := by omega
    have e3 : (4 * sumN s.1 (i.toNat + 1) - 3) % 4 = 1 := by omega
    have e4 : 1 ≤ sumN s.1 (i.toNat + 1) := by omega
    simp only [e2, e3]
    refine Ret_chk (inb_t i1 hlt) (Ret_chk (by rw [Bool.and_eq_true]; exact ⟨decide_eq_true (by omega), rfl⟩) ?_)
    refine Ret_dec (fun h => absurd rfl h) fun _ => Ret_dec (fun h => absurd rfl h) fun _ => ?_
    refine Ret_chk (i64b_t (by omega) (by omega)) (Ret_chk (by rw [wrap64 (by omega) (by omega), Bool.and_eq_true, Bool.and_eq_true]; exact ⟨⟨decide_eq_true (by omega), decide_eq_true (by omega)⟩, decide_eq_true rfl⟩) (Ret_chk (i64b_t (by omega) (by omega)) (Ret_chk (lenOk_t (by simp only [List.length_take]; omega)) (Ret_chk (lenOk_t (by simp only [List.length_take]; omega)) (Ret_chk (i64b_t (by omega) (by omega)) (ih _ ⟨by dsimp only; omega, by dsimp only; omega, ?_, ?_, ?_⟩ (by dsimp only; omega)))))))
    · dsimp only; rw [show (i + 1).toNat = i.toNat + 1 by omega]
    · dsimp only
      rw [show (i + 1).toNat = i.toNat + 1 by omega, show sumN s.1 (i.toNat + 1) - last = s.1.getD i.toNat 0 by rw [i3]; omega]
      exact take_snoc' (by omega)
    · dsimp only
      rw [show (i + 1).toNat = i.toNat + 1 by omega]
      exact take_snoc' (by omega)
  · have ei : i.toNat = s.2.length := by omega
    have e1 : sumN s.1 s.1.length = sumN s.1 s.2.length + s.1.getD s.2.length 0 := by rw [h2]; rfl
    have e2 : s.1.take i.toNat ++ [sumN s.1 s.1.length - last] = s.1 := by
      rw [i3, ei, show sumN s.1 s.1.length - sumN s.1 s.2.length = s.1.getD s.2.length 0 by omega, take_snoc' (by omega)]
      exact List.take_of_length_le (by omega)
    have e3 : s.2.take i.toNat = s.2 := List.take_of_length_le (by omega)
    have b0 := sumN_bd hI i.toNat (by omega)
    rw [e2, e3]
    refine Ret_chk (i64b_t (by omega) (by omega)) (Ret_chk (lenOk_t (by simp only [List.length_take]; omega)) (Ret_bind (Ret.of (strips_Check_valid hV)) fun r e => ?_))
    subst e
    refine Ret_dec (fun h => absurd rfl h) fun _ => ?_
    refine Ret_chk (by simp [bnb]) (Ret_chk (by simp [bnb]) (Ret_chk (by simp [capIs, ble_dec]) (Ret_some (by simp))))
theorem law16_StripsPattern_true {a : List Int × List Int} (h1 : bytes a.1) (h2 : bytes a.2) : law16_StripsPattern fuel a = some true := by
  apply Ret.eq
  unfold law16_StripsPattern
  refine Ret_bind (law16_T_Of_ok (a := (a.1, a.2)) h1 h2) fun s hs => ?_
  have hv := hs.valid
  obtain ⟨k1, k2, k3, k4, k5⟩ := hs
  have hI : okI s.1 := hv.2.2.1
  have hb : ∀ i, i ≤ s.1.length → sumN s.1 i ≤ 8 * i := by
    intro i
    induction i with
    | zero => intro _; simp [sumN]
    | succ i ih =>
      intro hi
      have := ih (by omega)
      have hx := k4 _ (getD_mem (L := s.1) (i := i) (by omega))
      have e : sumN s.1 (i + 1) = sumN s.1 i + s.1.getD i 0 := rfl
      omega
  have hW := hb s.1.length (Nat.le_refl _)
  have hp : strips_Pattern fuel (s.1, s.2) = some ((sumN s.1 s.1.length, (1, creases s s.2.length)), 0) := by
    rw [show (s.1, s.2) = s from rfl, pattern_valid hv, if_neg (by omega)]
  refine Ret_bind (Ret.of hp) fun r2 e2 => ?_
  subst e2
  have hpos := sumN_lt hI s.1.length 0 (by omega) (Nat.le_refl _)
  have hp0 : sumN s.1 0 = 0 := rfl
  rw [hp0] at hpos
  dsimp only
  refine Ret_dec (fun h => absurd rfl h) fun _ => ?_
  refine Ret_bind (Ret.of (check_across (by omega) (by omega) (by rw [creases_len]; omega) (across_strip hv))) fun r3 e3 => ?_
  subst e3
  refine Ret_dec (fun h => absurd rfl h) fun _ => Ret_dec (fun h => absurd rfl h) fun _ => ?_
  simp only [creases_len]
  refine Ret_dec (fun h => absurd rfl h) fun _ => Ret_dec (fun h => absurd rfl h) fun _ => ?_
  refine Ret_loop (Inv := fun x : Int × Int => 0 ≤ x.2 ∧ x.2 ≤ s.2.length ∧ x.1 = sumN s.1 x.2.toNat) (m := fun x => ((s.2.length : Int) - x.2).toNat) ?_ _ _ ⟨by simp, by simp, rfl⟩ (by simp only [fuel]; omega)
  rintro ⟨at_, i⟩ rec ⟨i1, i2, i3⟩ ih
  dsimp only at i1 i2 i3 ⊢
  refine Ret_dec (fun hlt => ?_) fun hge => ?_
  · have e1 : sumN s.1 (i.toNat + 1) = sumN s.1 i.toNat + s.1.getD i.toNat 0 := rfl
    have b1 := sumN_bd hI (i.toNat + 1) (by omega)
    have b0 := sumN_bd hI i.toNat (by omega)
    rw [creases_get (by omega)]
    simp only [crease]
    rw [i3, ← e1]
    refine Ret_chk (inb_t i1 (by omega)) (Ret_chk (i64b_t (by omega) (by omega)) (Ret_chk (inb_t i1 hlt) (Ret_chk (i64b_t (by omega) (by omega)) (Ret_chk (i64b_t (by omega) (by omega)) (Ret_chk (inb_t i1 hlt) ?_)))))
    simp only [decide_true, Bool.and_self, Bool.not_true, cond_false]
    exact Ret_chk (i64b_t (by omega) (by omega)) (ih _ ⟨by dsimp only; omega, by dsimp only; omega, by dsimp only; rw [show (i + 1).toNat = i.toNat + 1 by omega]⟩ (by dsimp only; omega))
  · have ei : i.toNat = s.2.length := by omega
    have e1 : sumN s.1 s.1.length = sumN s.1 s.2.length + s.1.getD s.2.length 0 := by rw [k3]; rfl
    refine Ret_bind (Ret.of (of_strip hv k1 (by omega))) fun r5 e5 => ?_
    subst e5
    dsimp only
    have en : (((s.1.length : Nat) : Int) - 1).toNat = s.2.length := by omega
    have hx := hI _ (getD_mem (L := s.1) (i := s.2.length) (by omega))
    have b0 := sumN_bd hI s.2.length (by omega)
    rw [en, i3, ei]
    refine Ret_chk (i64b_t (by omega) (by omega)) (Ret_chk (inb_t (by omega) (by omega)) (Ret_chk (i64b_t (by omega) (by omega)) ?_))
    refine Ret_dec (fun _ => ?_) fun h => absurd e1 h
    refine Ret_dec (fun _ => ?_) fun h => absurd rfl h
    iterate 4 (refine Ret_dec (fun h => absurd rfl h) fun _ => ?_)
    rw [cmp_loop rfl (by omega), if_pos rfl, cmp_loop rfl (by omega), if_pos rfl, lives16]
    exact Ret_some rfl
end X
end Go.Vm
namespace Go.Vm
namespace X
open W Go.Proofs.St
set_option maxRecDepth 100000
def flipK (k : Int) : Int := if k = 1 then 2 else if k = 2 then 1 else k
theorem flip_flip {k : Int} : flipK (flipK k) = k := by
  unfold flipK
  by_cases h1 : k = 1 <;> by_cases h2 : k = 2 <;> simp_all
theorem getD_map {f : Int → Int} {L : List Int} {i : Nat} (h : i < L.length) : (L.map f).getD i 0 = f (L.getD i 0) := by
  simp [List.getD, h]
theorem over_spec {a : List Int × List Int} (h1 : a.1.length ≤ 10000) (h2 : a.2.length ≤ 10000) : strips_Over fuel a = some (a.1, a.2.map flipK) := by
  apply Ret.eq
  unfold strips_Over
  refine Ret_bind (Ret.of (clone_int h1)) fun r e => ?_
  subst e
  refine Ret_chk (by simp [bnb]) (Ret_bind (Ret.of (clone_kind h2)) fun r e => ?_)
  subst e
  refine Ret_chk (by simp [bnb]) ?_
  refine Ret_loop (Inv := fun x : (Int × ((List Int) × Option Nat)) => 0 ≤ x.1 ∧ x.1 ≤ a.2.length ∧ x.2.1.length = a.2.length ∧ ∀ j : Nat, j < a.2.length → x.2.1.getD j 0 = if (j : Int) < x.1 then flipK (a.2.getD j 0) else a.2.getD j 0) (m := fun x => ((a.2.length : Int) - x.1).toNat) ?_ _ _ ⟨by simp, by simp, rfl, fun j hj => by rw [if_neg (by dsimp only; omega)]⟩ (by simp only [fuel]; omega)
  rintro ⟨i, L, o⟩ rec ⟨i1, i2, i3, i4⟩ ih
  dsimp only at i1 i2 i3 i4 ⊢
  simp only [Nat.zero_add]
  have step : ∀ L' : List Int, L'.length = a.2.length → (∀ j : Nat, L'.getD j 0 = if j = i.toNat then flipK (a.2.getD j 0) else L.getD j 0) → i < a.2.length → Ret (rec (i + 1, (L', o))) fun x => x = (a.1, a.2.map flipK) := fun L' hl hg hlt => by
    refine ih _ ⟨by dsimp only; omega, by dsimp only; omega, hl, fun j hj => ?_⟩ (by dsimp only; omega)
    dsimp only
    rw [hg j]
    by_cases hji : j = i.toNat
    · rw [if_pos hji, if_pos (by omega)]
    · rw [if_neg hji, i4 j hj]
      by_cases h : (j : Int) < i
      · rw [if_pos h, if_pos (by omega)]
      · rw [if_neg h, if_neg (by omega)]
  refine Ret_dec (fun hlt => ?_) fun hge => ?_
  · have hi : i.toNat < L.length := by omega
    have hv := i4 i.toNat (by omega)
    rw [if_neg (by omega)] at hv
    refine Ret_chk (inb_t i1 hlt) (Ret_dec (fun h => ?_) fun h => Ret_dec (fun h' => ?_) fun h' => ?_)
    · refine Ret_chk (inb_t i1 hlt) (Ret_chk (i64b_t (by omega) (by omega)) (step _ (by simp [i3]) (fun j => ?_) hlt))
      rw [getD_set hi]
      by_cases hj : j = i.toNat
      · subst hj
        rw [if_pos rfl, if_pos rfl, ← hv, h]
        rfl
      · rw [if_neg hj, if_neg hj]
    · refine Ret_chk (inb_t i1 hlt) (Ret_chk (i64b_t (by omega) (by omega)) (step _ (by simp [i3]) (fun j => ?_) hlt))
      rw [getD_set hi]
      by_cases hj : j = i.toNat
      · subst hj
        rw [if_pos rfl, if_pos rfl, ← hv, h']
        rfl
      · rw [if_neg hj, if_neg hj]
    · refine Ret_chk (i64b_t (by omega) (by omega)) (step _ i3 (fun j => ?_) hlt)
      by_cases hj : j = i.toNat
      · subst hj
        rw [if_pos rfl, ← hv]
        unfold flipK
        rw [if_neg h, if_neg h']
      · rw [if_neg hj]
  · have e : L = a.2.map flipK := ext_getD (by simp [i3]) fun j hj => by
      rw [i4 j (by omega), if_pos (by omega), getD_map (by omega)]
    subst e
    refine Ret_chk (by simp [capIs, ble_dec]) (Ret_some (by rw [List.take_of_length_le (Nat.le_refl _), List.take_of_length_le (by simp)]))
theorem eAt_rev {L : List Int} : ∀ i, i ≤ L.length → eAt L.reverse i = if ((L.length : Nat) : Int) % 2 = 0 then -(eAt L L.length - eAt L (L.length - i)) else eAt L L.length - eAt L (L.length - i)
  | 0, _ => by simp [eAt]
  | i + 1, h => by
    have ih := eAt_rev (L := L) i (by omega)
    have e1 : eAt L.reverse (i + 1) = eAt L.reverse i + L.reverse.getD i 0 * (1 - 2 * ((i : Int) % 2)) := rfl
    have e2 : eAt L (L.length - 1 - i + 1) = eAt L (L.length - 1 - i) + L.getD (L.length - 1 - i) 0 * (1 - 2 * (((L.length - 1 - i : Nat) : Int) % 2)) := rfl
    rw [show L.length - 1 - i + 1 = L.length - i by omega] at e2
    rw [e1, ih, getD_reverse (by omega), show L.length - (i + 1) = L.length - 1 - i by omega, e2]
    generalize L.getD (L.length - 1 - i) 0 = v
    rcases (show (i : Int) % 2 = 0 ∨ (i : Int) % 2 = 1 by omega) with h1 | h1 <;> rcases (show ((L.length - 1 - i : Nat) : Int) % 2 = 0 ∨ ((L.length - 1 - i : Nat) : Int) % 2 = 1 by omega) with h2 | h2 <;> rw [h1, h2] <;> split <;> omega
theorem lo_le {E : List Int} : ∀ k j, j ≤ k → lo E k ≤ E.getD j 0
  | 0, j, h => by rw [show j = 0 by omega]; exact Int.le_refl _
  | k + 1, j, h => by
    unfold lo
    by_cases hj : j = k + 1
    · subst hj; omega
    · have := lo_le (E := E) k j (by omega)
      omega
theorem le_hi {E : List Int} : ∀ k j, j ≤ k → E.getD j 0 ≤ hi E k
  | 0, j, h => by rw [show j = 0 by omega]; exact Int.le_refl _
  | k + 1, j, h => by
    unfold hi
    by_cases hj : j = k + 1
    · subst hj; omega
    · have := le_hi (E := E) k j (by omega)
      omega
theorem lo_at {E : List Int} : ∀ k, ∃ j, j ≤ k ∧ lo E k = E.getD j 0
  | 0 => ⟨0, Nat.le_refl _, rfl⟩
  | k + 1 => by
    obtain ⟨j, h1, h2⟩ := lo_at (E := E) k
    by_cases h : lo E k ≤ E.getD (k + 1) 0
    · exact ⟨j, by omega, by unfold lo; omega⟩
    · exact ⟨k + 1, Nat.le_refl _, by unfold lo; omega⟩
theorem hi_at {E : List Int} : ∀ k, ∃ j, j ≤ k ∧ hi E k = E.getD j 0
  | 0 => ⟨0, Nat.le_refl _, rfl⟩
  | k + 1 => by
    obtain ⟨j, h1, h2⟩ := hi_at (E := E) k
    by_cases h : E.getD (k + 1) 0 ≤ hi E k
    · exact ⟨j, by omega, by unfold hi; omega⟩
    · exact ⟨k + 1, Nat.le_refl _, by unfold hi; omega⟩
theorem span_rev {L : List Int} : hi (endsL L) L.length - lo (endsL L) L.length = hi (endsL L.reverse) L.length - lo (endsL L.reverse) L.length := by
  have g : ∀ j, j ≤ L.length → (endsL L.reverse).getD j 0 = if ((L.length : Nat) : Int) % 2 = 0 then -(eAt L L.length - (endsL L).getD (L.length - j) 0) else eAt L L.length - (endsL L).getD (L.length - j) 0 := fun j hj => by
    rw [endsL_getD (by simp; omega), endsL_getD (by omega), eAt_rev j hj]
  obtain ⟨a, a1, a2⟩ := lo_at (E := endsL L) L.length
  obtain ⟨b, b1, b2⟩ := hi_at (E := endsL L) L.length
  obtain ⟨c, c1, c2⟩ := lo_at (E := endsL L.reverse) L.length
  obtain ⟨d, d1, d2⟩ := hi_at (E := endsL L.reverse) L.length
  have p1 := lo_le (E := endsL L) L.length (L.length - c) (by omega)
  have p2 := lo_le (E := endsL L) L.length (L.length - d) (by omega)
  have p3 := le_hi (E := endsL L) L.length (L.length - c) (by omega)
  have p4 := le_hi (E := endsL L) L.length (L.length - d) (by omega)
  have q1 := lo_le (E := endsL L.reverse) L.length (L.length - a) (by omega)
  have q2 := lo_le (E := endsL L.reverse) L.length (L.length - b) (by omega)
  have q3 := le_hi (E := endsL L.reverse) L.length (L.length - a) (by omega)
  have q4 := le_hi (E := endsL L.reverse) L.length (L.length - b) (by omega)
  rw [g c c1] at c2
  rw [g d d1] at d2
  rw [g _ (by omega), show L.length - (L.length - a) = a by omega] at q1 q3
  rw [g _ (by omega), show L.length - (L.length - b) = b by omega] at q2 q4
  by_cases hp : ((L.length : Nat) : Int) % 2 = 0
  · rw [if_pos hp] at *
    omega
  · rw [if_neg hp] at *
    omega
theorem kindsOff_spec {a : List Int × List Int} (h : a.2.length ≤ 1000) : Ret (law16_kindsOff fuel a) fun r => (r.length = 0 ↔ ∀ i : Nat, i < a.2.length → a.2.getD i 0 = 3) := by
  unfold law16_kindsOff
  refine Ret_loop (Inv := fun x : (List Int) × Int => 0 ≤ x.2 ∧ x.2 ≤ a.2.length ∧ x.1.length ≤ x.2.toNat ∧ (x.1.length = 0 ↔ ∀ i : Nat, (i : Int) < x.2 → a.2.getD i 0 = 3)) (m := fun x => ((a.2.length : Int) - x.2).toNat) ?_ _ _ ⟨by simp, by simp, by simp, by simp; omega⟩ (by simp only [fuel]; omega)
  rintro ⟨L, i⟩ rec ⟨i1, i2, i3, i4⟩ ih
  dsimp only at i1 i2 i3 i4 ⊢
  refine Ret_dec (fun hlt => ?_) fun hge => Ret_some ?_
  · refine Ret_chk (inb_t i1 hlt) (Ret_dec (fun hk => ?_) fun hk => ?_)
    · refine Ret_chk (lenOk_t (by omega)) (Ret_chk (i64b_t (by omega) (by omega)) (ih _ ⟨by dsimp only; omega, by dsimp only; omega, by simp; omega, ?_⟩ (by dsimp only; omega)))
      dsimp only
      refine ⟨fun h => by simp at h, fun h => absurd (h i.toNat (by omega)) hk⟩
    · refine Ret_chk (i64b_t (by omega) (by omega)) (ih _ ⟨by dsimp only; omega, by dsimp only; omega, by dsimp only; omega, ?_⟩ (by dsimp only; omega))
      dsimp only
      rw [i4]
      refine ⟨fun h j hj => ?_, fun h j hj => h j (by omega)⟩
      by_cases hji : (j : Int) < i
      · exact h j hji
      · obtain rfl : j = i.toNat := by omega
        exact Decidable.not_not.1 hk
  · rw [i4]
    exact ⟨fun h j hj => h j (by omega), fun h j hj => h j (by omega)⟩
theorem valid_rev {s : List Int × List Int} (h : Valid s) : Valid (s.1.reverse, s.2.reverse) := ⟨by simpa using h.1, by simpa using h.2.1, fun x hx => h.2.2.1 x (by simpa using hx), fun x hx => h.2.2.2 x (by simpa using hx)⟩
theorem map_flip {L : List Int} (h : ∀ x ∈ L, 1 ≤ x ∧ x ≤ 3) : L = L.map flipK ↔ ∀ i : Nat, i < L.length → L.getD i 0 = 3 := by
  refine ⟨fun e i hi => ?_, fun e => ext_getD (by simp) fun i hi => ?_⟩
  · have h1 := h _ (getD_mem hi)
    have h2 : L.getD i 0 = flipK (L.getD i 0) := by
      conv => lhs; rw [e]
      rw [getD_map hi]
    unfold flipK at h2
    generalize L.getD i 0 = k at *
    by_cases k1 : k = 1
    · rw [if_pos k1] at h2; omega
    · rw [if_neg k1] at h2
      by_cases k2 : k = 2
      · rw [if_pos k2] at h2; omega
      · omega
  · rw [getD_map hi, e i hi]; rfl
theorem law16_StripsTurn_true {a : List Int × List Int} (h1 : bytes a.1) (h2 : bytes a.2) : law16_StripsTurn fuel a = some true := by
  apply Ret.eq
  unfold law16_StripsTurn
  refine Ret_bind (law16_T_Of_ok (a := (a.1, a.2)) h1 h2) fun s hs => ?_
  have hv := hs.valid
  obtain ⟨k1, k2, k3, k4, k5⟩ := hs
  have hr := valid_rev hv
  have k5' := k5
  refine Ret_bind (Ret.of (turn_spec (a := (s.1, s.2)) (by dsimp only; omega) (by dsimp only; omega))) fun r2 e => ?_
  subst e
  refine Ret_bind (Ret.of (over_spec (a := (s.1, s.2)) (by dsimp only; omega) (by dsimp only; omega))) fun r3 e => ?_
  subst e
  refine Ret_bind (Ret.of (strips_Ends_valid (s := (s.1, s.2)) hv)) fun r4 e => ?_
  subst e
  refine Ret_bind (Ret.of (strips_Ends_valid hr)) fun r5 e => ?_
  subst e
  dsimp only
  simp only [endsL_len, List.length_reverse, List.length_map]
  have hI : ∀ x ∈ s.1, 1 ≤ x ∧ x ≤ 64 := hv.2.2.1
  have hb : ∀ i, i ≤ s.1.length → -(64 * i : Int) ≤ eAt s.1 i ∧ eAt s.1 i ≤ 64 * i := eAt_bd hI
  have hbn := hb s.1.length (Nat.le_refl _)
  refine Ret_dec (fun h => absurd rfl h) fun _ => Ret_dec (fun h => absurd rfl h) fun _ => ?_
  refine Ret_chk (i64b_t (by omega) (by omega)) (Ret_dec (fun h => absurd (by omega) h) fun _ => Ret_chk (i64b_t (by omega) (by omega)) (Ret_dec (fun h => absurd (by omega) h) fun _ => Ret_chk (i64b_t (by omega) (by omega)) (Ret_dec (fun h => absurd (by omega) h) fun _ => Ret_chk (i64b_t (by omega) (by omega)) (Ret_dec (fun h => absurd (by omega) h) fun _ => ?_))))
  refine Ret_loop (Inv := fun x : Int => 0 ≤ x ∧ x ≤ s.1.length + 1) (m := fun x : Int => ((s.1.length : Int) + 1 - x).toNat) ?_ _ _ ⟨by omega, by omega⟩ (by unfold fuel; omega)
  intro x rec ⟨i1, i2⟩ ih
  refine Ret_dec (fun hle => ?_) fun hgt => ?_
  · have ex := eAt_rev (L := s.1) x.toNat (by omega)
    have eb := hb (s.1.length - x.toNat) (by omega)
    rw [endsL_getD (Nat.le_refl _), endsL_getD (show ((((s.1.length : Nat) : Int) - x) : Int).toNat ≤ s.1.length by omega), endsL_getD (show x.toNat ≤ s.1.reverse.length by simp; omega), ex, show ((((s.1.length : Nat) : Int) - x) : Int).toNat = s.1.length - x.toNat by omega]
    refine Ret_chk (inb_t (by omega) (by omega)) (Ret_chk (i64b_t (by omega) (by omega)) (Ret_chk (inb_t (by omega) (by omega)) (Ret_chk (i64b_t (by omega) (by omega)) (Ret_chk (by rw [Bool.and_eq_true]; exact ⟨decide_eq_true (by omega), rfl⟩) (Ret_dec (fun hp => ?_) fun hp => ?_)))))
    · rw [if_pos hp]
      exact Ret_chk (i64b_t (by omega) (by omega)) (Ret_chk (inb_t (by omega) (by omega)) (Ret_dec (fun h => absurd rfl h) fun _ => Ret_chk (i64b_t (by omega) (by omega)) (ih _ ⟨by omega, by omega⟩ (by omega))))
    · rw [if_neg hp]
      exact Ret_chk (inb_t (by omega) (by omega)) (Ret_dec (fun h => absurd rfl h) fun _ => Ret_chk (i64b_t (by omega) (by omega)) (ih _ ⟨by omega, by omega⟩ (by omega)))
  refine Ret_loop (Inv := fun x : Int => 0 ≤ x ∧ x ≤ s.2.length) (m := fun x : Int => ((s.2.length : Int) - x).toNat) ?_ _ _ ⟨by omega, by omega⟩ (by unfold fuel; omega)
  intro x rec ⟨j1, j2⟩ ih
  refine Ret_chk (i64b_t (by omega) (by omega)) (Ret_dec (fun hlt => ?_) fun hge => ?_)
  · have hk := k5 _ (getD_mem (L := s.2) (i := x.toNat) (by omega))
    have e1 : s.2.reverse.getD (((((s.1.length : Nat) : Int) - 2) - x) : Int).toNat 0 = s.2.getD x.toNat 0 := by
      rw [getD_reverse (by omega)]
      congr 1
      omega
    have e2 : (s.2.map flipK).getD x.toNat 0 = flipK (s.2.getD x.toNat 0) := getD_map (by omega)
    rw [e1, e2]
    generalize s.2.getD x.toNat 0 = k at *
    refine Ret_chk (inb_t j1 (by omega)) (Ret_dec (fun hne => ?_) fun heq => ?_)
    · have e3 : IntKind.u8.wrap (3 - k) = flipK k := by
        rw [wrap_u8 (by omega) (by omega)]
        unfold flipK
        by_cases q1 : k = 1
        · rw [if_pos q1]; omega
        · rw [if_neg q1, if_pos (by omega)]; omega
      rw [e3]
      exact Ret_chk (i64b_t (by omega) (by omega)) (Ret_chk (i64b_t (by omega) (by omega)) (Ret_chk (inb_t (by omega) (by omega)) (Ret_chk (inb_t (by omega) (by omega)) (Ret_dec (fun h => absurd rfl h) fun _ => Ret_chk (inb_t (by omega) (by omega)) (Ret_dec (fun h => absurd rfl h) fun _ => Ret_chk (i64b_t (by omega) (by omega)) (ih _ ⟨by omega, by omega⟩ (by omega)))))))
    · have e3 : flipK k = k := by
        rw [Decidable.not_not.1 heq]; rfl
      rw [e3]
      exact Ret_chk (i64b_t (by omega) (by omega)) (Ret_chk (i64b_t (by omega) (by omega)) (Ret_chk (inb_t (by omega) (by omega)) (Ret_chk (inb_t (by omega) (by omega)) (Ret_dec (fun h => absurd rfl h) fun _ => Ret_chk (inb_t (by omega) (by omega)) (Ret_dec (fun h => absurd rfl h) fun _ => Ret_chk (i64b_t (by omega) (by omega)) (ih _ ⟨by omega, by omega⟩ (by omega)))))))
  have e8 : strips_Turn fuel (s.1.reverse, s.2.reverse) = some (s.1, s.2) := by
    rw [turn_spec (by simp; omega) (by simp; omega)]
    simp
  have e9 : strips_Over fuel (s.1, s.2.map flipK) = some (s.1, s.2) := by
    rw [over_spec (by dsimp only; omega) (by simp; omega)]
    simp only [List.map_map]
    rw [show (flipK ∘ flipK) = id from funext fun k => flip_flip, List.map_id]
  refine Ret_bind (Ret.of e8) fun r e => ?_
  subst e
  refine Ret_bind (Ret.of e9) fun r e => ?_
  subst e
  refine Ret_bind (Ret.of (strips_Span_valid (s := (s.1, s.2)) hv)) fun r e => ?_
  subst e
  refine Ret_bind (Ret.of (strips_Span_valid hr)) fun r e => ?_
  subst e
  dsimp only
  iterate 4 (refine Ret_dec (fun h => absurd rfl h) fun _ => ?_)
  rw [cmp_loop rfl (by omega), if_pos rfl, cmp_loop rfl (by omega), if_pos rfl]
  iterate 4 (refine Ret_dec (fun h => absurd rfl h) fun _ => ?_)
  rw [cmp_loop rfl (by omega), if_pos rfl, cmp_loop rfl (by omega), if_pos rfl]
  refine Ret_dec (fun _ => ?_) fun h => absurd rfl h
  refine Ret_dec (fun _ => ?_) fun h => absurd rfl h
  have lb : ∀ {E : List Int} {k : Nat} {M : Int}, (∀ j, j ≤ k → -M ≤ E.getD j 0 ∧ E.getD j 0 ≤ M) → -M ≤ lo E k ∧ lo E k ≤ M ∧ -M ≤ hi E k ∧ hi E k ≤ M := fun h => by
    rename_i E k M
    obtain ⟨c, c1, c2⟩ := lo_at (E := E) k
    obtain ⟨d, d1, d2⟩ := hi_at (E := E) k
    have := h c c1
    have := h d d1
    omega
  have b1 := lb (E := endsL s.1) (k := s.1.length) (M := 1000) fun j hj => by
    rw [endsL_getD hj]
    have := hb j hj
    omega
  have b2 := lb (E := endsL s.1.reverse) (k := s.1.reverse.length) (M := 1000) fun j hj => by
    rw [endsL_getD hj]
    have := eAt_bd (L := s.1.reverse) (fun x hx => hI x (by simpa using hx)) j hj
    rw [List.length_reverse] at hj
    omega
  have es := span_rev (L := s.1)
  rw [List.length_reverse] at b2 ⊢
  refine Ret_chk (i64b_t (by omega) (by omega)) (Ret_chk (i64b_t (by omega) (by omega)) (Ret_dec (fun _ => ?_) fun h => absurd es h))
  refine Ret_bind (Ret.of (same_self (a := (s.1, s.2)) (by dsimp only; omega) (by dsimp only; omega))) fun r e => ?_
  subst e
  have e17 : strips_Same fuel ((s.1, s.2), (s.1, s.2.map flipK)) = some (decide (s.2 = s.2.map flipK)) := by
    unfold strips_Same
    dsimp only
    rw [equal_int (a := (s.1, s.1)) (by dsimp only; omega), equal_kind (a := (s.2, s.2.map flipK)) (by dsimp only; omega)]
    simp
  refine Ret_bif (fun _ => ?_) fun h => by cases h
  refine Ret_bind (Ret.of e17) fun r e => ?_
  subst e
  refine Ret_bind (kindsOff_spec (a := (s.1, s.2)) (by dsimp only; omega)) fun r hr18 => ?_
  have eq : (decide (s.2 = s.2.map flipK) == decide (((r.length : Nat) : Int) = 0)) = true := by
    rw [beq_iff_eq]
    refine decide_eq_decide.2 ?_
    rw [map_flip k5, ← hr18]
    omega
  rw [eq, lives16]
  exact Ret_some rfl
end X
end Go.Vm
namespace Go.Vm
namespace X
open W Go.Proofs.St
set_option maxRecDepth 100000
theorem bytes_snoc {L : List Int} {v : Int} (h : bytes L) (h1 : 0 ≤ v) (h2 : v ≤ 255) : bytes (L ++ [v]) := fun z hz => by
  rcases List.mem_append.1 hz with h3 | h3
  · exact h z h3
  · rw [List.mem_singleton.1 h3]; exact ⟨h1, h2⟩
theorem wrap_byte (n : Int) : 0 ≤ IntKind.u8.wrap n ∧ IntKind.u8.wrap n ≤ 255 := by
  simp [IntKind.wrap, IntKind.bits, IntKind.signed]; omega
theorem bytes_nil : bytes [] := fun z hz => by cases hz
theorem law16_StripsKnown_true : law16_StripsKnown fuel () = some true := by
  apply Ret.eq
  unfold law16_StripsKnown
  refine Ret_loop (Inv := fun x : Int × Int => 0 ≤ x.1 ∧ x.1 ≤ 100003 ∧ 0 ≤ x.2 ∧ x.2 ≤ 60) (m := fun x => (60 - x.2).toNat) ?_ _ _ ⟨by simp, by simp, by simp, by simp⟩ (by simp only [fuel]; omega)
  rintro ⟨k, n⟩ rec ⟨i1, i2, i3, i4⟩ ih
  dsimp only at i1 i2 i3 i4 ⊢
  refine Ret_dec (fun hlt => ?_) fun hge => ?_
  · refine Ret_loop (Inv := fun x : Int × (Int × ((List Int) × (List Int))) => 0 ≤ x.1 ∧ x.1 ≤ 100003 ∧ 0 ≤ x.2.1 ∧ x.2.1 ≤ 20 ∧ x.2.2.1.length ≤ x.2.1.toNat ∧ x.2.2.2.length ≤ x.2.1.toNat ∧ bytes x.2.2.1 ∧ bytes x.2.2.2) (m := fun x => (20 - x.2.1).toNat) ?_ _ _ ⟨i1, i2, by simp, by simp, by simp, by simp, bytes_nil, bytes_nil⟩ (by simp only [fuel]; omega)
    rintro ⟨k, i, L, K⟩ rec2 ⟨j1, j2, j3, j4, j5, j6, j7, j8⟩ ih2
    dsimp only at j1 j2 j3 j4 j5 j6 j7 j8 ⊢
    refine Ret_chk (by rw [Bool.and_eq_true]; exact ⟨decide_eq_true (by omega), rfl⟩) (Ret_chk (i64b_t (by omega) (by omega)) (Ret_dec (fun hlt2 => ?_) fun hge2 => ?_))
    · have w := wrap_byte k
      have w5 := wrap_byte (k / 5)
      have e5 : IntKind.i64.wrap (k / 5) = k / 5 := wrap64 (by omega) (by omega)
      rw [e5]
      refine Ret_chk (lenOk_t (by omega)) (Ret_chk (by rw [Bool.and_eq_true, Bool.and_eq_true]; exact ⟨⟨decide_eq_true (by omega), rfl⟩, decide_eq_true rfl⟩) (Ret_chk (lenOk_t (by omega)) (Ret_chk (i64b_t (by omega) (by omega)) (Ret_chk (i64b_t (by omega) (by omega)) (Ret_chk (i64b_t (by omega) (by omega)) (Ret_chk (i64b_t (by omega) (by omega)) (Ret_chk (by rw [Bool.and_eq_true]; exact ⟨decide_eq_true (by omega), rfl⟩) (Ret_chk (i64b_t (by omega) (by omega)) (ih2 _ ⟨by dsimp only; omega, by dsimp only; omega, by dsimp only; omega, by dsimp only; omega, by simp only [List.length_append, List.length_singleton]; omega, by simp only [List.length_append, List.length_singleton]; omega, bytes_snoc j7 w.1 w.2, bytes_snoc j8 w5.1 w5.2⟩ (by dsimp only; omega))))))))))
    · refine Ret_bind (Ret.of (law16_StripsEnds_true (a := (L, K)) j7 j8)) fun r e => ?_
      subst e
      refine Ret_bif (fun h => by cases h) fun _ => ?_
      refine Ret_bind (Ret.of (law16_StripsPattern_true (a := (L, K)) j7 j8)) fun r e => ?_
      subst e
      refine Ret_bif (fun h => by cases h) fun _ => ?_
      refine Ret_bind (Ret.of (law16_StripsTurn_true (a := (L, K)) j7 j8)) fun r e => ?_
      subst e
      refine Ret_bif (fun h => by cases h) fun _ => ?_
      refine Ret_bind (Ret.of (law16_StripsText_true (x := (L, K)) (t := [51, 32, 109, 32, 50]) j7 j8 (by decide))) fun r e => ?_
      subst e
      refine Ret_bif (fun h => by cases h) fun _ => ?_
      exact Ret_chk (i64b_t (by omega) (by omega)) (ih _ ⟨by dsimp only; omega, by dsimp only; omega, by dsimp only; omega, by dsimp only; omega⟩ (by dsimp only; omega))
  · refine Ret_bind (Ret.of (law16_StripsText_true (x := ([], [])) (t := [48]) bytes_nil bytes_nil (by decide))) fun r e => ?_
    subst e
    refine Ret_bif (fun _ => ?_) fun h => by cases h
    refine Ret_bind (Ret.of (law16_StripsText_true (x := ([], [])) (t := [54, 52, 32, 118, 32, 54, 53]) bytes_nil bytes_nil (by decide))) fun r e => ?_
    subst e
    refine Ret_bif (fun _ => ?_) fun h => by cases h
    refine Ret_bind (Ret.of (law16_StripsText_true (x := ([], [])) (t := [49, 32, 109]) bytes_nil bytes_nil (by decide))) fun r e => ?_
    subst e
    refine Ret_bif (fun _ => ?_) fun h => by cases h
    rw [lives16]
    exact Ret_some rfl
end X
end Go.Vm
