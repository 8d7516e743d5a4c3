/-
  Strips: plain laws: Of, Check, Ends, Span; the law StripsEnds.
  Strips: loops over lists; Check; lengths of joined texts.
  Strips: the plain law of Pattern.
  Sheets and patterns: plain laws of Cell, Id, Neighbour, Name, Check at a strip's pattern.
  Patterns that are strips: names and checks of any creases; the law StripsOf.
-/
import Derived.Test.YtppgnpodkmacoaaDoorQ7
import Derived.Test.YtppgnpodkmacoaaDoorXG7
import Derived.Test.YtppgnpodkmacoaaDoorVmWS
set_option linter.unusedSimpArgs false
set_option linter.unusedVariables false

namespace Go.Vm
namespace X
open W Go.Proofs.St
theorem lives16 : law16_lives fuel () = some true := by kernel_rfl
def bytes (L : List Int) : Prop := ∀ x ∈ L, 0 ≤ x ∧ x ≤ 255
def Valid (s : List Int × List Int) : Prop := s.1.length ≤ 32 ∧ s.1.length = s.2.length + 1 ∧ (∀ x ∈ s.1, 1 ≤ x ∧ x ≤ 64) ∧ ∀ x ∈ s.2, 1 ≤ x ∧ x ≤ 3
theorem strips_Check_valid {a : List Int × List Int} (h : Valid a) : strips_Check fuel a = some 0 := by
  obtain ⟨h1, h2, h3, h4⟩ := h
  apply Ret.eq
  unfold strips_Check
  refine Ret_dec (fun h => absurd h (by omega)) fun _ => ?_
  refine Ret_chk (i64b_t (by omega) (by omega)) ?_
  refine Ret_dec (fun h => absurd h (by omega)) fun _ => ?_
  refine Ret_loop (Inv := fun x : Int => 0 ≤ x ∧ x ≤ a.1.length) (m := fun x : Int => ((a.1.length : Int) - x).toNat) ?_ _ _ ⟨by omega, by omega⟩ (by unfold fuel; omega)
  intro x rec ⟨i1, i2⟩ ih
  refine Ret_dec (fun hlt => ?_) fun hge => ?_
  · have := h3 _ (getD_mem (i := x.toNat) (by omega))
    refine Ret_chk (inb_t i1 hlt) ?_
    refine Ret_dec (fun h => absurd h (by omega)) fun _ => Ret_dec (fun h => absurd h (by omega)) fun _ => Ret_chk (i64b_t (by omega) (by omega)) (ih _ ⟨by omega, by omega⟩ (by omega))
  · refine Ret_loop (Inv := fun x : Int => 0 ≤ x ∧ x ≤ a.2.length) (m := fun x : Int => ((a.2.length : Int) - x).toNat) ?_ _ _ ⟨by omega, by omega⟩ (by unfold fuel; omega)
    intro x rec ⟨i1, i2⟩ ih
    refine Ret_dec (fun hlt => ?_) fun hge => Ret_some rfl
    have := h4 _ (getD_mem (i := x.toNat) (by omega))
    refine Ret_chk (inb_t i1 hlt) ?_
    exact Ret_dec (fun h => absurd h (by omega)) fun _ => Ret_dec (fun h => absurd h (by omega)) fun _ => Ret_chk (i64b_t (by omega) (by omega)) (ih _ ⟨by omega, by omega⟩ (by omega))
end X
end Go.Vm
namespace Go.Vm
namespace X
open W Go.Proofs.St
theorem getD_cast {L : List Int} {i : Nat} : L.getD (((i : Nat) : Int)).toNat 0 = L.getD i 0 := by rw [Int.toNat_natCast]
theorem cmp_loop {β : Type} {L M : List Int} (hl : L.length = M.length) (h : L.length ≤ 10000) {r : β} {K : Option β} :
    loopF (fun (rec : Int → Option β) (x : Int) => bif (decide (x < ((L.length : Nat) : Int))) then (chk (inb x L.length) (chk (inb x M.length) (bif (decide ((L.getD x.toNat 0) ≠ (M.getD x.toNat 0))) then (some r) else (chk (i64b (x + 1)) (rec (x + 1)))))) else K) fuel 0 = if L = M then K else some r := by
  refine loopF_eq (fun x : Int => 0 ≤ x ∧ x ≤ L.length ∧ ∀ i : Nat, (i : Int) < x → L.getD i 0 = M.getD i 0) (fun x => ((L.length : Int) - x).toNat) (fun _ => if L = M then K else some r) ?_ _ _ ⟨by omega, by omega, fun i hi => by omega⟩ (by unfold fuel; omega)
  intro x rec ⟨i1, i2, i3⟩ ih
  by_cases hx : x < (L.length : Int)
  · rw [decide_eq_true hx, cond_true, show inb x L.length = true from inb_t i1 hx, show inb x M.length = true from inb_t i1 (by omega)]
    simp only [chk, cond_true]
    by_cases he : L.getD x.toNat 0 = M.getD x.toNat 0
    · rw [decide_eq_false (by simpa using he), cond_false, i64b_t (by omega) (by omega), cond_true]
      refine ih _ ⟨by omega, by omega, fun i hi => ?_⟩ (by omega)
      by_cases hix : (i : Int) = x
      · rw [← hix, Int.toNat_natCast] at he; exact he
      · exact i3 i (by omega)
    · rw [decide_eq_true (by simpa using he), cond_true, if_neg]
      rintro rfl; exact he rfl
  · rw [decide_eq_false hx, cond_false, if_pos]
    apply List.ext_getElem hl
    intro i h1 h2
    have := i3 i (by omega)
    simpa [List.getD, List.getElem?_eq_getElem h1, List.getElem?_eq_getElem h2] using this
def okI (L : List Int) : Prop := ∀ x ∈ L, 1 ≤ x ∧ x ≤ 64
def okK (L : List Int) : Prop := ∀ x ∈ L, 1 ≤ x ∧ x ≤ 3
instance {L : List Int} : Decidable (okI L) := inferInstanceAs (Decidable (∀ x ∈ L, 1 ≤ x ∧ x ≤ 64))
instance {L : List Int} : Decidable (okK L) := inferInstanceAs (Decidable (∀ x ∈ L, 1 ≤ x ∧ x ≤ 3))
theorem all_of_getD {L : List Int} {P : Int → Prop} (h : ∀ i : Nat, i < L.length → P (L.getD i 0)) : ∀ x ∈ L, P x := fun x hx => by
  obtain ⟨i, hi, rfl⟩ := List.mem_iff_getElem.1 hx
  have := h i hi
  simpa [List.getD, List.getElem?_eq_getElem hi] using this
def ckS (a : List Int × List Int) : Int := if 32 < a.1.length then 3 else if a.1.length ≠ a.2.length + 1 then 5 else if okI a.1 ∧ okK a.2 then 0 else 1
theorem check_spec {a : List Int × List Int} (h : a.2.length ≤ 1000) : strips_Check fuel a = some (ckS a) := by
  apply Ret.eq
  unfold strips_Check ckS
  refine Ret_dec (fun h => ?_) fun h1 => ?_
  · rw [if_pos (by omega)]; exact Ret_some rfl
  rw [if_neg (by omega)]
  refine Ret_chk (i64b_t (by omega) (by omega)) ?_
  refine Ret_dec (fun h => ?_) fun h2 => ?_
  · rw [if_pos (by omega)]; exact Ret_some rfl
  rw [if_neg (by omega)]
  refine Ret_loop (Inv := fun x : Int => 0 ≤ x ∧ x ≤ a.1.length ∧ ∀ i : Nat, (i : Int) < x → 1 ≤ a.1.getD i 0 ∧ a.1.getD i 0 ≤ 64) (m := fun x : Int => ((a.1.length : Int) - x).toNat) ?_ _ _ ⟨by omega, by omega, fun i hi => by omega⟩ (by unfold fuel; omega)
  intro x rec ⟨i1, i2, i3⟩ ih
  refine Ret_dec (fun hlt => ?_) fun hge => ?_
  · have hm := getD_mem (L := a.1) (i := x.toNat) (by omega)
    refine Ret_chk (inb_t i1 hlt) ?_
    refine Ret_dec (fun h => Ret_some ?_) fun ha => Ret_dec (fun h => Ret_some ?_) fun hb => Ret_chk (i64b_t (by omega) (by omega)) (ih _ ⟨by omega, by omega, fun i hi => ?_⟩ (by omega))
    · rw [if_neg]; rintro ⟨k1, _⟩; have := (k1 _ hm).1; omega
    · rw [if_neg]; rintro ⟨k1, _⟩; have := (k1 _ hm).2; omega
    · by_cases hix : (i : Int) = x
      · rw [← hix, Int.toNat_natCast] at ha hb; omega
      · exact i3 i (by omega)
  · have hI : okI a.1 := all_of_getD fun i hi => i3 i (by omega)
    refine Ret_loop (Inv := fun x : Int => 0 ≤ x ∧ x ≤ a.2.length ∧ ∀ i : Nat, (i : Int) < x → 1 ≤ a.2.getD i 0 ∧ a.2.getD i 0 ≤ 3) (m := fun x : Int => ((a.2.length : Int) - x).toNat) ?_ _ _ ⟨by omega, by omega, fun i hi => by omega⟩ (by unfold fuel; omega)
    intro x rec ⟨i1, i2, i3⟩ ih
    refine Ret_dec (fun hlt => ?_) fun hge => ?_
    · have hm := getD_mem (L := a.2) (i := x.toNat) (by omega)
      refine Ret_chk (inb_t i1 hlt) ?_
      refine Ret_dec (fun h => Ret_some ?_) fun ha => Ret_dec (fun h => Ret_some ?_) fun hb => Ret_chk (i64b_t (by omega) (by omega)) (ih _ ⟨by omega, by omega, fun i hi => ?_⟩ (by omega))
      · rw [if_neg]; rintro ⟨_, k1⟩; have := (k1 _ hm).1; omega
      · rw [if_neg]; rintro ⟨_, k1⟩; have := (k1 _ hm).2; omega
      · by_cases hix : (i : Int) = x
        · rw [← hix, Int.toNat_natCast] at ha hb; omega
        · exact i3 i (by omega)
    · rw [if_pos ⟨hI, all_of_getD fun i hi => i3 i (by omega)⟩]; exact Ret_some rfl
theorem ckS_valid {a : List Int × List Int} : ckS a = 0 ↔ Valid a := by
  unfold ckS Valid
  by_cases h1 : 32 < a.1.length
  · rw [if_pos h1]; constructor
    · intro h; cases h
    · intro h; omega
  rw [if_neg h1]
  by_cases h2 : a.1.length ≠ a.2.length + 1
  · rw [if_pos h2]; constructor
    · intro h; cases h
    · intro h; omega
  rw [if_neg h2]
  by_cases h3 : okI a.1 ∧ okK a.2
  · rw [if_pos h3]; exact ⟨fun _ => ⟨by omega, by omega, h3.1, h3.2⟩, fun _ => rfl⟩
  · rw [if_neg h3]; constructor
    · intro h; cases h
    · intro h; exact absurd ⟨h.2.2.1, h.2.2.2⟩ h3
theorem lens_le {n : Nat} : ∀ {l : List (List UInt8)}, (∀ s ∈ l, s.length ≤ n) → Lib.lens l ≤ l.length * n
  | [], _ => by simp [Lib.lens]
  | s :: l, h => by
    have h1 := h s (List.mem_cons_self ..)
    have h2 := lens_le (l := l) fun x hx => h x (List.mem_cons_of_mem _ hx)
    have h3 : Lib.lens (s :: l) = s.length + Lib.lens l := by simp [Lib.lens]
    rw [h3, List.length_cons, Nat.add_mul]; omega
theorem joinS_len {t : List Nat} {l : List (List Nat)} (h : ∀ s ∈ l, s.length ≤ 2) : (joinS l t).length ≤ l.length * (2 + t.length) := by
  match l, h with
  | [], _ => simp [joinS, Lib.join_nil]
  | s :: l, h =>
    have h2 := lens_le (n := 2) (l := (s :: l).map u8) fun x hx => by
      obtain ⟨y, hy, rfl⟩ := List.mem_map.1 hx
      simpa [u8] using h y hy
    simp only [joinS, List.map_cons, List.length_map] at h2 ⊢
    rw [Lib.join_length]
    simp only [List.length_cons, List.length_map, u8] at h2 ⊢
    rw [Nat.mul_add, Nat.mul_comm (l.length + 1) t.length, Nat.mul_add]
    omega
theorem joinS_cons {t : List Nat} {c : Nat} {s : List Nat} {l : List (List Nat)} : joinS ((c :: s) :: l) t ≠ [] := by
  simp only [joinS, List.map_cons, Lib.join_cons, u8]
  simp
end X
end Go.Vm
namespace Go.Vm
namespace X
open W Go.Proofs.St
theorem capIs_self {n : Nat} : capIs (some n) n = true := by simp [capIs, beq_dec]
def sumN (L : List Int) : Nat → Int
  | 0 => 0
  | i + 1 => sumN L i + L.getD i 0
theorem sumN_bd {L : List Int} (hL : okI L) : ∀ i, i ≤ L.length → 0 ≤ sumN L i ∧ sumN L i ≤ 64 * i
  | 0, _ => by simp [sumN]
  | i + 1, h => by
    have ih := sumN_bd hL i (by omega)
    have hx := hL _ (getD_mem (L := L) (i := i) (by omega))
    unfold sumN
    omega
def crease (a : List Int × List Int) (i : Nat) : Int × (Int × Int) := (4 * sumN a.1 (i + 1) - 3, (0, a.2.getD i 0))
def creases (a : List Int × List Int) (n : Nat) : List (Int × (Int × Int)) := (List.range n).map (crease a)
theorem pattern_valid {a : List Int × List Int} (h : Valid a) : strips_Pattern fuel a = some (if 256 < sumN a.1 a.1.length then ((0, (0, [])), 3) else ((sumN a.1 a.1.length, (1, creases a a.2.length)), 0)) := by
  obtain ⟨h1, h2, h3, h4⟩ := h
  have hI : okI a.1 := h3
  apply Ret.eq
  unfold strips_Pattern
  refine Ret_bind (Ret.of (strips_Check_valid ⟨h1, h2, h3, h4⟩)) fun r e => ?_
  subst e
  refine Ret_dec (fun h => absurd rfl h) fun _ => ?_
  refine Ret_chk (by simp; omega) ?_
  refine Ret_loop (Inv := fun x : (Int × (Int × (Int × ((List (Int × (Int × Int))) × Nat)))) => 0 ≤ x.1 ∧ x.1 ≤ a.1.length ∧ x.2.1 = sumN a.1 x.1.toNat ∧ x.2.2.1 = 1 ∧ x.2.2.2.1 = creases a (x.1.toNat - 1) ∧ x.2.2.2.2 = a.2.length) (m := fun x => ((a.1.length : Int) - x.1).toNat) ?_ _ _ ⟨by simp, by simp, rfl, rfl, rfl, rfl⟩ (by simp only [fuel]; omega)
  rintro ⟨i, w, o, l, c⟩ rec ⟨i1, i2, i3, i4, i5, i6⟩ ih
  simp only at i1 i2 i3 i4 i5 i6 ⊢
  subst i4; subst i6
  have bd := sumN_bd hI i.toNat (by omega)
  refine Ret_dec (fun hlt => ?_) fun hge => ?_
  · have hx := hI _ (getD_mem (L := a.1) (i := i.toNat) (by omega))
    have st : sumN a.1 (i + 1).toNat = sumN a.1 i.toNat + a.1.getD i.toNat 0 := by rw [show (i + 1).toNat = i.toNat + 1 by omega]; rfl
    have hll : l.length = i.toNat - 1 := by rw [i5]; simp [creases]
    refine Ret_chk (inb_t i1 hlt) ?_
    refine Ret_dec (fun hpos => ?_) fun hz => ?_
    · have hcap : appCap (some a.2.length) (l.length + 1) = some a.2.length := by
        unfold appCap
        simp only [ble_dec]
        rw [decide_eq_true (by omega)]; rfl
      refine Ret_chk (i64b_t (by omega) (by omega)) (Ret_chk (i64b_t (by omega) (by omega)) (Ret_chk (i64b_t (by omega) (by omega)) (Ret_chk (inb_t (by omega) (by omega)) (Ret_chk (lenOk_t (by omega)) (Ret_chk (i64b_t (by omega) (by omega)) (Ret_chk (i64b_t (by omega) (by omega)) (Ret_chk (by rw [hcap]; rfl) (ih _ ⟨by simp only; omega, by simp only; omega, by simp only [st, i3], rfl, ?_, by simp only [hcap]; rfl⟩ (by simp only; omega)))))))))
      simp only
      rw [i5, show (i + 1).toNat - 1 = (i.toNat - 1) + 1 by omega]
      unfold creases
      rw [List.range_succ, List.map_append]
      congr 1
      simp only [List.map_cons, List.map_nil, crease]
      rw [show i.toNat - 1 + 1 = i.toNat by omega, show (i - 1).toNat = i.toNat - 1 by omega, i3]
    · refine Ret_chk (i64b_t (by omega) (by omega)) (Ret_chk (i64b_t (by omega) (by omega)) (ih _ ⟨by simp only; omega, by simp only; omega, by simp only [st, i3], rfl, ?_, rfl⟩ (by simp only; omega)))
      simp only
      rw [i5, show (i + 1).toNat - 1 = i.toNat - 1 by omega]
  · have ei : i.toNat = a.1.length := by omega
    rw [ei] at i3 i5
    rw [← i3]
    refine Ret_dec (fun h => Ret_some ?_) fun h => ?_
    · rw [if_pos h]
    · rw [if_neg h]
      have hll : l.length = a.2.length := by rw [i5]; simp [creases]; omega
      refine Ret_chk (by rw [hll]; exact capIs_self) (Ret_some ?_)
      rw [i5, show a.1.length - 1 = a.2.length by omega]
end X
end Go.Vm
namespace Go.Vm
namespace X
open W Go.Proofs.St
theorem wrap_u8 {n : Int} (h1 : 0 ≤ n) (h2 : n ≤ 255) : IntKind.u8.wrap n = n := by
  simp [IntKind.wrap, IntKind.bits, IntKind.signed]; omega
theorem sheet_ok {W H : Int} (h1 : 1 ≤ W) (h2 : W ≤ 256) (h3 : 1 ≤ H) (h4 : W * H ≤ 256) (h5 : H ≤ 256) : sheets_Check fuel (W, H) = some 0 := by
  apply Ret.eq
  unfold sheets_Check
  have hn : 0 ≤ W * H := Int.mul_nonneg (by omega) (by omega)
  refine Ret_dec (fun h => absurd h (by simp only; omega)) fun _ => Ret_dec (fun h => absurd h (by simp only; omega)) fun _ => Ret_dec (fun h => absurd h (by simp only; omega)) fun _ => Ret_dec (fun h => absurd h (by simp only; omega)) fun _ => ?_
  exact Ret_chk (i64b_t (by simp only; omega) (by simp only; omega)) (Ret_dec (fun h => absurd h (by simp only; omega)) fun _ => Ret_some rfl)
theorem wrap64 {n : Int} (h1 : -9223372036854775808 ≤ n) (h2 : n ≤ 9223372036854775807) : IntKind.i64.wrap n = n := i64b_ok (i64b_t h1 h2)
theorem sheet1 {W : Int} (h1 : 1 ≤ W) (h2 : W ≤ 256) : sheets_Check fuel (W, 1) = some 0 := sheet_ok h1 h2 (by decide) (by rw [Int.mul_one]; exact h2) (by decide)
theorem cell_good {W j : Int} (h1 : 1 ≤ W) (h2 : W ≤ 256) (hj : 0 ≤ j) (hjW : j < W) : sheets_Cell fuel ((W, 1), 4 * j + 1) = some ((j, (0, 1)), 0) := by
  apply Ret.eq
  have e1 : (4 * j + 1) / 4 = j := by omega
  have e2 : (4 * j + 1) % 4 = 1 := by omega
  have e3 : j % W = j := Int.emod_eq_of_lt hj hjW
  have e4 : j / W = 0 := Int.ediv_eq_zero_of_lt hj hjW
  unfold sheets_Cell
  refine Ret_bind (Ret.of (sheet1 h1 h2)) fun r e => ?_
  subst e
  refine Ret_dec (fun h => absurd rfl h) fun _ => ?_
  simp only [Int.mul_one, e1, e2, e3, e4, wrap_u8 (n := 1) (by decide) (by decide), wrap64 (n := j) (by omega) (by omega), wrap64 (n := 0) (by decide) (by decide)]
  refine Ret_dec (fun _ => ?_) fun h => absurd (show (0 : Int) ≤ 4 * j + 1 by omega) h
  refine Ret_chk (i64b_t (by omega) (by omega)) (Ret_chk (i64b_t (by omega) (by omega)) ?_)
  rw [decide_eq_true (show 4 * j + 1 < 4 * W by omega)]
  simp only [Bool.not_true, cond_false]
  exact Ret_chk (by simp; omega) (Ret_chk (by simp; omega) (Ret_chk (by simp; omega) (Ret_chk (by simp; omega) (Ret_chk (by simp; omega) (Ret_some rfl)))))
theorem neigh_good {j : Int} (hj : 0 ≤ j) (hj2 : j ≤ 256) : cells_Neighbour fuel ((j, (0, 1)), 0) = some ((1 + j, (0, 3)), 0) := by
  apply Ret.eq
  have q : (quarters.getD (1 : Int).toNat ((0, 0), (0, (0, ((List.replicate 3 (0, (0, 0))), ((0, 0), (0, 0))))))).2.2.2.1.getD (0 : Int).toNat (0, (0, 0)) = (1, (0, 3)) := rfl
  unfold cells_Neighbour
  simp only [q]
  iterate 6 (refine Ret_dec (fun h => absurd h (by omega)) fun _ => ?_)
  refine Ret_chk (by decide) (Ret_chk (by decide) (Ret_chk (i64b_t (by omega) (by omega)) (Ret_chk (i64b_t (by omega) (by omega)) ?_)))
  iterate 5 (refine Ret_dec (fun h => absurd h (by omega)) fun _ => ?_)
  exact Ret_some rfl
theorem id_good {W j : Int} (h1 : 1 ≤ W) (h2 : W ≤ 256) (hj : 0 ≤ j) (hjW : j < W) : sheets_Id fuel ((W, 1), (j, (0, 3))) = some (4 * j + 3, 0) := by
  apply Ret.eq
  unfold sheets_Id
  refine Ret_bind (Ret.of (sheet1 h1 h2)) fun r e => ?_
  subst e
  refine Ret_dec (fun h => absurd rfl h) fun _ => ?_
  simp only [Int.zero_mul, Int.zero_add]
  iterate 9 (refine Ret_dec (fun h => absurd h (by omega)) fun _ => ?_)
  exact Ret_chk (i64b_t (by omega) (by omega)) (Ret_chk (i64b_t (by omega) (by omega)) (Ret_chk (i64b_t (by omega) (by omega)) (Ret_chk (i64b_t (by omega) (by omega)) (Ret_chk (i64b_t (by omega) (by omega)) (Ret_some rfl)))))
theorem name_good {W j : Int} (h1 : 1 ≤ W) (h2 : W ≤ 256) (hj : 0 ≤ j) (hjW : j + 1 < W) : sheets_Name fuel ((W, 1), (4 * j + 1, 0)) = some ((4 * j + 1, 0), 0) := by
  have e : sheets_Neighbour fuel ((W, 1), (4 * j + 1, 0)) = some (4 * (1 + j) + 3, 0) := by
    apply Ret.eq
    unfold sheets_Neighbour
    dsimp only
    refine Ret_bind (Ret.of (cell_good h1 h2 hj (by omega))) fun r e => ?_
    subst e
    refine Ret_dec (fun h => absurd rfl h) fun _ => ?_
    refine Ret_bind (Ret.of (neigh_good hj (show j ≤ 256 by omega))) fun r e => ?_
    subst e
    refine Ret_dec (fun h => absurd rfl h) fun _ => ?_
    refine Ret_bind (Ret.of (id_good h1 h2 (j := 1 + j) (by omega) (by omega))) fun r e => ?_
    subst e
    exact Ret_some rfl
  apply Ret.eq
  unfold sheets_Name
  refine Ret_bind (Ret.of e) fun r e => ?_
  subst e
  refine Ret_dec (fun h => absurd rfl h) fun _ => Ret_some ?_
  simp only
  rw [Int.min_eq_left (by omega)]
abbrev Cr := Int × (Int × Int)
def Across (W : Int) (l : List Cr) (k : Nat → Int) : Prop := (∀ i : Nat, i < l.length → (l.getD i (0, (0, 0))).1 = 4 * k i - 3 ∧ (l.getD i (0, (0, 0))).2.1 = 0 ∧ 1 ≤ (l.getD i (0, (0, 0))).2.2 ∧ (l.getD i (0, (0, 0))).2.2 ≤ 3 ∧ 1 ≤ k i ∧ k i < W) ∧ ∀ i : Nat, i + 1 < l.length → k i < k (i + 1)
theorem contains_good {l : List Cr} (hl : l.length ≤ 1000) (h : ∀ i : Nat, i < l.length → 1 ≤ (l.getD i (0, (0, 0))).2.2 ∧ (l.getD i (0, (0, 0))).2.2 ≤ 3) : slices_ContainsFunc_patterns_Crease fuel (l, ()) = some false := by
  have e : slices_IndexFunc_patterns_Crease fuel (l, ()) = some (-1) := by
    apply Ret.eq
    unfold slices_IndexFunc_patterns_Crease
    dsimp only
    refine Ret_loop (Inv := fun x : Int => 0 ≤ x ∧ x ≤ l.length) (m := fun x : Int => ((l.length : Int) - x).toNat) ?_ _ _ ⟨by omega, by omega⟩ (by unfold fuel; omega)
    intro x rec ⟨i1, i2⟩ ih
    refine Ret_dec (fun hlt => ?_) fun _ => Ret_some rfl
    have := h x.toNat (by omega)
    refine Ret_chk (inb_t i1 hlt) (Ret_dec (fun _ => ?_) fun hn => absurd this.1 hn)
    rw [decide_eq_true this.2]
    simp only [Bool.not_true, cond_false]
    exact Ret_chk (i64b_t (by omega) (by omega)) (ih _ ⟨by omega, by omega⟩ (by omega))
  unfold slices_ContainsFunc_patterns_Crease
  rw [e]; rfl
theorem order_lt {a c : Int} {e1 e2 : Int} (h : a < c) (h1 : -1000000 ≤ a) (h2 : c ≤ 1000000) : Ret (patterns_order fuel ((a, e1), (c, e2))) fun r => r < 0 := by
  unfold patterns_order
  dsimp only
  refine Ret_dec (fun _ => ?_) fun hn => absurd (show a ≠ c by omega) hn
  exact Ret_chk (i64b_t (by omega) (by omega)) (Ret_some (by omega))
theorem check_across {W : Int} {l : List Cr} {k : Nat → Int} (h1 : 1 ≤ W) (h2 : W ≤ 256) (hl : l.length ≤ 1000) (h : Across W l k) : patterns_Check fuel (W, (1, l)) = some 0 := by
  obtain ⟨g1, g2⟩ := h
  apply Ret.eq
  unfold patterns_Check
  dsimp only
  refine Ret_bind (Ret.of (sheet1 h1 h2)) fun r e => ?_
  subst e
  refine Ret_dec (fun h => absurd rfl h) fun _ => ?_
  refine Ret_bind (Ret.of (contains_good hl fun i hi => ⟨(g1 i hi).2.2.1, (g1 i hi).2.2.2.1⟩)) fun r e => ?_
  subst e
  refine Ret_bif (fun h => by cases h) fun _ => ?_
  refine Ret_loop (Inv := fun x : Int => 0 ≤ x ∧ x ≤ l.length) (m := fun x : Int => ((l.length : Int) - x).toNat) ?_ _ _ ⟨by omega, by omega⟩ (by unfold fuel; omega)
  intro x rec ⟨i1, i2⟩ ih
  refine Ret_dec (fun hlt => ?_) fun hge => ?_
  · have hx := g1 x.toNat (by omega)
    have hn : sheets_Name fuel ((W, 1), ((l.getD x.toNat (0, (0, 0))).1, (l.getD x.toNat (0, (0, 0))).2.1)) = some (((l.getD x.toNat (0, (0, 0))).1, 0), 0) := by
      rw [hx.1, hx.2.1, show 4 * k x.toNat - 3 = 4 * (k x.toNat - 1) + 1 by omega]
      exact name_good h1 h2 (by omega) (by omega)
    refine Ret_chk (inb_t i1 hlt) (Ret_bind (Ret.of hn) fun r e => ?_)
    subst e
    refine Ret_dec (fun h => absurd rfl h) fun _ => ?_
    rw [show ((!(decide (((l.getD x.toNat (0, (0, 0))).1) = (l.getD x.toNat (0, (0, 0))).1) && decide ((0 : Int) = (l.getD x.toNat (0, (0, 0))).2.1))) = false) by rw [decide_eq_true rfl, decide_eq_true hx.2.1.symm]; rfl]
    simp only [cond_false]
    exact Ret_chk (i64b_t (by omega) (by omega)) (ih _ ⟨by omega, by omega⟩ (by omega))
  · refine Ret_loop (Inv := fun x : Int => 1 ≤ x ∧ (x ≤ l.length ∨ x = 1)) (m := fun x : Int => ((l.length : Int) - x).toNat) ?_ _ _ ⟨by omega, .inr rfl⟩ (by unfold fuel; omega)
    intro x rec ⟨i1, i2⟩ ih
    refine Ret_dec (fun hlt => ?_) fun hge => Ret_some rfl
    have ha := g1 (x - 1).toNat (by omega)
    have hb := g1 x.toNat (by omega)
    have hk := g2 (x - 1).toNat (by omega)
    rw [show (x - 1).toNat + 1 = x.toNat by omega] at hk
    refine Ret_chk (i64b_t (by omega) (by omega)) (Ret_chk (inb_t (by omega) (by omega)) (Ret_chk (inb_t (by omega) (by omega)) (Ret_bind (order_lt (by rw [ha.1, hb.1]; omega) (by rw [ha.1]; omega) (by rw [hb.1]; omega)) fun r hr => ?_)))
    exact Ret_dec (fun h => absurd h (by omega)) fun _ => Ret_chk (i64b_t (by omega) (by omega)) (ih _ ⟨by omega, by omega⟩ (by omega))
theorem creases_len {s : List Int × List Int} {n : Nat} : (creases s n).length = n := by simp [creases]
theorem creases_get {s : List Int × List Int} {n i : Nat} (h : i < n) : (creases s n).getD i (0, (0, 0)) = crease s i := by
  unfold creases
  rw [List.getD, List.getElem?_map, List.getElem?_range h]; rfl
theorem sumN_lt {L : List Int} (hL : okI L) : ∀ j i, i < j → j ≤ L.length → sumN L i < sumN L j
  | 0, i, h, _ => absurd h (Nat.not_lt_zero _)
  | j + 1, i, h, hj => by
    have hx := (hL _ (getD_mem (L := L) (i := j) (by omega))).1
    have e : sumN L (j + 1) = sumN L j + L.getD j 0 := rfl
    by_cases hij : i = j
    · subst hij; omega
    · have := sumN_lt hL j i (by omega) (by omega)
      omega
theorem across_strip {s : List Int × List Int} (h : Valid s) : Across (sumN s.1 s.1.length) (creases s s.2.length) (fun i => sumN s.1 (i + 1)) := by
  obtain ⟨h1, h2, h3, h4⟩ := h
  have hI : okI s.1 := h3
  refine ⟨fun i hi => ?_, fun i hi => ?_⟩
  · rw [creases_len] at hi
    rw [creases_get hi]
    have hk := h4 _ (getD_mem (L := s.2) (i := i) hi)
    have a := sumN_lt hI (i + 1) 0 (by omega) (by omega)
    have b := sumN_lt hI s.1.length (i + 1) (by omega) (Nat.le_refl _)
    have a' : (0 : Int) < sumN s.1 (i + 1) := a
    exact ⟨rfl, rfl, hk.1, hk.2, show (1 : Int) ≤ sumN s.1 (i + 1) by omega, b⟩
  · rw [creases_len] at hi
    exact sumN_lt hI (i + 1 + 1) (i + 1) (by omega) (by omega)
theorem take_snoc' {L : List Int} {k : Nat} (h : k < L.length) : L.take k ++ [L.getD k 0] = L.take (k + 1) := by
  rw [List.take_add_one, List.getD, List.getElem?_eq_getElem h]; rfl
theorem of_strip {s : List Int × List Int} (h : Valid s) (hs : 1 ≤ s.1.length) (hW : sumN s.1 s.1.length ≤ 256) : strips_Of fuel (sumN s.1 s.1.length, (1, creases s s.2.length)) = some (s, 0) := by
  have hV := h
  obtain ⟨h1, h2, h3, h4⟩ := h
  have hI : okI s.1 := h3
  have hpos := sumN_lt hI s.1.length 0 (by omega) (Nat.le_refl _)
  have hp0 : sumN s.1 0 = 0 := rfl
  rw [hp0] at hpos
  apply Ret.eq
  unfold strips_Of
  dsimp only
  refine Ret_bind (Ret.of (check_across (by omega) hW (by rw [creases_len]; omega) (across_strip hV))) fun r e => ?_
  subst e
  refine Ret_dec (fun h => absurd rfl h) fun _ => Ret_dec (fun h => absurd rfl h) fun _ => ?_
  refine Ret_loop (Inv := fun x : (Int × (Int × ((Unit × Unit) × ((List Int) × (List Int))))) => 0 ≤ x.2.1 ∧ x.2.1 ≤ s.2.length ∧ x.1 = sumN s.1 x.2.1.toNat ∧ x.2.2.2.1 = s.1.take x.2.1.toNat ∧ x.2.2.2.2 = s.2.take x.2.1.toNat) (m := fun x => ((s.2.length : Int) - x.2.1).toNat) ?_ _ _ ⟨by simp, by simp, rfl, rfl, rfl⟩ (by simp only [fuel]; omega)
  rintro ⟨last, i, _, ls, ks⟩ rec ⟨i1, i2, i3, i4, i5⟩ ih
  dsimp only at i1 i2 i3 i4 i5 ⊢
  subst i4; subst i5
  simp only [creases_len]
  refine Ret_dec (fun hlt => ?_) fun hge => ?_
  · rw [creases_get (by omega)]
    simp only [crease]
    have b1 := sumN_bd hI (i.toNat + 1) (by omega)
    have b0 := sumN_bd hI i.toNat (by omega)
    have hk := h3 _ (getD_mem (L := s.1) (i := i.toNat) (by omega))
    have e1 : sumN s.1 (i.toNat + 1) = sumN s.1 i.toNat + s.1.getD i.toNat 0 := rfl
    have e2 : (4 * sumN s.1 (i.toNat + 1) - 3 + 3) / 4 = sumN s.1 (i.toNat + 1) := by omega
    have e3 : (4 * sumN s.1 (i.toNat + 1) - 3) % 4 = 1 := by omega
    have e4 : 1 ≤ sumN s.1 (i.toNat + 1) := by omega
    simp only [e2, e3]
    refine Ret_chk (inb_t i1 hlt) (Ret_chk (by rw [Bool.and_eq_true]; exact ⟨decide_eq_true (by omega), rfl⟩) ?_)
    refine Ret_dec (fun h => absurd rfl h) fun _ => Ret_dec (fun h => absurd rfl h) fun _ => ?_
    refine Ret_chk (i64b_t (by omega) (by omega)) (Ret_chk (by rw [wrap64 (by omega) (by omega), Bool.and_eq_true, Bool.and_eq_true]; exact ⟨⟨decide_eq_true (by omega), decide_eq_true (by omega)⟩, decide_eq_true rfl⟩) (Ret_chk (i64b_t (by omega) (by omega)) (Ret_chk (lenOk_t (by simp only [List.length_take]; omega)) (Ret_chk (lenOk_t (by simp only [List.length_take]; omega)) (Ret_chk (i64b_t (by omega) (by omega)) (ih _ ⟨by dsimp only; omega, by dsimp only; omega, ?_, ?_, ?_⟩ (by dsimp only; omega)))))))
    · dsimp only; rw [show (i + 1).toNat = i.toNat + 1 by omega]
    · dsimp only
      rw [show (i + 1).toNat = i.toNat + 1 by omega, show sumN s.1 (i.toNat + 1) - last = s.1.getD i.toNat 0 by rw [i3]; omega]
      exact take_snoc' (by omega)
    · dsimp only
      rw [show (i + 1).toNat = i.toNat + 1 by omega]
      exact take_snoc' (by omega)
  · have ei : i.toNat = s.2.length := by omega
    have e1 : sumN s.1 s.1.length = sumN s.1 s.2.length + s.1.getD s.2.length 0 := by rw [h2]; rfl
    have e2 : s.1.take i.toNat ++ [sumN s.1 s.1.length - last] = s.1 := by
      rw [i3, ei, show sumN s.1 s.1.length - sumN s.1 s.2.length = s.1.getD s.2.length 0 by omega, take_snoc' (by omega)]
      exact List.take_of_length_le (by omega)
    have e3 : s.2.take i.toNat = s.2 := List.take_of_length_le (by omega)
    have b0 := sumN_bd hI i.toNat (by omega)
    rw [e2, e3]
    refine Ret_chk (i64b_t (by omega) (by omega)) (Ret_chk (lenOk_t (by simp only [List.length_take]; omega)) (Ret_bind (Ret.of (strips_Check_valid hV)) fun r e => ?_))
    subst e
    refine Ret_dec (fun h => absurd rfl h) fun _ => ?_
    refine Ret_chk (by simp [bnb]) (Ret_chk (by simp [bnb]) (Ret_chk (by simp [capIs, ble_dec]) (Ret_some (by simp))))
end X
end Go.Vm
namespace Go.Vm
namespace X
open W Go.Proofs.St
set_option maxRecDepth 100000
abbrev qd : (Int × Int) × (Int × (Int × (List (Int × (Int × Int)) × ((Int × Int) × (Int × Int))))) := ((0, 0), (0, (0, ((List.replicate 3 (0, (0, 0))), ((0, 0), (0, 0))))))
theorem quart : ∀ q < 4, ∀ e < 3, -1 ≤ ((quarters.getD q qd).2.2.2.1.getD e (0, (0, 0))).1 ∧ ((quarters.getD q qd).2.2.2.1.getD e (0, (0, 0))).1 ≤ 1 ∧ -1 ≤ ((quarters.getD q qd).2.2.2.1.getD e (0, (0, 0))).2.1 ∧ ((quarters.getD q qd).2.2.2.1.getD e (0, (0, 0))).2.1 ≤ 1 ∧ 0 ≤ ((quarters.getD q qd).2.2.2.1.getD e (0, (0, 0))).2.2 ∧ ((quarters.getD q qd).2.2.2.1.getD e (0, (0, 0))).2.2 ≤ 3 ∧ (q = 1 → e = 0 → ((quarters.getD q qd).2.2.2.1.getD e (0, (0, 0))).1 = 1) := by decide
theorem cell_total {W H c : Int} (h1 : 1 ≤ W) (h2 : W ≤ 12) (h3 : 1 ≤ H) (h4 : H ≤ 2) (hc : 0 ≤ c) (hc2 : c ≤ 1000) : Ret (sheets_Cell fuel ((W, H), c)) fun r => r.2 = 0 → 0 ≤ r.1.1 ∧ r.1.1 < W ∧ 0 ≤ r.1.2.1 ∧ r.1.2.1 ≤ 300 ∧ 0 ≤ r.1.2.2 ∧ r.1.2.2 ≤ 3 ∧ (H = 1 → c % 4 = 1 → r.1.1 = c / 4 ∧ r.1.2.2 = 1) := by
  have hWH : W * H ≤ 256 := by
    have : W * H ≤ 12 * 2 := Int.mul_le_mul h2 h4 (by omega) (by decide)
    omega
  have hWH0 : 0 ≤ W * H := Int.mul_nonneg (by omega) (by omega)
  have e4 : 4 * W * H = 4 * (W * H) := Int.mul_assoc ..
  unfold sheets_Cell
  refine Ret_bind (Ret.of (sheet_ok (W := W) (H := H) h1 (by omega) h3 hWH (by omega))) fun r e => ?_
  subst e
  refine Ret_dec (fun h => absurd rfl h) fun _ => ?_
  have a1 := Int.emod_nonneg (c / 4) (show W ≠ 0 by omega)
  have a2 := Int.emod_lt_of_pos (c / 4) (show 0 < W by omega)
  have a3 : 0 ≤ c / 4 / W := Int.ediv_nonneg (by omega) (by omega)
  have a4 : c / 4 / W ≤ c / 4 := Int.ediv_le_self _ (by omega)
  have w4 : IntKind.i64.wrap (c / 4) = c / 4 := wrap64 (by omega) (by omega)
  have w5 : IntKind.i64.wrap (c / 4 / W) = c / 4 / W := wrap64 (by omega) (by omega)
  have w6 : IntKind.u8.wrap (c % 4) = c % 4 := wrap_u8 (by omega) (by omega)
  dsimp only
  rw [w4, w5, w6, e4]
  refine Ret_dec (fun _ => ?_) fun h => absurd hc h
  refine Ret_chk (i64b_t (by omega) (by omega)) (Ret_chk (i64b_t (by omega) (by omega)) ?_)
  refine Ret_bif (fun h => Ret_some fun h => by cases h) fun hlt => ?_
  have hlt : c < 4 * (W * H) := by simpa using hlt
  refine Ret_chk (by simp; omega) (Ret_chk (by simp; omega) (Ret_chk (by simp; omega) (Ret_chk (by simp; omega) (Ret_chk (by simp; omega) (Ret_some fun _ => ⟨a1, a2, a3, by dsimp only; omega, by dsimp only; omega, by dsimp only; omega, fun hH hm => ⟨?_, hm⟩⟩)))))
  subst hH
  rw [Int.mul_one] at hlt
  exact Int.emod_eq_of_lt (by omega) (by omega)
theorem neigh_total {x y q e : Int} (hx : 0 ≤ x) (hx2 : x ≤ 300) (hy : 0 ≤ y) (hy2 : y ≤ 300) (hq : 0 ≤ q) (hq2 : q ≤ 3) (he : 0 ≤ e) (he2 : e ≤ 2) :
    Ret (cells_Neighbour fuel ((x, (y, q)), e)) fun r => r.2 = 0 → -1 ≤ r.1.1 ∧ r.1.1 ≤ 301 ∧ -1 ≤ r.1.2.1 ∧ r.1.2.1 ≤ 301 ∧ 0 ≤ r.1.2.2 ∧ r.1.2.2 ≤ 3 ∧ (q = 1 → e = 0 → r.1.1 = 1 + x) := by
  obtain ⟨b1, b2, b3, b4, b5, b6, b7⟩ := quart q.toNat (by omega) e.toNat (by omega)
  have b7' : q = 1 → e = 0 → ((quarters.getD q.toNat qd).2.2.2.1.getD e.toNat (0, (0, 0))).1 = 1 := fun h h' => b7 (by omega) (by omega)
  unfold cells_Neighbour
  dsimp only
  generalize (quarters.getD q.toNat ((0, 0), (0, (0, ((List.replicate 3 (0, (0, 0))), ((0, 0), (0, 0))))))).2.2.2.1.getD e.toNat (0, (0, 0)) = t at *
  iterate 6 (refine Ret_dec (fun h => absurd h (by omega)) fun _ => ?_)
  refine Ret_chk (inb_t hq (by show q < ((4 : Nat) : Int); omega)) (Ret_chk (inb_t he (by show e < ((3 : Nat) : Int); omega)) (Ret_chk (i64b_t (by omega) (by omega)) (Ret_chk (i64b_t (by omega) (by omega)) ?_)))
  iterate 5 (refine Ret_dec (fun h => absurd h (by omega)) fun _ => ?_)
  exact Ret_some fun _ => ⟨by dsimp only; omega, by dsimp only; omega, by dsimp only; omega, by dsimp only; omega, b5, b6, fun h h' => by dsimp only; rw [b7' h h']⟩
theorem id_total {W H x y q : Int} (h1 : 1 ≤ W) (h2 : W ≤ 12) (h3 : 1 ≤ H) (h4 : H ≤ 2) (hx : -1 ≤ x) (hx2 : x ≤ 301) (hy : -1 ≤ y) (hy2 : y ≤ 301) (hq : 0 ≤ q) (hq2 : q ≤ 3) : Ret (sheets_Id fuel ((W, H), (x, (y, q)))) fun r => r.2 = 0 → x < W := by
  have hWH : W * H ≤ 256 := by
    have : W * H ≤ 12 * 2 := Int.mul_le_mul h2 h4 (by omega) (by decide)
    omega
  unfold sheets_Id
  refine Ret_bind (Ret.of (sheet_ok (W := W) (H := H) h1 (by omega) h3 hWH (by omega))) fun r e => ?_
  subst e
  refine Ret_dec (fun h => absurd rfl h) fun _ => ?_
  dsimp only
  iterate 5 (refine Ret_dec (fun h => absurd h (by omega)) fun _ => ?_)
  iterate 4 (refine Ret_dec (fun h => Ret_some fun h => by cases h) fun _ => ?_)
  have hy3 : y * W ≤ 1 * 12 := Int.mul_le_mul (by omega) h2 (by omega) (by decide)
  have hy4 : 0 ≤ y * W := Int.mul_nonneg (by omega) (by omega)
  exact Ret_chk (i64b_t (by omega) (by omega)) (Ret_chk (i64b_t (by omega) (by omega)) (Ret_chk (i64b_t (by omega) (by omega)) (Ret_chk (i64b_t (by omega) (by omega)) (Ret_chk (i64b_t (by omega) (by omega)) (Ret_some fun _ => by omega)))))
theorem name_total {W H c e : Int} (h1 : 1 ≤ W) (h2 : W ≤ 12) (h3 : 1 ≤ H) (h4 : H ≤ 2) (hc : 0 ≤ c) (hc2 : c ≤ 1000) (he : 0 ≤ e) (he2 : e ≤ 2) : Ret (sheets_Name fuel ((W, H), (c, e))) fun r => r.2 = 0 → H = 1 → c % 4 = 1 → e = 0 → c / 4 + 1 < W := by
  have hn : Ret (sheets_Neighbour fuel ((W, H), (c, e))) fun r => r.2 = 0 → H = 1 → c % 4 = 1 → e = 0 → c / 4 + 1 < W := by
    unfold sheets_Neighbour
    dsimp only
    refine Ret_bind (cell_total h1 h2 h3 h4 hc hc2) fun r hr => ?_
    refine Ret_dec (fun h => Ret_some fun h' => absurd h' h) fun h => ?_
    obtain ⟨r1, r2, r3, r4, r5, r6, r7⟩ := hr (Decidable.not_not.1 h)
    refine Ret_bind (neigh_total r1 (by omega) r3 (by omega) r5 r6 he he2) fun s hs => ?_
    refine Ret_dec (fun h => Ret_some fun h' => by cases h') fun h => ?_
    obtain ⟨s1, s2, s3, s4, s5, s6, s7⟩ := hs (Decidable.not_not.1 h)
    refine Ret_bind (id_total h1 h2 h3 h4 s1 s2 s3 s4 s5 s6) fun t ht => Ret_some fun h0 hH hm h' => ?_
    have := ht h0
    have a := r7 hH hm
    have b := s7 a.2 h'
    omega
  unfold sheets_Name
  dsimp only
  refine Ret_bind hn fun r hr => ?_
  exact Ret_dec (fun h => Ret_some fun h' => absurd h' h) fun h => Ret_some fun _ => hr (Decidable.not_not.1 h)
theorem order_total {a c e1 e2 : Int} (h1 : 0 ≤ a) (h2 : a ≤ 1000) (h3 : 0 ≤ c) (h4 : c ≤ 1000) (h5 : 0 ≤ e1) (h6 : e1 ≤ 255) (h7 : 0 ≤ e2) (h8 : e2 ≤ 255) : Ret (patterns_order fuel ((a, e1), (c, e2))) fun _ => True := by
  unfold patterns_order
  dsimp only
  refine Ret_dec (fun _ => Ret_chk (i64b_t (by omega) (by omega)) (Ret_some trivial)) fun _ => ?_
  exact Ret_chk (i64b_t (by omega) (by omega)) (Ret_chk (i64b_t (by omega) (by omega)) (Ret_chk (i64b_t (by omega) (by omega)) (Ret_some trivial)))
def Good (l : List Cr) (m : Int) : Prop := (∀ i : Nat, i < l.length → 1 ≤ (l.getD i ((0, (0, 0)) : Cr)).1 ∧ (l.getD i ((0, (0, 0)) : Cr)).1 ≤ m ∧ 0 ≤ (l.getD i ((0, (0, 0)) : Cr)).2.1 ∧ (l.getD i ((0, (0, 0)) : Cr)).2.1 ≤ 2 ∧ 1 ≤ (l.getD i ((0, (0, 0)) : Cr)).2.2 ∧ (l.getD i ((0, (0, 0)) : Cr)).2.2 ≤ 3) ∧ ∀ i : Nat, i + 1 < l.length → (l.getD i ((0, (0, 0)) : Cr)).1 < (l.getD (i + 1) ((0, (0, 0)) : Cr)).1
theorem Good_nil {m : Int} : Good [] m := ⟨fun i hi => absurd hi (Nat.not_lt_zero _), fun i hi => absurd hi (Nat.not_lt_zero _)⟩
theorem Good_snoc {l : List Cr} {m m' : Int} {x : Cr} (h : Good l m) (hm : m < x.1) (h1 : 1 ≤ x.1) (h2 : x.1 ≤ m') (h3 : 0 ≤ x.2.1) (h4 : x.2.1 ≤ 2) (h5 : 1 ≤ x.2.2) (h6 : x.2.2 ≤ 3) : Good (l ++ [x]) m' := by
  have e1 : ∀ i, i < l.length → (l ++ [x]).getD i ((0, (0, 0)) : Cr) = l.getD i ((0, (0, 0)) : Cr) := fun i hi => by simp [List.getD, List.getElem?_append_left hi]
  have e2 : (l ++ [x]).getD l.length ((0, (0, 0)) : Cr) = x := by simp [List.getD]
  refine ⟨fun i hi => ?_, fun i hi => ?_⟩
  · rw [List.length_append, List.length_singleton] at hi
    by_cases hl : i < l.length
    · rw [e1 i hl]
      have := h.1 i hl
      omega
    · obtain rfl : i = l.length := by omega
      rw [e2]
      omega
  · rw [List.length_append, List.length_singleton] at hi
    rw [e1 i (by omega)]
    by_cases hl : i + 1 < l.length
    · rw [e1 _ hl]
      exact h.2 i hl
    · rw [show i + 1 = l.length by omega, e2]
      have := h.1 i (by omega)
      omega
def AcrossAt (l : List Cr) (i : Nat) : Prop := (l.getD i ((0, (0, 0)) : Cr)).1 % 4 = 1 ∧ (l.getD i ((0, (0, 0)) : Cr)).2.1 = 0
theorem check_total {W H : Int} {l : List Cr} {m : Int} (h1 : 1 ≤ W) (h2 : W ≤ 12) (h3 : 1 ≤ H) (h4 : H ≤ 2) (hl : l.length ≤ 8) (hg : Good l m) (hm : m ≤ 1000) :
    Ret (patterns_Check fuel (W, (H, l))) fun r => r = 0 → H = 1 → ∀ i, i < l.length → AcrossAt l i → (l.getD i ((0, (0, 0)) : Cr)).1 / 4 + 1 < W := by
  have hWH : W * H ≤ 256 := by
    have : W * H ≤ 12 * 2 := Int.mul_le_mul h2 h4 (by omega) (by decide)
    omega
  unfold patterns_Check
  dsimp only
  refine Ret_bind (Ret.of (sheet_ok (W := W) (H := H) h1 (by omega) h3 hWH (by omega))) fun r e => ?_
  subst e
  refine Ret_dec (fun h => absurd rfl h) fun _ => ?_
  refine Ret_bind (Ret.of (contains_good (by omega) fun i hi => (hg.1 i hi).2.2.2.2)) fun r e => ?_
  subst e
  refine Ret_bif (fun h => by cases h) fun _ => ?_
  refine Ret_loop (Inv := fun x : Int => 0 ≤ x ∧ x ≤ l.length ∧ (H = 1 → ∀ i : Nat, (i : Int) < x → AcrossAt l i → (l.getD i ((0, (0, 0)) : Cr)).1 / 4 + 1 < W)) (m := fun x : Int => ((l.length : Int) - x).toNat) ?_ _ _ ⟨by omega, by omega, fun _ i hi => by omega⟩ (by unfold fuel; omega)
  intro x rec ⟨i1, i2, i3⟩ ih
  refine Ret_dec (fun hlt => ?_) fun hge => ?_
  · have hx := hg.1 x.toNat (by omega)
    refine Ret_chk (inb_t i1 hlt) (Ret_bind (name_total h1 h2 h3 h4 (by omega) (by omega) hx.2.2.1 hx.2.2.2.1) fun r hr => ?_)
    refine Ret_dec (fun h => Ret_some fun h' => by cases h') fun h => ?_
    refine Ret_bif (fun h => Ret_some fun h' => by cases h') fun _ => ?_
    refine Ret_chk (i64b_t (by omega) (by omega)) (ih _ ⟨by omega, by omega, fun hH i hi ha => ?_⟩ (by omega))
    by_cases hix : (i : Int) < x
    · exact i3 hH i hix ha
    · obtain rfl : i = x.toNat := by omega
      exact hr (Decidable.not_not.1 h) hH ha.1 ha.2
  · have i3' : H = 1 → ∀ i, i < l.length → AcrossAt l i → (l.getD i ((0, (0, 0)) : Cr)).1 / 4 + 1 < W := fun hH i hi => i3 hH i (by omega)
    refine Ret_loop (Inv := fun x : Int => 1 ≤ x ∧ (x ≤ l.length ∨ x = 1)) (m := fun x : Int => ((l.length : Int) - x).toNat) ?_ _ _ ⟨by omega, .inr rfl⟩ (by unfold fuel; omega)
    intro x rec ⟨i1, i2⟩ ih
    refine Ret_dec (fun hlt => ?_) fun hge => Ret_some fun _ => i3'
    have ha := hg.1 (x - 1).toNat (by omega)
    have hb := hg.1 x.toNat (by omega)
    refine Ret_chk (i64b_t (by omega) (by omega)) (Ret_chk (inb_t (by omega) (by omega)) (Ret_chk (inb_t (by omega) (by omega)) (Ret_bind (order_total (by omega) (by omega) (by omega) (by omega) ha.2.2.1 (by omega) hb.2.2.1 (by omega)) fun r hr => ?_)))
    exact Ret_dec (fun h => Ret_some fun h' => by cases h') fun _ => Ret_chk (i64b_t (by omega) (by omega)) (ih _ ⟨by omega, by omega⟩ (by omega))
theorem of_err {W H c : Int} {l : List Cr} (h : patterns_Check fuel (W, (H, l)) = some c) (hc : c ≠ 0) : strips_Of fuel (W, (H, l)) = some (([], []), c) := by
  apply Ret.eq
  unfold strips_Of
  dsimp only
  refine Ret_bind (Ret.of h) fun r e => ?_
  subst e
  exact Ret_dec (fun _ => Ret_some rfl) fun h => absurd hc h
theorem of_none {W H : Int} {l : List Cr} {m : Int} (hl : l.length ≤ 8) (hg : Good l m) (hm : m ≤ 1000) (h : patterns_Check fuel (W, (H, l)) = some 0) (hn : H = 1 → ∃ i, i < l.length ∧ ¬AcrossAt l i) : strips_Of fuel (W, (H, l)) = some (([], []), 7) := by
  apply Ret.eq
  unfold strips_Of
  dsimp only
  refine Ret_bind (Ret.of h) fun r e => ?_
  subst e
  refine Ret_dec (fun h => absurd rfl h) fun _ => Ret_dec (fun _ => Ret_some rfl) fun hH => ?_
  obtain ⟨i0, hi0, hbad⟩ := hn (Decidable.not_not.1 hH)
  refine Ret_loop (Inv := fun x : (Int × (Int × ((Unit × Unit) × ((List Int) × (List Int))))) => 0 ≤ x.2.1 ∧ x.2.1 ≤ l.length ∧ 0 ≤ x.1 ∧ x.1 ≤ 1000 ∧ x.2.2.2.1.length ≤ 100 + x.2.1.toNat ∧ x.2.2.2.2.length ≤ 100 + x.2.1.toNat ∧ ∀ i : Nat, (i : Int) < x.2.1 → AcrossAt l i) (m := fun x => ((l.length : Int) - x.2.1).toNat) ?_ _ _ ⟨by simp, by simp, by simp, by simp, by simp, by simp, fun i hi => by dsimp only at hi; omega⟩ (by simp only [fuel]; omega)
  rintro ⟨last, i, _, ls, ks⟩ rec ⟨i1, i2, i3, i4, i5, i6, i7⟩ ih
  dsimp only at i1 i2 i3 i4 i5 i6 i7 ⊢
  refine Ret_dec (fun hlt => ?_) fun hge => ?_
  · have hx := hg.1 i.toNat (by omega)
    refine Ret_chk (inb_t i1 hlt) (Ret_chk (by rw [Bool.and_eq_true]; exact ⟨decide_eq_true (by omega), rfl⟩) ?_)
    refine Ret_dec (fun _ => Ret_some rfl) fun ha => Ret_dec (fun _ => Ret_some rfl) fun hb => ?_
    refine Ret_chk (i64b_t (by omega) (by omega)) (Ret_chk (by rw [wrap64 (by omega) (by omega), Bool.and_eq_true, Bool.and_eq_true]; exact ⟨⟨decide_eq_true (by omega), rfl⟩, decide_eq_true rfl⟩) (Ret_chk (i64b_t (by omega) (by omega)) (Ret_chk (lenOk_t (by omega)) (Ret_chk (lenOk_t (by omega)) (Ret_chk (i64b_t (by omega) (by omega)) (ih _ ⟨by dsimp only; omega, by dsimp only; omega, by dsimp only; omega, by dsimp only; omega, by simp only [List.length_append, List.length_singleton]; omega, by simp only [List.length_append, List.length_singleton]; omega, fun j hj => ?_⟩ (by dsimp only; omega)))))))
    dsimp only at hj
    by_cases hji : (j : Int) < i
    · exact i7 j hji
    · obtain rfl : j = i.toNat := by omega
      exact ⟨Decidable.not_not.1 ha, Decidable.not_not.1 hb⟩
  · exact absurd (i7 i0 (by omega)) hbad
def kAt (l : List Cr) (W : Int) : Nat → Int
  | 0 => 0
  | j + 1 => if j < l.length then ((l.getD j ((0, (0, 0)) : Cr)).1 + 3) / 4 else W
def strip (l : List Cr) (W : Int) : List Int × List Int := ((List.range (l.length + 1)).map fun j => kAt l W (j + 1) - kAt l W j, l.map fun x => x.2.2)
theorem strip_sum {l : List Cr} {W : Int} : ∀ j, j ≤ l.length + 1 → sumN (strip l W).1 j = kAt l W j
  | 0, _ => rfl
  | j + 1, h => by
    have e : sumN (strip l W).1 (j + 1) = sumN (strip l W).1 j + (strip l W).1.getD j 0 := rfl
    have e2 : (strip l W).1.getD j 0 = kAt l W (j + 1) - kAt l W j := by
      unfold strip
      rw [List.getD, List.getElem?_map, List.getElem?_range (by omega)]; rfl
    rw [e, strip_sum j (by omega), e2]
    omega
theorem strip_len {l : List Cr} {W : Int} : (strip l W).1.length = l.length + 1 ∧ (strip l W).2.length = l.length := by simp [strip]
theorem strip_creases {l : List Cr} {W : Int} (ha : ∀ i, i < l.length → AcrossAt l i) : creases (strip l W) l.length = l := by
  apply List.ext_getElem
  · rw [creases_len]
  intro i h1 h2
  have e1 : (creases (strip l W) l.length)[i] = crease (strip l W) i := by simp [creases]
  have e2 : l.getD i ((0, (0, 0)) : Cr) = l[i] := by simp [List.getD, h2]
  have e3 : (strip l W).2.getD i 0 = l[i].2.2 := by simp [strip, List.getD, h2]
  have hx := ha i h2
  unfold AcrossAt at hx
  rw [e2] at hx
  rw [e1]
  unfold crease
  rw [strip_sum (i + 1) (by omega), e3]
  have e4 : kAt l W (i + 1) = (l[i].1 + 3) / 4 := by
    show (if i < l.length then ((l.getD i ((0, (0, 0)) : Cr)).1 + 3) / 4 else W) = _
    rw [if_pos h2, e2]
  rw [e4]
  refine Prod.ext (by dsimp only; omega) (Prod.ext hx.2.symm rfl)
theorem strip_valid {l : List Cr} {W m : Int} (h2 : W ≤ 12) (h1 : 1 ≤ W) (hl : l.length ≤ 8) (hg : Good l m) (ha : ∀ i, i < l.length → AcrossAt l i ∧ (l.getD i ((0, (0, 0)) : Cr)).1 / 4 + 1 < W) : Valid (strip l W) := by
  have hk : ∀ j, j ≤ l.length → 0 ≤ kAt l W j ∧ kAt l W j < kAt l W (j + 1) ∧ kAt l W (j + 1) ≤ W := by
    intro j hj
    unfold kAt
    match j with
    | 0 =>
      dsimp only
      by_cases h0 : 0 < l.length
      · have a := hg.1 0 h0
        have b := ha 0 h0
        have b1 := b.1.1
        rw [if_pos h0]
        omega
      · rw [if_neg h0]
        omega
    | j + 1 =>
      dsimp only
      have a := hg.1 j (by omega)
      have b := ha j (by omega)
      have b1 := b.1.1
      rw [if_pos (show j < l.length by omega)]
      by_cases h0 : j + 1 < l.length
      · have c := ha (j + 1) h0
        have c1 := c.1.1
        have d := hg.2 j h0
        rw [if_pos h0]
        omega
      · rw [if_neg h0]
        omega
  refine ⟨by rw [strip_len.1]; omega, by rw [strip_len.1, strip_len.2], fun x hx => ?_, fun x hx => ?_⟩
  · unfold strip at hx
    obtain ⟨j, hj, rfl⟩ := List.mem_map.1 hx
    have := hk j (by have := List.mem_range.1 hj; omega)
    omega
  · unfold strip at hx
    obtain ⟨y, hy, rfl⟩ := List.mem_map.1 hx
    obtain ⟨i, hi, rfl⟩ := List.getElem_of_mem hy
    have := hg.1 i hi
    rw [show l.getD i ((0, (0, 0)) : Cr) = l[i] by simp [List.getD, hi]] at this
    omega
theorem same_self {W H : Int} {l : List Cr} (hl : l.length ≤ 1000) : patterns_Same fuel ((W, (H, l)), (W, (H, l))) = some true := by
  have e : slices_Equal_patterns_Crease fuel (l, l) = some true := by
    apply Ret.eq
    unfold slices_Equal_patterns_Crease
    dsimp only
    refine Ret_dec (fun h => absurd rfl h) fun _ => ?_
    refine Ret_loop (Inv := fun x : Int => 0 ≤ x ∧ x ≤ l.length) (m := fun x : Int => ((l.length : Int) - x).toNat) ?_ _ _ ⟨by omega, by omega⟩ (by unfold fuel; omega)
    intro x rec ⟨i1, i2⟩ ih
    refine Ret_dec (fun hlt => ?_) fun _ => Ret_some rfl
    refine Ret_chk (inb_t i1 hlt) (Ret_chk (inb_t i1 hlt) ?_)
    simp only [decide_true, Bool.and_self, Bool.not_true, cond_false]
    exact Ret_chk (i64b_t (by omega) (by omega)) (ih _ ⟨by omega, by omega⟩ (by omega))
  apply Ret.eq
  unfold patterns_Same
  dsimp only
  simp only [decide_true, Bool.and_self, cond_true]
  exact Ret_bind (Ret.of e) fun r e => Ret_some e
theorem byte_get {L : List (List Int)} (h : ∀ x ∈ L, bytes x) (i k : Nat) : 0 ≤ (L.getD i (List.replicate 3 0)).getD k 0 ∧ (L.getD i (List.replicate 3 0)).getD k 0 ≤ 255 := by
  have hb : ∀ (x : List Int), bytes x → 0 ≤ x.getD k 0 ∧ x.getD k 0 ≤ 255 := fun x hx => by
    by_cases hk : k < x.length
    · exact hx _ (getD_mem hk)
    · simp [List.getD, List.getElem?_eq_none (by omega : x.length ≤ k)]
  refine hb _ ?_
  by_cases hi : i < L.length
  · rw [List.getD, List.getElem?_eq_getElem hi]
    exact h _ (List.getElem_mem hi)
  · rw [List.getD, List.getElem?_eq_none (by omega)]
    intro z hz
    have : z = 0 := by simpa using hz
    omega
def Acr (H : Int) (l : List Cr) (n : Int) : Prop := H = 1 ∧ ∀ i : Nat, (i : Int) < n → AcrossAt l i
theorem law16_StripsOf_true {a : Int × (Int × List (List Int))} (h1 : 0 ≤ a.1) (h2 : 0 ≤ a.2.1) (h2' : a.2.1 ≤ 255) (h3 : ∀ x ∈ a.2.2, bytes x) : law16_StripsOf fuel a = some true := by
  obtain ⟨w, h, A⟩ := a
  dsimp only at h1 h2 h2' h3
  have hl : Ret ((law16_lives fuel ()).bind fun r1 => some r1) fun x => x = true := by
    rw [lives16]; exact Ret_some rfl
  apply Ret.eq
  unfold law16_StripsOf
  dsimp only
  refine Ret_dec (fun _ => hl) fun hA => ?_
  have e3 : IntKind.i64.wrap (h % 4 / 3) = h % 4 / 3 := wrap64 (by omega) (by omega)
  rw [e3]
  refine Ret_chk (by rw [Bool.and_eq_true]; exact ⟨decide_eq_true (by omega), rfl⟩) (Ret_chk (i64b_t (by omega) (by omega)) (Ret_chk (i64b_t (by omega) (by omega)) (Ret_chk (by rw [Bool.and_eq_true]; exact ⟨decide_eq_true (by omega), rfl⟩) (Ret_chk (i64b_t (by omega) (by omega)) (Ret_chk (by rw [Bool.and_eq_true, Bool.and_eq_true]; exact ⟨⟨decide_eq_true (by omega), rfl⟩, decide_eq_true rfl⟩) (Ret_chk (i64b_t (by omega) (by omega)) ?_))))))
  have hW1 : 1 ≤ 1 + w % 12 := by omega
  have hW2 : 1 + w % 12 ≤ 12 := by omega
  have hH1 : 1 ≤ 1 + h % 4 / 3 := by omega
  have hH2 : 1 + h % 4 / 3 ≤ 2 := by omega
  generalize 1 + w % 12 = W at *
  generalize 1 + h % 4 / 3 = H at *
  refine Ret_loop (Inv := fun x : (Int × (Int × (Int × (Int × (List (Int × (Int × Int))))))) => 0 ≤ x.2.1 ∧ x.2.1 ≤ A.length ∧ 0 ≤ x.1 ∧ x.1 ≤ 6 * x.2.1 ∧ x.2.2.1 = W ∧ x.2.2.2.1 = H ∧ x.2.2.2.2.length = x.2.1.toNat ∧ Good x.2.2.2.2 x.1) (m := fun x => ((A.length : Int) - x.2.1).toNat) ?_ _ _ ⟨by simp, by simp, by simp, by simp, rfl, rfl, rfl, Good_nil⟩ (by simp only [fuel]; omega)
  rintro ⟨at_, i, W', H', l⟩ rec ⟨i1, i2, i3, i4, i5, i6, i7, i8⟩ ih
  dsimp only at i1 i2 i3 i4 i5 i6 i7 i8 ⊢
  subst i5; subst i6
  refine Ret_dec (fun hlt => ?_) fun hge => ?_
  · have b0 := byte_get h3 i.toNat 0
    have b1 := byte_get h3 i.toNat 1
    have b2 := byte_get h3 i.toNat 2
    have e4 : IntKind.u8.wrap (1 + (A.getD i.toNat (List.replicate 3 0)).getD 2 0 % 3) = 1 + (A.getD i.toNat (List.replicate 3 0)).getD 2 0 % 3 := wrap_u8 (by omega) (by omega)
    rw [e4]
    refine Ret_chk (i64b_t (by omega) (by omega)) (Ret_chk (inb_t i1 hlt) (Ret_chk (by rw [Bool.and_eq_true]; exact ⟨decide_eq_true (by omega), rfl⟩) (Ret_chk (i64b_t (by omega) (by omega)) (Ret_chk (i64b_t (by omega) (by omega)) (Ret_chk (inb_t i1 hlt) (Ret_chk (by rw [Bool.and_eq_true]; exact ⟨decide_eq_true (by omega), rfl⟩) (Ret_chk (inb_t i1 hlt) (Ret_chk (by rw [Bool.and_eq_true]; exact ⟨decide_eq_true (by omega), rfl⟩) (Ret_chk (lenOk_t (by omega)) (Ret_chk (i64b_t (by omega) (by omega)) (ih _ ⟨by dsimp only; omega, by dsimp only; omega, by dsimp only; omega, by dsimp only; omega, rfl, rfl, ?_, ?_⟩ (by dsimp only; omega))))))))))))
    · simp only [List.length_append, List.length_singleton]; omega
    · dsimp only
      exact Good_snoc i8 (by dsimp only; omega) (by dsimp only; omega) (by dsimp only; omega) (by dsimp only; omega) (by dsimp only; omega) (by dsimp only; omega) (by dsimp only; omega)
  have hll : l.length ≤ 8 := by omega
  obtain ⟨c, hc, hcp⟩ := check_total hW1 hW2 hH1 hH2 hll i8 (by omega)
  have hs : ∃ r, strips_Of fuel (W', (H', l)) = some r ∧ (c ≠ 0 → r = (([], []), c)) ∧ (c = 0 → ¬Acr H' l l.length → r = (([], []), 7)) ∧ (c = 0 → Acr H' l l.length → r = (strip l W', 0) ∧ Valid (strip l W') ∧ sumN (strip l W').1 (strip l W').1.length = W' ∧ creases (strip l W') (strip l W').2.length = l) := by
    by_cases h0 : c = 0
    · subst h0
      by_cases hac : Acr H' l l.length
      · obtain ⟨hH, hac'⟩ := hac
        subst hH
        have hall : ∀ i, i < l.length → AcrossAt l i := fun i hi => hac' i (by omega)
        have hv := strip_valid hW2 hW1 hll i8 fun i hi => ⟨hall i hi, hcp rfl rfl i hi (hall i hi)⟩
        have es : sumN (strip l W').1 (strip l W').1.length = W' := by
          rw [strip_len.1, strip_sum _ (Nat.le_refl _)]
          show (if l.length < l.length then _ else W') = W'
          rw [if_neg (by omega)]
        have ec : creases (strip l W') (strip l W').2.length = l := by rw [strip_len.2, strip_creases hall]
        have := of_strip hv (by rw [strip_len.1]; omega) (by rw [es]; omega)
        rw [es, ec] at this
        exact ⟨_, this, fun h => absurd rfl h, fun _ h => absurd ⟨rfl, hac'⟩ h, fun _ _ => ⟨rfl, hv, es, ec⟩⟩
      · refine ⟨_, of_none hll i8 (by omega) hc fun hH => ?_, fun h => absurd rfl h, fun _ _ => rfl, fun _ h => absurd h hac⟩
        refine Classical.byContradiction fun hn => hac ⟨hH, fun i hi => Classical.byContradiction fun hb => hn ⟨i, by omega, hb⟩⟩
    · exact ⟨_, of_err hc h0, fun _ => rfl, fun h => absurd h h0, fun h => absurd h h0⟩
  obtain ⟨r3, hr3, p1, p2, p3⟩ := hs
  refine Ret_bind (Ret.of hr3) fun r e => ?_
  subst e
  refine Ret_bind (Ret.of hc) fun r4 e => ?_
  subst e
  refine Ret_dec (fun hne => ?_) fun heq => ?_
  · rw [p1 hne]
    exact Ret_dec (fun _ => Ret_dec (fun _ => hl) fun h => absurd rfl h) fun h => absurd rfl h
  have heq : r4 = 0 := Decidable.not_not.1 heq
  subst heq
  refine Ret_loop (Inv := fun x : Bool × Int => 0 ≤ x.2 ∧ x.2 ≤ l.length ∧ (x.1 = true ↔ Acr H' l x.2)) (m := fun x => ((l.length : Int) - x.2).toNat) ?_ _ _ ⟨by simp, by simp, ?_⟩ (by simp only [fuel]; omega)
  · rintro ⟨b, i⟩ rec ⟨j1, j2, j3⟩ ih2
    dsimp only at j1 j2 j3 ⊢
    have step : ∀ b' : Bool, (b' = true ↔ (b = true ∧ AcrossAt l i.toNat)) → i < l.length → Ret (rec (b', i + 1)) fun x => x = true := fun b' hb' hlt => by
      refine ih2 _ ⟨by dsimp only; omega, by dsimp only; omega, ?_⟩ (by dsimp only; omega)
      dsimp only
      rw [hb', j3]
      refine ⟨fun ⟨⟨q1, q2⟩, q3⟩ => ⟨q1, fun j hj => ?_⟩, fun ⟨q1, q2⟩ => ⟨⟨q1, fun j hj => q2 j (by omega)⟩, q2 i.toNat (by omega)⟩⟩
      by_cases hji : (j : Int) < i
      · exact q2 j hji
      · obtain rfl : j = i.toNat := by omega
        exact q3
    refine Ret_dec (fun hlt => ?_) fun hge => ?_
    · have hx := i8.1 i.toNat (by omega)
      refine Ret_bif (fun hb => ?_) fun hb => ?_
      · refine Ret_chk (inb_t j1 hlt) (Ret_chk (by rw [Bool.and_eq_true]; exact ⟨decide_eq_true (by omega), rfl⟩) ?_)
        refine Ret_dec (fun hm => ?_) fun hm => ?_
        · refine Ret_chk (inb_t j1 hlt) (Ret_chk (i64b_t (by omega) (by omega)) (step _ ?_ hlt))
          rw [decide_eq_true_iff]
          exact ⟨fun h => ⟨hb, hm, h⟩, fun h => h.2.2⟩
        · refine Ret_chk (i64b_t (by omega) (by omega)) (step false ⟨fun h => (by cases h), fun h => absurd h.2.1 hm⟩ hlt)
      · refine Ret_chk (i64b_t (by omega) (by omega)) (step false ⟨fun h => (by cases h), fun h => by rw [hb] at h; cases h.1⟩ hlt)
    · have hi : i = l.length := by omega
      subst hi
      refine Ret_bif (fun hb => ?_) fun hb => ?_
      · have hna : ¬Acr H' l l.length := fun h => by rw [j3.2 h] at hb; cases hb
        rw [p2 rfl hna]
        exact Ret_dec (fun _ => Ret_dec (fun _ => hl) fun h => absurd rfl h) fun h => absurd rfl h
      · have hac : Acr H' l l.length := j3.1 (by simpa using hb)
        obtain ⟨q1, q2, q3, q4⟩ := p3 rfl hac
        have hH := hac.1
        subst hH
        rw [q1]
        have hp : strips_Pattern fuel ((strip l W').1, (strip l W').2) = some ((W', (1, l)), 0) := by
          rw [show ((strip l W').1, (strip l W').2) = strip l W' from rfl, pattern_valid q2, q3, q4, if_neg (by omega)]
        refine Ret_bind (Ret.of hp) fun r8 e8 => ?_
        subst e8
        dsimp only
        refine Ret_dec (fun _ => ?_) fun h => absurd rfl h
        refine Ret_dec (fun _ => ?_) fun h => absurd rfl h
        refine Ret_bind (Ret.of (same_self (by omega))) fun r9 e9 => ?_
        subst e9
        exact hl
  · dsimp only
    rw [decide_eq_true_iff]
    exact ⟨fun h => ⟨h, fun i hi => by omega⟩, fun h => h.1⟩
end X
end Go.Vm
