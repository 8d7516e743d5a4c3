/-
  Strips: plain laws: Of, Check, Ends, Span; the law StripsEnds.
  Strips: loops over lists; Check; lengths of joined texts.
  Strips: the plain law of Pattern.
  Strips: the plain law of T.Of.
  Sheets and patterns: plain laws of Cell, Id, Neighbour, Name, Check at a strip's pattern; the law StripsPattern.
-/
import Derived.Test.YtppgnpodkmacoaaDoorQ7
import Derived.Test.YtppgnpodkmacoaaDoorXG7
import Derived.Test.YtppgnpodkmacoaaDoorVmWS
set_option linter.unusedSimpArgs false
set_option linter.unusedVariables false

namespace Go.Vm
namespace X
open W Go.Proofs.St
theorem lives16 : law16_lives fuel () = some true := by kernel_rfl
def bytes (L : List Int) : Prop := ∀ x ∈ L, 0 ≤ x ∧ x ≤ 255
def Valid (s : List Int × List Int) : Prop := s.1.length ≤ 32 ∧ s.1.length = s.2.length + 1 ∧ (∀ x ∈ s.1, 1 ≤ x ∧ x ≤ 64) ∧ ∀ x ∈ s.2, 1 ≤ x ∧ x ≤ 3
theorem strips_Check_valid {a : List Int × List Int} (h : Valid a) : strips_Check fuel a = some 0 := by
  obtain ⟨h1, h2, h3, h4⟩ := h
  apply Ret.eq
  unfold strips_Check
  refine Ret_dec (fun h => absurd h (by omega)) fun _ => ?_
  refine Ret_chk (i64b_t (by omega) (by omega)) ?_
  refine Ret_dec (fun h => absurd h (by omega)) fun _ => ?_
  refine Ret_loop (Inv := fun x : Int => 0 ≤ x ∧ x ≤ a.1.length) (m := fun x : Int => ((a.1.length : Int) - x).toNat) ?_ _ _ ⟨by omega, by omega⟩ (by unfold fuel; omega)
  intro x rec ⟨i1, i2⟩ ih
  refine Ret_dec (fun hlt => ?_) fun hge => ?_
  · have := h3 _ (getD_mem (i := x.toNat) (by omega))
    refine Ret_chk (inb_t i1 hlt) ?_
    refine Ret_dec (fun h => absurd h (by omega)) fun _ => Ret_dec (fun h => absurd h (by omega)) fun _ => Ret_chk (i64b_t (by omega) (by omega)) (ih _ ⟨by omega, by omega⟩ (by omega))
  · refine Ret_loop (Inv := fun x : Int => 0 ≤ x ∧ x ≤ a.2.length) (m := fun x : Int => ((a.2.length : Int) - x).toNat) ?_ _ _ ⟨by omega, by omega⟩ (by unfold fuel; omega)
    intro x rec ⟨i1, i2⟩ ih
    refine Ret_dec (fun hlt => ?_) fun hge => Ret_some rfl
    have := h4 _ (getD_mem (i := x.toNat) (by omega))
    refine Ret_chk (inb_t i1 hlt) ?_
    exact Ret_dec (fun h => absurd h (by omega)) fun _ => Ret_dec (fun h => absurd h (by omega)) fun _ => Ret_chk (i64b_t (by omega) (by omega)) (ih _ ⟨by omega, by omega⟩ (by omega))
end X
end Go.Vm
namespace Go.Vm
namespace X
open W Go.Proofs.St
theorem getD_cast {L : List Int} {i : Nat} : L.getD (((i : Nat) : Int)).toNat 0 = L.getD i 0 := by rw [Int.toNat_natCast]
theorem cmp_loop {β : Type} {L M : List Int} (hl : L.length = M.length) (h : L.length ≤ 10000) {r : β} {K : Option β} :
    loopF (fun (rec : Int → Option β) (x : Int) => bif (decide (x < ((L.length : Nat) : Int))) then (chk (inb x L.length) (chk (inb x M.length) (bif (decide ((L.getD x.toNat 0) ≠ (M.getD x.toNat 0))) then (some r) else (chk (i64b (x + 1)) (rec (x + 1)))))) else K) fuel 0 = if L = M then K else some r := by
  refine loopF_eq (fun x : Int => 0 ≤ x ∧ x ≤ L.length ∧ ∀ i : Nat, (i : Int) < x → L.getD i 0 = M.getD i 0) (fun x => ((L.length : Int) - x).toNat) (fun _ => if L = M then K else some r) ?_ _ _ ⟨by omega, by omega, fun i hi => by omega⟩ (by unfold fuel; omega)
  intro x rec ⟨i1, i2, i3⟩ ih
  by_cases hx : x < (L.length : Int)
  · rw [decide_eq_true hx, cond_true, show inb x L.length = true from inb_t i1 hx, show inb x M.length = true from inb_t i1 (by omega)]
    simp only [chk, cond_true]
    by_cases he : L.getD x.toNat 0 = M.getD x.toNat 0
    · rw [decide_eq_false (by simpa using he), cond_false, i64b_t (by omega) (by omega), cond_true]
      refine ih _ ⟨by omega, by omega, fun i hi => ?_⟩ (by omega)
      by_cases hix : (i : Int) = x
      · rw [← hix, Int.toNat_natCast] at he; exact he
      · exact i3 i (by omega)
    · rw [decide_eq_true (by simpa using he), cond_true, if_neg]
      rintro rfl; exact he rfl
  · rw [decide_eq_false hx, cond_false, if_pos]
    apply List.ext_getElem hl
    intro i h1 h2
    have := i3 i (by omega)
    simpa [List.getD, List.getElem?_eq_getElem h1, List.getElem?_eq_getElem h2] using this
def okI (L : List Int) : Prop := ∀ x ∈ L, 1 ≤ x ∧ x ≤ 64
def okK (L : List Int) : Prop := ∀ x ∈ L, 1 ≤ x ∧ x ≤ 3
instance {L : List Int} : Decidable (okI L) := inferInstanceAs (Decidable (∀ x ∈ L, 1 ≤ x ∧ x ≤ 64))
instance {L : List Int} : Decidable (okK L) := inferInstanceAs (Decidable (∀ x ∈ L, 1 ≤ x ∧ x ≤ 3))
theorem all_of_getD {L : List Int} {P : Int → Prop} (h : ∀ i : Nat, i < L.length → P (L.getD i 0)) : ∀ x ∈ L, P x := fun x hx => by
  obtain ⟨i, hi, rfl⟩ := List.mem_iff_getElem.1 hx
  have := h i hi
  simpa [List.getD, List.getElem?_eq_getElem hi] using this
def ckS (a : List Int × List Int) : Int := if 32 < a.1.length then 3 else if a.1.length ≠ a.2.length + 1 then 5 else if okI a.1 ∧ okK a.2 then 0 else 1
theorem check_spec {a : List Int × List Int} (h : a.2.length ≤ 1000) : strips_Check fuel a = some (ckS a) := by
  apply Ret.eq
  unfold strips_Check ckS
  refine Ret_dec (fun h => ?_) fun h1 => ?_
  · rw [if_pos (by omega)]; exact Ret_some rfl
  rw [if_neg (by omega)]
  refine Ret_chk (i64b_t (by omega) (by omega)) ?_
  refine Ret_dec (fun h => ?_) fun h2 => ?_
  · rw [if_pos (by omega)]; exact Ret_some rfl
  rw [if_neg (by omega)]
  refine Ret_loop (Inv := fun x : Int => 0 ≤ x ∧ x ≤ a.1.length ∧ ∀ i : Nat, (i : Int) < x → 1 ≤ a.1.getD i 0 ∧ a.1.getD i 0 ≤ 64) (m := fun x : Int => ((a.1.length : Int) - x).toNat) ?_ _ _ ⟨by omega, by omega, fun i hi => by omega⟩ (by unfold fuel; omega)
  intro x rec ⟨i1, i2, i3⟩ ih
  refine Ret_dec (fun hlt => ?_) fun hge => ?_
  · have hm := getD_mem (L := a.1) (i := x.toNat) (by omega)
    refine Ret_chk (inb_t i1 hlt) ?_
    refine Ret_dec (fun h => Ret_some ?_) fun ha => Ret_dec (fun h => Ret_some ?_) fun hb => Ret_chk (i64b_t (by omega) (by omega)) (ih _ ⟨by omega, by omega, fun i hi => ?_⟩ (by omega))
    · rw [if_neg]; rintro ⟨k1, _⟩; have := (k1 _ hm).1; omega
    · rw [if_neg]; rintro ⟨k1, _⟩; have := (k1 _ hm).2; omega
    · by_cases hix : (i : Int) = x
      · rw [← hix, Int.toNat_natCast] at ha hb; omega
      · exact i3 i (by omega)
  · have hI : okI a.1 := all_of_getD fun i hi => i3 i (by omega)
    refine Ret_loop (Inv := fun x : Int => 0 ≤ x ∧ x ≤ a.2.length ∧ ∀ i : Nat, (i : Int) < x → 1 ≤ a.2.getD i 0 ∧ a.2.getD i 0 ≤ 3) (m := fun x : Int => ((a.2.length : Int) - x).toNat) ?_ _ _ ⟨by omega, by omega, fun i hi => by omega⟩ (by unfold fuel; omega)
    intro x rec ⟨i1, i2, i3⟩ ih
    refine Ret_dec (fun hlt => ?_) fun hge => ?_
    · have hm := getD_mem (L := a.2) (i := x.toNat) (by omega)
      refine Ret_chk (inb_t i1 hlt) ?_
      refine Ret_dec (fun h => Ret_some ?_) fun ha => Ret_dec (fun h => Ret_some ?_) fun hb => Ret_chk (i64b_t (by omega) (by omega)) (ih _ ⟨by omega, by omega, fun i hi => ?_⟩ (by omega))
      · rw [if_neg]; rintro ⟨_, k1⟩; have := (k1 _ hm).1; omega
      · rw [if_neg]; rintro ⟨_, k1⟩; have := (k1 _ hm).2; omega
      · by_cases hix : (i : Int) = x
        · rw [← hix, Int.toNat_natCast] at ha hb; omega
        · exact i3 i (by omega)
    · rw [if_pos ⟨hI, all_of_getD fun i hi => i3 i (by omega)⟩]; exact Ret_some rfl
theorem ckS_valid {a : List Int × List Int} : ckS a = 0 ↔ Valid a := by
  unfold ckS Valid
  by_cases h1 : 32 < a.1.length
  · rw [if_pos h1]; constructor
    · intro h; cases h
    · intro h; omega
  rw [if_neg h1]
  by_cases h2 : a.1.length ≠ a.2.length + 1
  · rw [if_pos h2]; constructor
    · intro h; cases h
    · intro h; omega
  rw [if_neg h2]
  by_cases h3 : okI a.1 ∧ okK a.2
  · rw [if_pos h3]; exact ⟨fun _ => ⟨by omega, by omega, h3.1, h3.2⟩, fun _ => rfl⟩
  · rw [if_neg h3]; constructor
    · intro h; cases h
    · intro h; exact absurd ⟨h.2.2.1, h.2.2.2⟩ h3
theorem lens_le {n : Nat} : ∀ {l : List (List UInt8)}, (∀ s ∈ l, s.length ≤ n) → Lib.lens l ≤ l.length * n
  | [], _ => by simp [Lib.lens]
  | s :: l, h => by
    have h1 := h s (List.mem_cons_self ..)
    have h2 := lens_le (l := l) fun x hx => h x (List.mem_cons_of_mem _ hx)
    have h3 : Lib.lens (s :: l) = s.length + Lib.lens l := by simp [Lib.lens]
    rw [h3, List.length_cons, Nat.add_mul]; omega
theorem joinS_len {t : List Nat} {l : List (List Nat)} (h : ∀ s ∈ l, s.length ≤ 2) : (joinS l t).length ≤ l.length * (2 + t.length) := by
  match l, h with
  | [], _ => simp [joinS, Lib.join_nil]
  | s :: l, h =>
    have h2 := lens_le (n := 2) (l := (s :: l).map u8) fun x hx => by
      obtain ⟨y, hy, rfl⟩ := List.mem_map.1 hx
      simpa [u8] using h y hy
    simp only [joinS, List.map_cons, List.length_map] at h2 ⊢
    rw [Lib.join_length]
    simp only [List.length_cons, List.length_map, u8] at h2 ⊢
    rw [Nat.mul_add, Nat.mul_comm (l.length + 1) t.length, Nat.mul_add]
    omega
theorem joinS_cons {t : List Nat} {c : Nat} {s : List Nat} {l : List (List Nat)} : joinS ((c :: s) :: l) t ≠ [] := by
  simp only [joinS, List.map_cons, Lib.join_cons, u8]
  simp
end X
end Go.Vm
namespace Go.Vm
namespace X
open W Go.Proofs.St
theorem capIs_self {n : Nat} : capIs (some n) n = true := by simp [capIs, beq_dec]
def sumN (L : List Int) : Nat → Int
  | 0 => 0
  | i + 1 => sumN L i + L.getD i 0
theorem sumN_bd {L : List Int} (hL : okI L) : ∀ i, i ≤ L.length → 0 ≤ sumN L i ∧ sumN L i ≤ 64 * i
  | 0, _ => by simp [sumN]
  | i + 1, h => by
    have ih := sumN_bd hL i (by omega)
    have hx := hL _ (getD_mem (L := L) (i := i) (by omega))
    unfold sumN
    omega
def crease (a : List Int × List Int) (i : Nat) : Int × (Int × Int) := (4 * sumN a.1 (i + 1) - 3, (0, a.2.getD i 0))
def creases (a : List Int × List Int) (n : Nat) : List (Int × (Int × Int)) := (List.range n).map (crease a)
theorem pattern_valid {a : List Int × List Int} (h : Valid a) : strips_Pattern fuel a = some (if 256 < sumN a.1 a.1.length then ((0, (0, [])), 3) else ((sumN a.1 a.1.length, (1, creases a a.2.length)), 0)) := by
  obtain ⟨h1, h2, h3, h4⟩ := h
  have hI : okI a.1 := h3
  apply Ret.eq
  unfold strips_Pattern
  refine Ret_bind (Ret.of (strips_Check_valid ⟨h1, h2, h3, h4⟩)) fun r e => ?_
  subst e
  refine Ret_dec (fun h => absurd rfl h) fun _ => ?_
  refine Ret_chk (by simp; omega) ?_
  refine Ret_loop (Inv := fun x : (Int × (Int × (Int × ((List (Int × (Int × Int))) × Nat)))) => 0 ≤ x.1 ∧ x.1 ≤ a.1.length ∧ x.2.1 = sumN a.1 x.1.toNat ∧ x.2.2.1 = 1 ∧ x.2.2.2.1 = creases a (x.1.toNat - 1) ∧ x.2.2.2.2 = a.2.length) (m := fun x => ((a.1.length : Int) - x.1).toNat) ?_ _ _ ⟨by simp, by simp, rfl, rfl, rfl, rfl⟩ (by simp only [fuel]; omega)
  rintro ⟨i, w, o, l, c⟩ rec ⟨i1, i2, i3, i4, i5, i6⟩ ih
  simp only at i1 i2 i3 i4 i5 i6 ⊢
  subst i4; subst i6
  have bd := sumN_bd hI i.toNat (by omega)
  refine Ret_dec (fun hlt => ?_) fun hge => ?_
  · have hx := hI _ (getD_mem (L := a.1) (i := i.toNat) (by omega))
    have st : sumN a.1 (i + 1).toNat = sumN a.1 i.toNat + a.1.getD i.toNat 0 := by rw [show (i + 1).toNat = i.toNat + 1 by omega]; rfl
    have hll : l.length = i.toNat - 1 := by rw [i5]; simp [creases]
    refine Ret_chk (inb_t i1 hlt) ?_
    refine Ret_dec (fun hpos => ?_) fun hz => ?_
    · have hcap : appCap (some a.2.length) (l.length + 1) = some a.2.length := by
        unfold appCap
        simp only [ble_dec]
        rw [decide_eq_true (by omega)]; rfl
      refine Ret_chk (i64b_t (by omega) (by omega)) (Ret_chk (i64b_t (by omega) (by omega)) (Ret_chk (i64b_t (by omega) (by omega)) (Ret_chk (inb_t (by omega) (by omega)) (Ret_chk (lenOk_t (by omega)) (Ret_chk (i64b_t (by omega) (by omega)) (Ret_chk (i64b_t (by omega) (by omega)) (Ret_chk (by rw [hcap]; rfl) (ih _ ⟨by simp only; omega, by simp only; omega, by simp only [st, i3], rfl, ?_, by simp only [hcap]; rfl⟩ (by simp only; omega)))))))))
      simp only
      rw [i5, show (i + 1).toNat - 1 = (i.toNat - 1) + 1 by omega]
      unfold creases
      rw [List.range_succ, List.map_append]
      congr 1
      simp only [List.map_cons, List.map_nil, crease]
      rw [show i.toNat - 1 + 1 = i.toNat by omega, show (i - 1).toNat = i.toNat - 1 by omega, i3]
    · refine Ret_chk (i64b_t (by omega) (by omega)) (Ret_chk (i64b_t (by omega) (by omega)) (ih _ ⟨by simp only; omega, by simp only; omega, by simp only [st, i3], rfl, ?_, rfl⟩ (by simp only; omega)))
      simp only
      rw [i5, show (i + 1).toNat - 1 = i.toNat - 1 by omega]
  · have ei : i.toNat = a.1.length := by omega
    rw [ei] at i3 i5
    rw [← i3]
    refine Ret_dec (fun h => Ret_some ?_) fun h => ?_
    · rw [if_pos h]
    · rw [if_neg h]
      have hll : l.length = a.2.length := by rw [i5]; simp [creases]; omega
      refine Ret_chk (by rw [hll]; exact capIs_self) (Ret_some ?_)
      rw [i5, show a.1.length - 1 = a.2.length by omega]
end X
end Go.Vm
namespace Go.Vm
namespace X
open W Go.Proofs.St
theorem wrap_u8 {n : Int} (h1 : 0 ≤ n) (h2 : n ≤ 255) : IntKind.u8.wrap n = n := by
  simp [IntKind.wrap, IntKind.bits, IntKind.signed]; omega
def OfQ (s : List Int × List Int) : Prop := 1 ≤ s.1.length ∧ s.1.length ≤ 12 ∧ s.1.length = s.2.length + 1 ∧ (∀ x ∈ s.1, 1 ≤ x ∧ x ≤ 8) ∧ ∀ x ∈ s.2, 1 ≤ x ∧ x ≤ 3
theorem OfQ.valid {s : List Int × List Int} (h : OfQ s) : Valid s := ⟨by have := h.2.1; omega, h.2.2.1, fun x hx => by have := h.2.2.2.1 x hx; omega, h.2.2.2.2⟩
theorem mem_snoc {L : List Int} {a : Int} {P : Int → Prop} (h : ∀ x ∈ L, P x) (ha : P a) : ∀ x ∈ L ++ [a], P x := fun x hx => by
  rcases List.mem_append.1 hx with h1 | h1
  · exact h x h1
  · rw [List.mem_singleton.1 h1]; exact ha
theorem law16_T_Of_ok {a : List Int × List Int} (h1 : bytes a.1) (h2 : bytes a.2) : Ret (law16_T_Of fuel a) OfQ := by
  unfold law16_T_Of
  have fin : ∀ x : Int × (List Int × List Int), (0 ≤ x.1 ∧ x.1 ≤ 12 ∧ x.2.1.length = x.1.toNat ∧ x.2.2.length = x.1.toNat - 1 ∧ (∀ y ∈ x.2.1, 1 ≤ y ∧ y ≤ 8) ∧ ∀ y ∈ x.2.2, 1 ≤ y ∧ y ≤ 3) →
      Ret (bif (decide (((x.2.1.length : Nat) : Int) = 0)) then (some ([1], x.2.2)) else (some (x.2.1, x.2.2))) OfQ := by
    intro x ⟨i1, i2, i3, i4, i5, i6⟩
    refine Ret_dec (fun h => Ret_some ⟨by simp, by simp, ?_, by simp, i6⟩) fun h => Ret_some ⟨?_, ?_, ?_, i5, i6⟩
    · simp only [List.length_singleton]; omega
    all_goals (simp only; omega)
  refine Ret_loop (Inv := fun x => 0 ≤ x.1 ∧ x.1 ≤ 12 ∧ x.2.1.length = x.1.toNat ∧ x.2.2.length = x.1.toNat - 1 ∧ (∀ y ∈ x.2.1, 1 ≤ y ∧ y ≤ 8) ∧ ∀ y ∈ x.2.2, 1 ≤ y ∧ y ≤ 3) (m := fun x => (12 - x.1).toNat) ?_ _ _ ⟨by simp, by simp, by simp, by simp, by simp, by simp⟩ (by simp [fuel])
  intro x rec hi ih
  have hI := hi
  obtain ⟨i1, i2, i3, i4, i5, i6⟩ := hi
  refine Ret_dec (fun hlt => ?_) fun _ => fin x hI
  refine Ret_dec (fun h12 => ?_) fun _ => fin x hI
  have hb := h1 _ (getD_mem (i := x.1.toNat) (by omega))
  refine Ret_chk (inb_t i1 hlt) ?_
  refine Ret_chk (by rw [Bool.and_eq_true]; exact ⟨decide_eq_true (by omega), rfl⟩) ?_
  refine Ret_chk (i64b_t (by omega) (by omega)) ?_
  refine Ret_chk (i64b_t (by omega) (by omega)) ?_
  refine Ret_chk (lenOk_t (by omega)) ?_
  have e5 := mem_snoc i5 (a := 1 + (a.1.getD x.1.toNat 0) % 8) (P := fun y => 1 ≤ y ∧ y ≤ 8) (by omega)
  refine Ret_dec (fun hpos => ?_) fun hz => ?_
  · refine Ret_dec (fun hk => ?_) fun hk => ?_
    · refine Ret_chk (i64b_t (by omega) (by omega)) ?_
      refine Ret_chk (inb_t (by omega) (by omega)) ?_
      have hb2 := h2 _ (getD_mem (L := a.2) (i := (x.1 - 1).toNat) (by omega))
      refine Ret_chk (by rw [Bool.and_eq_true]; exact ⟨decide_eq_true (by omega), rfl⟩) ?_
      refine Ret_chk (lenOk_t (by omega)) ?_
      refine Ret_chk (i64b_t (by omega) (by omega)) ?_
      refine ih _ ⟨by simp only; omega, by simp only; omega, by simp only [List.length_append, List.length_singleton]; omega, by simp only [List.length_append, List.length_singleton]; omega, e5, mem_snoc i6 ?_⟩ (by simp only; omega)
      rw [wrap_u8 (by omega) (by omega)]; omega
    · refine Ret_chk (lenOk_t (by omega)) ?_
      refine Ret_chk (i64b_t (by omega) (by omega)) ?_
      exact ih _ ⟨by simp only; omega, by simp only; omega, by simp only [List.length_append, List.length_singleton]; omega, by simp only [List.length_append, List.length_singleton]; omega, e5, mem_snoc i6 (by omega)⟩ (by simp only; omega)
  · refine Ret_chk (i64b_t (by omega) (by omega)) ?_
    exact ih _ ⟨by simp only; omega, by simp only; omega, by simp only [List.length_append, List.length_singleton]; omega, by simp only; omega, e5, i6⟩ (by simp only; omega)
end X
end Go.Vm
namespace Go.Vm
namespace X
open W Go.Proofs.St
theorem sheet_ok {W H : Int} (h1 : 1 ≤ W) (h2 : W ≤ 256) (h3 : 1 ≤ H) (h4 : W * H ≤ 256) (h5 : H ≤ 256) : sheets_Check fuel (W, H) = some 0 := by
  apply Ret.eq
  unfold sheets_Check
  have hn : 0 ≤ W * H := Int.mul_nonneg (by omega) (by omega)
  refine Ret_dec (fun h => absurd h (by simp only; omega)) fun _ => Ret_dec (fun h => absurd h (by simp only; omega)) fun _ => Ret_dec (fun h => absurd h (by simp only; omega)) fun _ => Ret_dec (fun h => absurd h (by simp only; omega)) fun _ => ?_
  exact Ret_chk (i64b_t (by simp only; omega) (by simp only; omega)) (Ret_dec (fun h => absurd h (by simp only; omega)) fun _ => Ret_some rfl)
theorem wrap64 {n : Int} (h1 : -9223372036854775808 ≤ n) (h2 : n ≤ 9223372036854775807) : IntKind.i64.wrap n = n := i64b_ok (i64b_t h1 h2)
theorem sheet1 {W : Int} (h1 : 1 ≤ W) (h2 : W ≤ 256) : sheets_Check fuel (W, 1) = some 0 := sheet_ok h1 h2 (by decide) (by rw [Int.mul_one]; exact h2) (by decide)
theorem cell_good {W j : Int} (h1 : 1 ≤ W) (h2 : W ≤ 256) (hj : 0 ≤ j) (hjW : j < W) : sheets_Cell fuel ((W, 1), 4 * j + 1) = some ((j, (0, 1)), 0) := by
  apply Ret.eq
  have e1 : (4 * j + 1) / 4 = j := by omega
  have e2 : (4 * j + 1) % 4 = 1 := by omega
  have e3 : j % W = j := Int.emod_eq_of_lt hj hjW
  have e4 : j / W = 0 := Int.ediv_eq_zero_of_lt hj hjW
  unfold sheets_Cell
  refine Ret_bind (Ret.of (sheet1 h1 h2)) fun r e => ?_
  subst e
  refine Ret_dec (fun h => absurd rfl h) fun _ => ?_
  simp only [Int.mul_one, e1, e2, e3, e4, wrap_u8 (n := 1) (by decide) (by decide), wrap64 (n := j) (by omega) (by omega), wrap64 (n := 0) (by decide) (by decide)]
  refine Ret_dec (fun _ => ?_) fun h => absurd (show (0 : Int) ≤ 4 * j + 1 by omega) h
  refine Ret_chk (i64b_t (by omega) (by omega)) (Ret_chk (i64b_t (by omega) (by omega)) ?_)
  rw [decide_eq_true (show 4 * j + 1 < 4 * W by omega)]
  simp only [Bool.not_true, cond_false]
  exact Ret_chk (by simp; omega) (Ret_chk (by simp; omega) (Ret_chk (by simp; omega) (Ret_chk (by simp; omega) (Ret_chk (by simp; omega) (Ret_some rfl)))))
theorem neigh_good {j : Int} (hj : 0 ≤ j) (hj2 : j ≤ 256) : cells_Neighbour fuel ((j, (0, 1)), 0) = some ((1 + j, (0, 3)), 0) := by
  apply Ret.eq
  have q : (quarters.getD (1 : Int).toNat ((0, 0), (0, (0, ((List.replicate 3 (0, (0, 0))), ((0, 0), (0, 0))))))).2.2.2.1.getD (0 : Int).toNat (0, (0, 0)) = (1, (0, 3)) := rfl
  unfold cells_Neighbour
  simp only [q]
  iterate 6 (refine Ret_dec (fun h => absurd h (by omega)) fun _ => ?_)
  refine Ret_chk (by decide) (Ret_chk (by decide) (Ret_chk (i64b_t (by omega) (by omega)) (Ret_chk (i64b_t (by omega) (by omega)) ?_)))
  iterate 5 (refine Ret_dec (fun h => absurd h (by omega)) fun _ => ?_)
  exact Ret_some rfl
theorem id_good {W j : Int} (h1 : 1 ≤ W) (h2 : W ≤ 256) (hj : 0 ≤ j) (hjW : j < W) : sheets_Id fuel ((W, 1), (j, (0, 3))) = some (4 * j + 3, 0) := by
  apply Ret.eq
  unfold sheets_Id
  refine Ret_bind (Ret.of (sheet1 h1 h2)) fun r e => ?_
  subst e
  refine Ret_dec (fun h => absurd rfl h) fun _ => ?_
  simp only [Int.zero_mul, Int.zero_add]
  iterate 9 (refine Ret_dec (fun h => absurd h (by omega)) fun _ => ?_)
  exact Ret_chk (i64b_t (by omega) (by omega)) (Ret_chk (i64b_t (by omega) (by omega)) (Ret_chk (i64b_t (by omega) (by omega)) (Ret_chk (i64b_t (by omega) (by omega)) (Ret_chk (i64b_t (by omega) (by omega)) (Ret_some rfl)))))
theorem name_good {W j : Int} (h1 : 1 ≤ W) (h2 : W ≤ 256) (hj : 0 ≤ j) (hjW : j + 1 < W) : sheets_Name fuel ((W, 1), (4 * j + 1, 0)) = some ((4 * j + 1, 0), 0) := by
  have e : sheets_Neighbour fuel ((W, 1), (4 * j + 1, 0)) = some (4 * (1 + j) + 3, 0) := by
    apply Ret.eq
    unfold sheets_Neighbour
    dsimp only
    refine Ret_bind (Ret.of (cell_good h1 h2 hj (by omega))) fun r e => ?_
    subst e
    refine Ret_dec (fun h => absurd rfl h) fun _ => ?_
    refine Ret_bind (Ret.of (neigh_good hj (show j ≤ 256 by omega))) fun r e => ?_
    subst e
    refine Ret_dec (fun h => absurd rfl h) fun _ => ?_
    refine Ret_bind (Ret.of (id_good h1 h2 (j := 1 + j) (by omega) (by omega))) fun r e => ?_
    subst e
    exact Ret_some rfl
  apply Ret.eq
  unfold sheets_Name
  refine Ret_bind (Ret.of e) fun r e => ?_
  subst e
  refine Ret_dec (fun h => absurd rfl h) fun _ => Ret_some ?_
  simp only
  rw [Int.min_eq_left (by omega)]
abbrev Cr := Int × (Int × Int)
def Across (W : Int) (l : List Cr) (k : Nat → Int) : Prop := (∀ i : Nat, i < l.length → (l.getD i (0, (0, 0))).1 = 4 * k i - 3 ∧ (l.getD i (0, (0, 0))).2.1 = 0 ∧ 1 ≤ (l.getD i (0, (0, 0))).2.2 ∧ (l.getD i (0, (0, 0))).2.2 ≤ 3 ∧ 1 ≤ k i ∧ k i < W) ∧ ∀ i : Nat, i + 1 < l.length → k i < k (i + 1)
theorem contains_good {l : List Cr} (hl : l.length ≤ 1000) (h : ∀ i : Nat, i < l.length → 1 ≤ (l.getD i (0, (0, 0))).2.2 ∧ (l.getD i (0, (0, 0))).2.2 ≤ 3) : slices_ContainsFunc_patterns_Crease fuel (l, ()) = some false := by
  have e : slices_IndexFunc_patterns_Crease fuel (l, ()) = some (-1) := by
    apply Ret.eq
    unfold slices_IndexFunc_patterns_Crease
    dsimp only
    refine Ret_loop (Inv := fun x : Int => 0 ≤ x ∧ x ≤ l.length) (m := fun x : Int => ((l.length : Int) - x).toNat) ?_ _ _ ⟨by omega, by omega⟩ (by unfold fuel; omega)
    intro x rec ⟨i1, i2⟩ ih
    refine Ret_dec (fun hlt => ?_) fun _ => Ret_some rfl
    have := h x.toNat (by omega)
    refine Ret_chk (inb_t i1 hlt) (Ret_dec (fun _ => ?_) fun hn => absurd this.1 hn)
    rw [decide_eq_true this.2]
    simp only [Bool.not_true, cond_false]
    exact Ret_chk (i64b_t (by omega) (by omega)) (ih _ ⟨by omega, by omega⟩ (by omega))
  unfold slices_ContainsFunc_patterns_Crease
  rw [e]; rfl
theorem order_lt {a c : Int} {e1 e2 : Int} (h : a < c) (h1 : -1000000 ≤ a) (h2 : c ≤ 1000000) : Ret (patterns_order fuel ((a, e1), (c, e2))) fun r => r < 0 := by
  unfold patterns_order
  dsimp only
  refine Ret_dec (fun _ => ?_) fun hn => absurd (show a ≠ c by omega) hn
  exact Ret_chk (i64b_t (by omega) (by omega)) (Ret_some (by omega))
theorem check_across {W : Int} {l : List Cr} {k : Nat → Int} (h1 : 1 ≤ W) (h2 : W ≤ 256) (hl : l.length ≤ 1000) (h : Across W l k) : patterns_Check fuel (W, (1, l)) = some 0 := by
  obtain ⟨g1, g2⟩ := h
  apply Ret.eq
  unfold patterns_Check
  dsimp only
  refine Ret_bind (Ret.of (sheet1 h1 h2)) fun r e => ?_
  subst e
  refine Ret_dec (fun h => absurd rfl h) fun _ => ?_
  refine Ret_bind (Ret.of (contains_good hl fun i hi => ⟨(g1 i hi).2.2.1, (g1 i hi).2.2.2.1⟩)) fun r e => ?_
  subst e
  refine Ret_bif (fun h => by cases h) fun _ => ?_
  refine Ret_loop (Inv := fun x : Int => 0 ≤ x ∧ x ≤ l.length) (m := fun x : Int => ((l.length : Int) - x).toNat) ?_ _ _ ⟨by omega, by omega⟩ (by unfold fuel; omega)
  intro x rec ⟨i1, i2⟩ ih
  refine Ret_dec (fun hlt => ?_) fun hge => ?_
  · have hx := g1 x.toNat (by omega)
    have hn : sheets_Name fuel ((W, 1), ((l.getD x.toNat (0, (0, 0))).1, (l.getD x.toNat (0, (0, 0))).2.1)) = some (((l.getD x.toNat (0, (0, 0))).1, 0), 0) := by
      rw [hx.1, hx.2.1, show 4 * k x.toNat - 3 = 4 * (k x.toNat - 1) + 1 by omega]
      exact name_good h1 h2 (by omega) (by omega)
    refine Ret_chk (inb_t i1 hlt) (Ret_bind (Ret.of hn) fun r e => ?_)
    subst e
    refine Ret_dec (fun h => absurd rfl h) fun _ => ?_
    rw [show ((!(decide (((l.getD x.toNat (0, (0, 0))).1) = (l.getD x.toNat (0, (0, 0))).1) && decide ((0 : Int) = (l.getD x.toNat (0, (0, 0))).2.1))) = false) by rw [decide_eq_true rfl, decide_eq_true hx.2.1.symm]; rfl]
    simp only [cond_false]
    exact Ret_chk (i64b_t (by omega) (by omega)) (ih _ ⟨by omega, by omega⟩ (by omega))
  · refine Ret_loop (Inv := fun x : Int => 1 ≤ x ∧ (x ≤ l.length ∨ x = 1)) (m := fun x : Int => ((l.length : Int) - x).toNat) ?_ _ _ ⟨by omega, .inr rfl⟩ (by unfold fuel; omega)
    intro x rec ⟨i1, i2⟩ ih
    refine Ret_dec (fun hlt => ?_) fun hge => Ret_some rfl
    have ha := g1 (x - 1).toNat (by omega)
    have hb := g1 x.toNat (by omega)
    have hk := g2 (x - 1).toNat (by omega)
    rw [show (x - 1).toNat + 1 = x.toNat by omega] at hk
    refine Ret_chk (i64b_t (by omega) (by omega)) (Ret_chk (inb_t (by omega) (by omega)) (Ret_chk (inb_t (by omega) (by omega)) (Ret_bind (order_lt (by rw [ha.1, hb.1]; omega) (by rw [ha.1]; omega) (by rw [hb.1]; omega)) fun r hr => ?_)))
    exact Ret_dec (fun h => absurd h (by omega)) fun _ => Ret_chk (i64b_t (by omega) (by omega)) (ih _ ⟨by omega, by omega⟩ (by omega))
theorem creases_len {s : List Int × List Int} {n : Nat} : (creases s n).length = n := by simp [creases]
theorem creases_get {s : List Int × List Int} {n i : Nat} (h : i < n) : (creases s n).getD i (0, (0, 0)) = crease s i := by
  unfold creases
  rw [List.getD, List.getElem?_map, List.getElem?_range h]; rfl
theorem sumN_lt {L : List Int} (hL : okI L) : ∀ j i, i < j → j ≤ L.length → sumN L i < sumN L j
  | 0, i, h, _ => absurd h (Nat.not_lt_zero _)
  | j + 1, i, h, hj => by
    have hx := (hL _ (getD_mem (L := L) (i := j) (by omega))).1
    have e : sumN L (j + 1) = sumN L j + L.getD j 0 := rfl
    by_cases hij : i = j
    · subst hij; omega
    · have := sumN_lt hL j i (by omega) (by omega)
      omega
theorem across_strip {s : List Int × List Int} (h : Valid s) : Across (sumN s.1 s.1.length) (creases s s.2.length) (fun i => sumN s.1 (i + 1)) := by
  obtain ⟨h1, h2, h3, h4⟩ := h
  have hI : okI s.1 := h3
  refine ⟨fun i hi => ?_, fun i hi => ?_⟩
  · rw [creases_len] at hi
    rw [creases_get hi]
    have hk := h4 _ (getD_mem (L := s.2) (i := i) hi)
    have a := sumN_lt hI (i + 1) 0 (by omega) (by omega)
    have b := sumN_lt hI s.1.length (i + 1) (by omega) (Nat.le_refl _)
    have a' : (0 : Int) < sumN s.1 (i + 1) := a
    exact ⟨rfl, rfl, hk.1, hk.2, show (1 : Int) ≤ sumN s.1 (i + 1) by omega, b⟩
  · rw [creases_len] at hi
    exact sumN_lt hI (i + 1 + 1) (i + 1) (by omega) (by omega)
theorem take_snoc' {L : List Int} {k : Nat} (h : k < L.length) : L.take k ++ [L.getD k 0] = L.take (k + 1) := by
  rw [List.take_add_one, List.getD, List.getElem?_eq_getElem h]; rfl
theorem of_strip {s : List Int × List Int} (h : Valid s) (hs : 1 ≤ s.1.length) (hW : sumN s.1 s.1.length ≤ 256) : strips_Of fuel (sumN s.1 s.1.length, (1, creases s s.2.length)) = some (s, 0) := by
  have hV := h
  obtain ⟨h1, h2, h3, h4⟩ := h
  have hI : okI s.1 := h3
  have hpos := sumN_lt hI s.1.length 0 (by omega) (Nat.le_refl _)
  have hp0 : sumN s.1 0 = 0 := rfl
  rw [hp0] at hpos
  apply Ret.eq
  unfold strips_Of
  dsimp only
  refine Ret_bind (Ret.of (check_across (by omega) hW (by rw [creases_len]; omega) (across_strip hV))) fun r e => ?_
  subst e
  refine Ret_dec (fun h => absurd rfl h) fun _ => Ret_dec (fun h => absurd rfl h) fun _ => ?_
  refine Ret_loop (Inv := fun x : (Int × (Int × ((Unit × Unit) × ((List Int) × (List Int))))) => 0 ≤ x.2.1 ∧ x.2.1 ≤ s.2.length ∧ x.1 = sumN s.1 x.2.1.toNat ∧ x.2.2.2.1 = s.1.take x.2.1.toNat ∧ x.2.2.2.2 = s.2.take x.2.1.toNat) (m := fun x => ((s.2.length : Int) - x.2.1).toNat) ?_ _ _ ⟨by simp, by simp, rfl, rfl, rfl⟩ (by simp only [fuel]; omega)
  rintro ⟨last, i, _, ls, ks⟩ rec ⟨i1, i2, i3, i4, i5⟩ ih
  dsimp only at i1 i2 i3 i4 i5 ⊢
  subst i4; subst i5
  simp only [creases_len]
  refine Ret_dec (fun hlt => ?_) fun hge => ?_
  · rw [creases_get (by omega)]
    simp only [crease]
    have b1 := sumN_bd hI (i.toNat + 1) (by omega)
    have b0 := sumN_bd hI i.toNat (by omega)
    have hk := h3 _ (getD_mem (L := s.1) (i := i.toNat) (by omega))
    have e1 : sumN s.1 (i.toNat + 1) = sumN s.1 i.toNat + s.1.getD i.toNat 0 := rfl
    have e2 : (4 * sumN s.1 (i.toNat + 1) - 3 + 3) / 4 = sumN s.1 (i.toNat + 1) := by omega
    have e3 : (4 * sumN s.1 (i.toNat + 1) - 3) % 4 = 1 := by omega
    have e4 : 1 ≤ sumN s.1 (i.toNat + 1) := by omega
    simp only [e2, e3]
    refine Ret_chk (inb_t i1 hlt) (Ret_chk (by rw [Bool.and_eq_true]; exact ⟨decide_eq_true (by omega), rfl⟩) ?_)
    refine Ret_dec (fun h => absurd rfl h) fun _ => Ret_dec (fun h => absurd rfl h) fun _ => ?_
    refine Ret_chk (i64b_t (by omega) (by omega)) (Ret_chk (by rw [wrap64 (by omega) (by omega), Bool.and_eq_true, Bool.and_eq_true]; exact ⟨⟨decide_eq_true (by omega), decide_eq_true (by omega)⟩, decide_eq_true rfl⟩) (Ret_chk (i64b_t (by omega) (by omega)) (Ret_chk (lenOk_t (by simp only [List.length_take]; omega)) (Ret_chk (lenOk_t (by simp only [List.length_take]; omega)) (Ret_chk (i64b_t (by omega) (by omega)) (ih _ ⟨by dsimp only; omega, by dsimp only; omega, ?_, ?_, ?_⟩ (by dsimp only; omega)))))))
    · dsimp only; rw [show (i + 1).toNat = i.toNat + 1 by omega]
    · dsimp only
      rw [show (i + 1).toNat = i.toNat + 1 by omega, show sumN s.1 (i.toNat + 1) - last = s.1.getD i.toNat 0 by rw [i3]; omega]
      exact take_snoc' (by omega)
    · dsimp only
      rw [show (i + 1).toNat = i.toNat + 1 by omega]
      exact take_snoc' (by omega)
  · have ei : i.toNat = s.2.length := by omega
    have e1 : sumN s.1 s.1.length = sumN s.1 s.2.length + s.1.getD s.2.length 0 := by rw [h2]; rfl
    have e2 : s.1.take i.toNat ++ [sumN s.1 s.1.length - last] = s.1 := by
      rw [i3, ei, show sumN s.1 s.1.length - sumN s.1 s.2.length = s.1.getD s.2.length 0 by omega, take_snoc' (by omega)]
      exact List.take_of_length_le (by omega)
    have e3 : s.2.take i.toNat = s.2 := List.take_of_length_le (by omega)
    have b0 := sumN_bd hI i.toNat (by omega)
    rw [e2, e3]
    refine Ret_chk (i64b_t (by omega) (by omega)) (Ret_chk (lenOk_t (by simp only [List.length_take]; omega)) (Ret_bind (Ret.of (strips_Check_valid hV)) fun r e => ?_))
    subst e
    refine Ret_dec (fun h => absurd rfl h) fun _ => ?_
    refine Ret_chk (by simp [bnb]) (Ret_chk (by simp [bnb]) (Ret_chk (by simp [capIs, ble_dec]) (Ret_some (by simp))))
theorem law16_StripsPattern_true {a : List Int × List Int} (h1 : bytes a.1) (h2 : bytes a.2) : law16_StripsPattern fuel a = some true := by
  apply Ret.eq
  unfold law16_StripsPattern
  refine Ret_bind (law16_T_Of_ok (a := (a.1, a.2)) h1 h2) fun s hs => ?_
  have hv := hs.valid
  obtain ⟨k1, k2, k3, k4, k5⟩ := hs
  have hI : okI s.1 := hv.2.2.1
  have hb : ∀ i, i ≤ s.1.length → sumN s.1 i ≤ 8 * i := by
    intro i
    induction i with
    | zero => intro _; simp [sumN]
    | succ i ih =>
      intro hi
      have := ih (by omega)
      have hx := k4 _ (getD_mem (L := s.1) (i := i) (by omega))
      have e : sumN s.1 (i + 1) = sumN s.1 i + s.1.getD i 0 := rfl
      omega
  have hW := hb s.1.length (Nat.le_refl _)
  have hp : strips_Pattern fuel (s.1, s.2) = some ((sumN s.1 s.1.length, (1, creases s s.2.length)), 0) := by
    rw [show (s.1, s.2) = s from rfl, pattern_valid hv, if_neg (by omega)]
  refine Ret_bind (Ret.of hp) fun r2 e2 => ?_
  subst e2
  have hpos := sumN_lt hI s.1.length 0 (by omega) (Nat.le_refl _)
  have hp0 : sumN s.1 0 = 0 := rfl
  rw [hp0] at hpos
  dsimp only
  refine Ret_dec (fun h => absurd rfl h) fun _ => ?_
  refine Ret_bind (Ret.of (check_across (by omega) (by omega) (by rw [creases_len]; omega) (across_strip hv))) fun r3 e3 => ?_
  subst e3
  refine Ret_dec (fun h => absurd rfl h) fun _ => Ret_dec (fun h => absurd rfl h) fun _ => ?_
  simp only [creases_len]
  refine Ret_dec (fun h => absurd rfl h) fun _ => Ret_dec (fun h => absurd rfl h) fun _ => ?_
  refine Ret_loop (Inv := fun x : Int × Int => 0 ≤ x.2 ∧ x.2 ≤ s.2.length ∧ x.1 = sumN s.1 x.2.toNat) (m := fun x => ((s.2.length : Int) - x.2).toNat) ?_ _ _ ⟨by simp, by simp, rfl⟩ (by simp only [fuel]; omega)
  rintro ⟨at_, i⟩ rec ⟨i1, i2, i3⟩ ih
  dsimp only at i1 i2 i3 ⊢
  refine Ret_dec (fun hlt => ?_) fun hge => ?_
  · have e1 : sumN s.1 (i.toNat + 1) = sumN s.1 i.toNat + s.1.getD i.toNat 0 := rfl
    have b1 := sumN_bd hI (i.toNat + 1) (by omega)
    have b0 := sumN_bd hI i.toNat (by omega)
    rw [creases_get (by omega)]
    simp only [crease]
    rw [i3, ← e1]
    refine Ret_chk (inb_t i1 (by omega)) (Ret_chk (i64b_t (by omega) (by omega)) (Ret_chk (inb_t i1 hlt) (Ret_chk (i64b_t (by omega) (by omega)) (Ret_chk (i64b_t (by omega) (by omega)) (Ret_chk (inb_t i1 hlt) ?_)))))
    simp only [decide_true, Bool.and_self, Bool.not_true, cond_false]
    exact Ret_chk (i64b_t (by omega) (by omega)) (ih _ ⟨by dsimp only; omega, by dsimp only; omega, by dsimp only; rw [show (i + 1).toNat = i.toNat + 1 by omega]⟩ (by dsimp only; omega))
  · have ei : i.toNat = s.2.length := by omega
    have e1 : sumN s.1 s.1.length = sumN s.1 s.2.length + s.1.getD s.2.length 0 := by rw [k3]; rfl
    refine Ret_bind (Ret.of (of_strip hv k1 (by omega))) fun r5 e5 => ?_
    subst e5
    dsimp only
    have en : (((s.1.length : Nat) : Int) - 1).toNat = s.2.length := by omega
    have hx := hI _ (getD_mem (L := s.1) (i := s.2.length) (by omega))
    have b0 := sumN_bd hI s.2.length (by omega)
    rw [en, i3, ei]
    refine Ret_chk (i64b_t (by omega) (by omega)) (Ret_chk (inb_t (by omega) (by omega)) (Ret_chk (i64b_t (by omega) (by omega)) ?_))
    refine Ret_dec (fun _ => ?_) fun h => absurd e1 h
    refine Ret_dec (fun _ => ?_) fun h => absurd rfl h
    iterate 4 (refine Ret_dec (fun h => absurd rfl h) fun _ => ?_)
    rw [cmp_loop rfl (by omega), if_pos rfl, cmp_loop rfl (by omega), if_pos rfl, lives16]
    exact Ret_some rfl
end X
end Go.Vm
