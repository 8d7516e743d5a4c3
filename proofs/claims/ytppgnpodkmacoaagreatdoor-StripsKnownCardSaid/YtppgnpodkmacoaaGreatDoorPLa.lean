/-
  Strips: plain laws: Of, Check, Ends, Span; the law StripsEnds.
  Strips: plain laws of Ends and Span.
  Strips: loops over lists; Check; lengths of joined texts.
  Strips: the plain law of T.Of.
  Strips: the plain law StripsEnds.
  Strips: the plain law of Pattern.
  Strips: plain laws: Turn, Same, Pattern, Text; the law StripsErrors.
-/
import Derived.Test.YtppgnpodkmacoaaGreatDoorQ7
import Derived.Test.YtppgnpodkmacoaaGreatDoorXG7
import Derived.Test.YtppgnpodkmacoaaGreatDoorVmWS
import Derived.KernelRfl
set_option linter.unusedSimpArgs false
set_option linter.unusedVariables false

namespace Go.Vm
namespace X
open W Go.Proofs.St
theorem lives16 : law16_lives fuel () = some true := by kernel_rfl
def bytes (L : List Int) : Prop := ∀ x ∈ L, 0 ≤ x ∧ x ≤ 255
def Valid (s : List Int × List Int) : Prop := s.1.length ≤ 32 ∧ s.1.length = s.2.length + 1 ∧ (∀ x ∈ s.1, 1 ≤ x ∧ x ≤ 64) ∧ ∀ x ∈ s.2, 1 ≤ x ∧ x ≤ 3
theorem strips_Check_valid {a : List Int × List Int} (h : Valid a) : strips_Check fuel a = some 0 := by
  obtain ⟨h1, h2, h3, h4⟩ := h
  apply Ret.eq
  unfold strips_Check
  refine Ret_dec (fun h => absurd h (by omega)) fun _ => ?_
  refine Ret_chk (i64b_t (by omega) (by omega)) ?_
  refine Ret_dec (fun h => absurd h (by omega)) fun _ => ?_
  refine Ret_loop (Inv := fun x : Int => 0 ≤ x ∧ x ≤ a.1.length) (m := fun x : Int => ((a.1.length : Int) - x).toNat) ?_ _ _ ⟨by omega, by omega⟩ (by unfold fuel; omega)
  intro x rec ⟨i1, i2⟩ ih
  refine Ret_dec (fun hlt => ?_) fun hge => ?_
  · have := h3 _ (getD_mem (i := x.toNat) (by omega))
    refine Ret_chk (inb_t i1 hlt) ?_
    refine Ret_dec (fun h => absurd h (by omega)) fun _ => Ret_dec (fun h => absurd h (by omega)) fun _ => Ret_chk (i64b_t (by omega) (by omega)) (ih _ ⟨by omega, by omega⟩ (by omega))
  · refine Ret_loop (Inv := fun x : Int => 0 ≤ x ∧ x ≤ a.2.length) (m := fun x : Int => ((a.2.length : Int) - x).toNat) ?_ _ _ ⟨by omega, by omega⟩ (by unfold fuel; omega)
    intro x rec ⟨i1, i2⟩ ih
    refine Ret_dec (fun hlt => ?_) fun hge => Ret_some rfl
    have := h4 _ (getD_mem (i := x.toNat) (by omega))
    refine Ret_chk (inb_t i1 hlt) ?_
    exact Ret_dec (fun h => absurd h (by omega)) fun _ => Ret_dec (fun h => absurd h (by omega)) fun _ => Ret_chk (i64b_t (by omega) (by omega)) (ih _ ⟨by omega, by omega⟩ (by omega))
end X
end Go.Vm
namespace Go.Vm
namespace X
open W Go.Proofs.St
theorem okL_valid {s : List Int × List Int} (h : Valid s) : okL s.1 = true := by
  obtain ⟨h1, h2, h3, _⟩ := h
  unfold okL
  simp only [Bool.and_eq_true, ble_dec, decide_eq_true_eq]
  exact ⟨⟨List.all_eq_true.2 fun x hx => by simpa using h3 x hx, by omega⟩, h1⟩
theorem strips_Ends_valid {s : List Int × List Int} (h : Valid s) : strips_Ends fuel s = some (endsL s.1, 0) := by
  unfold strips_Ends endsR
  rw [strips_Check_valid h]
  simp only [decide_true, cond_true, okL_valid h]
theorem endsL_len (L : List Int) : (endsL L).length = L.length + 1 := by simp [endsL]
theorem endsL_getD {L : List Int} {i : Nat} (h : i ≤ L.length) : (endsL L).getD i 0 = eAt L i := by
  unfold endsL
  rw [List.getD, List.getElem?_map, List.getElem?_range (by omega)]
  rfl
def lo (E : List Int) : Nat → Int
  | 0 => E.getD 0 0
  | k + 1 => min (lo E k) (E.getD (k + 1) 0)
def hi (E : List Int) : Nat → Int
  | 0 => E.getD 0 0
  | k + 1 => max (hi E k) (E.getD (k + 1) 0)
theorem slices_Min_int_ok {E : List Int} (h1 : 1 ≤ E.length) (h2 : E.length ≤ 100) : slices_Min_int fuel E = some (lo E (E.length - 1)) := by
  apply Ret.eq
  unfold slices_Min_int
  refine Ret_jn (fun _ => True) (fun _ _ => ?_) fun j hj => Ret_dec (fun h => absurd h (by omega)) fun _ => hj () trivial
  refine Ret_chk (inb_t (by omega) (by omega)) ?_
  refine Ret_loop (Inv := fun x : Int × Int => 1 ≤ x.2 ∧ x.2 ≤ E.length ∧ x.1 = lo E (x.2.toNat - 1)) (m := fun x : Int × Int => ((E.length : Int) - x.2).toNat) ?_ _ _ ⟨by simp, by simp only; omega, rfl⟩ (by simp only [fuel]; omega)
  rintro ⟨m, i⟩ rec ⟨i1, i2, i3⟩ ih
  simp only at i1 i2 i3
  refine Ret_dec (fun hlt => ?_) fun hge => Ret_some ?_
  · refine Ret_chk (inb_t (by omega) hlt) (Ret_chk (i64b_t (by omega) (by omega)) (ih _ ⟨by simp only; omega, by simp only; omega, ?_⟩ (by simp only; omega)))
    simp only
    rw [show (i + 1).toNat - 1 = (i.toNat - 1) + 1 by omega, lo, ← i3, show i.toNat - 1 + 1 = i.toNat by omega]
  · simp only at hge ⊢
    rw [i3]
    congr 1
    omega
theorem slices_Max_int_ok {E : List Int} (h1 : 1 ≤ E.length) (h2 : E.length ≤ 100) : slices_Max_int fuel E = some (hi E (E.length - 1)) := by
  apply Ret.eq
  unfold slices_Max_int
  refine Ret_jn (fun _ => True) (fun _ _ => ?_) fun j hj => Ret_dec (fun h => absurd h (by omega)) fun _ => hj () trivial
  refine Ret_chk (inb_t (by omega) (by omega)) ?_
  refine Ret_loop (Inv := fun x : Int × Int => 1 ≤ x.2 ∧ x.2 ≤ E.length ∧ x.1 = hi E (x.2.toNat - 1)) (m := fun x : Int × Int => ((E.length : Int) - x.2).toNat) ?_ _ _ ⟨by simp, by simp only; omega, rfl⟩ (by simp only [fuel]; omega)
  rintro ⟨m, i⟩ rec ⟨i1, i2, i3⟩ ih
  simp only at i1 i2 i3
  refine Ret_dec (fun hlt => ?_) fun hge => Ret_some ?_
  · refine Ret_chk (inb_t (by omega) hlt) (Ret_chk (i64b_t (by omega) (by omega)) (ih _ ⟨by simp only; omega, by simp only; omega, ?_⟩ (by simp only; omega)))
    simp only
    rw [show (i + 1).toNat - 1 = (i.toNat - 1) + 1 by omega, hi, ← i3, show i.toNat - 1 + 1 = i.toNat by omega]
  · simp only at hge ⊢
    rw [i3]
    congr 1
    omega
theorem strips_Span_valid {s : List Int × List Int} (h : Valid s) : strips_Span fuel s = some (lo (endsL s.1) s.1.length, (hi (endsL s.1) s.1.length, 0)) := by
  have h1 := h.1
  unfold strips_Span
  rw [show (s.1, s.2) = s from rfl, strips_Ends_valid h]
  simp only [Option.bind_some, ne_eq, not_true_eq_false, decide_false, cond_false]
  rw [slices_Min_int_ok (by rw [endsL_len]; omega) (by rw [endsL_len]; omega), slices_Max_int_ok (by rw [endsL_len]; omega) (by rw [endsL_len]; omega)]
  simp only [Option.bind_some, endsL_len, Nat.add_sub_cancel]
end X
end Go.Vm
namespace Go.Vm
namespace X
open W Go.Proofs.St
theorem getD_cast {L : List Int} {i : Nat} : L.getD (((i : Nat) : Int)).toNat 0 = L.getD i 0 := by rw [Int.toNat_natCast]
theorem cmp_loop {β : Type} {L M : List Int} (hl : L.length = M.length) (h : L.length ≤ 10000) {r : β} {K : Option β} :
    loopF (fun (rec : Int → Option β) (x : Int) => bif (decide (x < ((L.length : Nat) : Int))) then (chk (inb x L.length) (chk (inb x M.length) (bif (decide ((L.getD x.toNat 0) ≠ (M.getD x.toNat 0))) then (some r) else (chk (i64b (x + 1)) (rec (x + 1)))))) else K) fuel 0 = if L = M then K else some r := by
  refine loopF_eq (fun x : Int => 0 ≤ x ∧ x ≤ L.length ∧ ∀ i : Nat, (i : Int) < x → L.getD i 0 = M.getD i 0) (fun x => ((L.length : Int) - x).toNat) (fun _ => if L = M then K else some r) ?_ _ _ ⟨by omega, by omega, fun i hi => by omega⟩ (by unfold fuel; omega)
  intro x rec ⟨i1, i2, i3⟩ ih
  by_cases hx : x < (L.length : Int)
  · rw [decide_eq_true hx, cond_true, show inb x L.length = true from inb_t i1 hx, show inb x M.length = true from inb_t i1 (by omega)]
    simp only [chk, cond_true]
    by_cases he : L.getD x.toNat 0 = M.getD x.toNat 0
    · rw [decide_eq_false (by simpa using he), cond_false, i64b_t (by omega) (by omega), cond_true]
      refine ih _ ⟨by omega, by omega, fun i hi => ?_⟩ (by omega)
      by_cases hix : (i : Int) = x
      · rw [← hix, Int.toNat_natCast] at he; exact he
      · exact i3 i (by omega)
    · rw [decide_eq_true (by simpa using he), cond_true, if_neg]
      rintro rfl; exact he rfl
  · rw [decide_eq_false hx, cond_false, if_pos]
    apply List.ext_getElem hl
    intro i h1 h2
    have := i3 i (by omega)
    simpa [List.getD, List.getElem?_eq_getElem h1, List.getElem?_eq_getElem h2] using this
def okI (L : List Int) : Prop := ∀ x ∈ L, 1 ≤ x ∧ x ≤ 64
def okK (L : List Int) : Prop := ∀ x ∈ L, 1 ≤ x ∧ x ≤ 3
instance {L : List Int} : Decidable (okI L) := inferInstanceAs (Decidable (∀ x ∈ L, 1 ≤ x ∧ x ≤ 64))
instance {L : List Int} : Decidable (okK L) := inferInstanceAs (Decidable (∀ x ∈ L, 1 ≤ x ∧ x ≤ 3))
theorem all_of_getD {L : List Int} {P : Int → Prop} (h : ∀ i : Nat, i < L.length → P (L.getD i 0)) : ∀ x ∈ L, P x := fun x hx => by
  obtain ⟨i, hi, rfl⟩ := List.mem_iff_getElem.1 hx
  have := h i hi
  simpa [List.getD, List.getElem?_eq_getElem hi] using this
def ckS (a : List Int × List Int) : Int := if 32 < a.1.length then 3 else if a.1.length ≠ a.2.length + 1 then 5 else if okI a.1 ∧ okK a.2 then 0 else 1
theorem check_spec {a : List Int × List Int} (h : a.2.length ≤ 1000) : strips_Check fuel a = some (ckS a) := by
  apply Ret.eq
  unfold strips_Check ckS
  refine Ret_dec (fun h => ?_) fun h1 => ?_
  · rw [if_pos (by omega)]; exact Ret_some rfl
  rw [if_neg (by omega)]
  refine Ret_chk (i64b_t (by omega) (by omega)) ?_
  refine Ret_dec (fun h => ?_) fun h2 => ?_
  · rw [if_pos (by omega)]; exact Ret_some rfl
  rw [if_neg (by omega)]
  refine Ret_loop (Inv := fun x : Int => 0 ≤ x ∧ x ≤ a.1.length ∧ ∀ i : Nat, (i : Int) < x → 1 ≤ a.1.getD i 0 ∧ a.1.getD i 0 ≤ 64) (m := fun x : Int => ((a.1.length : Int) - x).toNat) ?_ _ _ ⟨by omega, by omega, fun i hi => by omega⟩ (by unfold fuel; omega)
  intro x rec ⟨i1, i2, i3⟩ ih
  refine Ret_dec (fun hlt => ?_) fun hge => ?_
  · have hm := getD_mem (L := a.1) (i := x.toNat) (by omega)
    refine Ret_chk (inb_t i1 hlt) ?_
    refine Ret_dec (fun h => Ret_some ?_) fun ha => Ret_dec (fun h => Ret_some ?_) fun hb => Ret_chk (i64b_t (by omega) (by omega)) (ih _ ⟨by omega, by omega, fun i hi => ?_⟩ (by omega))
    · rw [if_neg]; rintro ⟨k1, _⟩; have := (k1 _ hm).1; omega
    · rw [if_neg]; rintro ⟨k1, _⟩; have := (k1 _ hm).2; omega
    · by_cases hix : (i : Int) = x
      · rw [← hix, Int.toNat_natCast] at ha hb; omega
      · exact i3 i (by omega)
  · have hI : okI a.1 := all_of_getD fun i hi => i3 i (by omega)
    refine Ret_loop (Inv := fun x : Int => 0 ≤ x ∧ x ≤ a.2.length ∧ ∀ i : Nat, (i : Int) < x → 1 ≤ a.2.getD i 0 ∧ a.2.getD i 0 ≤ 3) (m := fun x : Int => ((a.2.length : Int) - x).toNat) ?_ _ _ ⟨by omega, by omega, fun i hi => by omega⟩ (by unfold fuel; omega)
    intro x rec ⟨i1, i2, i3⟩ ih
    refine Ret_dec (fun hlt => ?_) fun hge => ?_
    · have hm := getD_mem (L := a.2) (i := x.toNat) (by omega)
      refine Ret_chk (inb_t i1 hlt) ?_
      refine Ret_dec (fun h => Ret_some ?_) fun ha => Ret_dec (fun h => Ret_some ?_) fun hb => Ret_chk (i64b_t (by omega) (by omega)) (ih _ ⟨by omega, by omega, fun i hi => ?_⟩ (by omega))
      · rw [if_neg]; rintro ⟨_, k1⟩; have := (k1 _ hm).1; omega
      · rw [if_neg]; rintro ⟨_, k1⟩; have := (k1 _ hm).2; omega
      · by_cases hix : (i : Int) = x
        · rw [← hix, Int.toNat_natCast] at ha hb; omega
        · exact i3 i (by omega)
    · rw [if_pos ⟨hI, all_of_getD fun i hi => i3 i (by omega)⟩]; exact Ret_some rfl
theorem ckS_valid {a : List Int × List Int} : ckS a = 0 ↔ Valid a := by
  unfold ckS Valid
  by_cases h1 : 32 < a.1.length
  · rw [if_pos h1]; constructor
    · intro h; cases h
    · intro h; omega
  rw [if_neg h1]
  by_cases h2 : a.1.length ≠ a.2.length + 1
  · rw [if_pos h2]; constructor
    · intro h; cases h
    · intro h; omega
  rw [if_neg h2]
  by_cases h3 : okI a.1 ∧ okK a.2
  · rw [if_pos h3]; exact ⟨fun _ => ⟨by omega, by omega, h3.1, h3.2⟩, fun _ => rfl⟩
  · rw [if_neg h3]; constructor
    · intro h; cases h
    · intro h; exact absurd ⟨h.2.2.1, h.2.2.2⟩ h3
theorem lens_le {n : Nat} : ∀ {l : List (List UInt8)}, (∀ s ∈ l, s.length ≤ n) → Lib.lens l ≤ l.length * n
  | [], _ => by simp [Lib.lens]
  | s :: l, h => by
    have h1 := h s (List.mem_cons_self ..)
    have h2 := lens_le (l := l) fun x hx => h x (List.mem_cons_of_mem _ hx)
    have h3 : Lib.lens (s :: l) = s.length + Lib.lens l := by simp [Lib.lens]
    rw [h3, List.length_cons, Nat.add_mul]; omega
theorem joinS_len {t : List Nat} {l : List (List Nat)} (h : ∀ s ∈ l, s.length ≤ 2) : (joinS l t).length ≤ l.length * (2 + t.length) := by
  match l, h with
  | [], _ => simp [joinS, Lib.join_nil]
  | s :: l, h =>
    have h2 := lens_le (n := 2) (l := (s :: l).map u8) fun x hx => by
      obtain ⟨y, hy, rfl⟩ := List.mem_map.1 hx
      simpa [u8] using h y hy
    simp only [joinS, List.map_cons, List.length_map] at h2 ⊢
    rw [Lib.join_length]
    simp only [List.length_cons, List.length_map, u8] at h2 ⊢
    rw [Nat.mul_add, Nat.mul_comm (l.length + 1) t.length, Nat.mul_add]
    omega
theorem joinS_cons {t : List Nat} {c : Nat} {s : List Nat} {l : List (List Nat)} : joinS ((c :: s) :: l) t ≠ [] := by
  simp only [joinS, List.map_cons, Lib.join_cons, u8]
  simp
end X
end Go.Vm
namespace Go.Vm
namespace X
open W Go.Proofs.St
theorem wrap_u8 {n : Int} (h1 : 0 ≤ n) (h2 : n ≤ 255) : IntKind.u8.wrap n = n := by
  simp [IntKind.wrap, IntKind.bits, IntKind.signed]; omega
def OfQ (s : List Int × List Int) : Prop := 1 ≤ s.1.length ∧ s.1.length ≤ 12 ∧ s.1.length = s.2.length + 1 ∧ (∀ x ∈ s.1, 1 ≤ x ∧ x ≤ 8) ∧ ∀ x ∈ s.2, 1 ≤ x ∧ x ≤ 3
theorem OfQ.valid {s : List Int × List Int} (h : OfQ s) : Valid s := ⟨by have := h.2.1; omega, h.2.2.1, fun x hx => by have := h.2.2.2.1 x hx; omega, h.2.2.2.2⟩
theorem mem_snoc {L : List Int} {a : Int} {P : Int → Prop} (h : ∀ x ∈ L, P x) (ha : P a) : ∀ x ∈ L ++ [a], P x := fun x hx => by
  rcases List.mem_append.1 hx with h1 | h1
  · exact h x h1
  · rw [List.mem_singleton.1 h1]; exact ha
theorem law16_T_Of_ok {a : List Int × List Int} (h1 : bytes a.1) (h2 : bytes a.2) : Ret (law16_T_Of fuel a) OfQ := by
  unfold law16_T_Of
  have fin : ∀ x : Int × (List Int × List Int), (0 ≤ x.1 ∧ x.1 ≤ 12 ∧ x.2.1.length = x.1.toNat ∧ x.2.2.length = x.1.toNat - 1 ∧ (∀ y ∈ x.2.1, 1 ≤ y ∧ y ≤ 8) ∧ ∀ y ∈ x.2.2, 1 ≤ y ∧ y ≤ 3) →
      Ret (bif (decide (((x.2.1.length : Nat) : Int) = 0)) then (some ([1], x.2.2)) else (some (x.2.1, x.2.2))) OfQ := by
    intro x ⟨i1, i2, i3, i4, i5, i6⟩
    refine Ret_dec (fun h => Ret_some ⟨by simp, by simp, ?_, by simp, i6⟩) fun h => Ret_some ⟨?_, ?_, ?_, i5, i6⟩
    · simp only [List.length_singleton]; omega
    all_goals (simp only; omega)
  refine Ret_loop (Inv := fun x => 0 ≤ x.1 ∧ x.1 ≤ 12 ∧ x.2.1.length = x.1.toNat ∧ x.2.2.length = x.1.toNat - 1 ∧ (∀ y ∈ x.2.1, 1 ≤ y ∧ y ≤ 8) ∧ ∀ y ∈ x.2.2, 1 ≤ y ∧ y ≤ 3) (m := fun x => (12 - x.1).toNat) ?_ _ _ ⟨by simp, by simp, by simp, by simp, by simp, by simp⟩ (by simp [fuel])
  intro x rec hi ih
  have hI := hi
  obtain ⟨i1, i2, i3, i4, i5, i6⟩ := hi
  refine Ret_dec (fun hlt => ?_) fun _ => fin x hI
  refine Ret_dec (fun h12 => ?_) fun _ => fin x hI
  have hb := h1 _ (getD_mem (i := x.1.toNat) (by omega))
  refine Ret_chk (inb_t i1 hlt) ?_
  refine Ret_chk (by rw [Bool.and_eq_true]; exact ⟨decide_eq_true (by omega), rfl⟩) ?_
  refine Ret_chk (i64b_t (by omega) (by omega)) ?_
  refine Ret_chk (i64b_t (by omega) (by omega)) ?_
  refine Ret_chk (lenOk_t (by omega)) ?_
  have e5 := mem_snoc i5 (a := 1 + (a.1.getD x.1.toNat 0) % 8) (P := fun y => 1 ≤ y ∧ y ≤ 8) (by omega)
  refine Ret_dec (fun hpos => ?_) fun hz => ?_
  · refine Ret_dec (fun hk => ?_) fun hk => ?_
    · refine Ret_chk (i64b_t (by omega) (by omega)) ?_
      refine Ret_chk (inb_t (by omega) (by omega)) ?_
      have hb2 := h2 _ (getD_mem (L := a.2) (i := (x.1 - 1).toNat) (by omega))
      refine Ret_chk (by rw [Bool.and_eq_true]; exact ⟨decide_eq_true (by omega), rfl⟩) ?_
      refine Ret_chk (lenOk_t (by omega)) ?_
      refine Ret_chk (i64b_t (by omega) (by omega)) ?_
      refine ih _ ⟨by simp only; omega, by simp only; omega, by simp only [List.length_append, List.length_singleton]; omega, by simp only [List.length_append, List.length_singleton]; omega, e5, mem_snoc i6 ?_⟩ (by simp only; omega)
      rw [wrap_u8 (by omega) (by omega)]; omega
    · refine Ret_chk (lenOk_t (by omega)) ?_
      refine Ret_chk (i64b_t (by omega) (by omega)) ?_
      exact ih _ ⟨by simp only; omega, by simp only; omega, by simp only [List.length_append, List.length_singleton]; omega, by simp only [List.length_append, List.length_singleton]; omega, e5, mem_snoc i6 (by omega)⟩ (by simp only; omega)
  · refine Ret_chk (i64b_t (by omega) (by omega)) ?_
    exact ih _ ⟨by simp only; omega, by simp only; omega, by simp only [List.length_append, List.length_singleton]; omega, by simp only; omega, e5, i6⟩ (by simp only; omega)
end X
end Go.Vm
namespace Go.Vm
namespace X
open W Go.Proofs.St
theorem law16_StripsEnds_true {a : List Int × List Int} (h1 : bytes a.1) (h2 : bytes a.2) : law16_StripsEnds fuel a = some true := by
  apply Ret.eq
  unfold law16_StripsEnds
  refine Ret_bind (law16_T_Of_ok (a := (a.1, a.2)) h1 h2) fun s hs => ?_
  have hv := hs.valid
  refine Ret_bind (Ret.of (strips_Ends_valid hv)) fun r2 e2 => ?_
  subst e2
  refine Ret_bind (Ret.of (strips_Span_valid hv)) fun r3 e3 => ?_
  subst e3
  obtain ⟨k1, k2, k3, k4, k5⟩ := hs
  have hL : ∀ x ∈ s.1, 1 ≤ x ∧ x ≤ 64 := hv.2.2.1
  simp only
  have elen := endsL_len s.1
  have eg : ∀ i : Nat, i ≤ s.1.length → (endsL s.1).getD i 0 = eAt s.1 i := fun i hi => endsL_getD hi
  have e0 : (endsL s.1).getD 0 0 = 0 := by rw [eg 0 (by omega)]; rfl
  refine Ret_dec (fun h => absurd rfl h) fun _ => Ret_dec (fun h => absurd rfl h) fun _ => ?_
  refine Ret_chk (i64b_t (by omega) (by omega)) ?_
  refine Ret_dec (fun h => absurd h (by omega)) fun _ => Ret_dec (fun h => absurd rfl h) fun _ => ?_
  refine Ret_chk (inb_t (by omega) (by omega)) ?_
  refine Ret_dec (fun h => absurd e0 h) fun _ => ?_
  refine Ret_loop (Inv := fun x : Int × (Int × Int) => 0 ≤ x.2.2 ∧ x.2.2 ≤ s.1.length ∧ x.1 = lo (endsL s.1) x.2.2.toNat ∧ x.2.1 = hi (endsL s.1) x.2.2.toNat) (m := fun x : Int × (Int × Int) => ((s.1.length : Int) - x.2.2).toNat) ?_ _ _ ⟨by simp, by simp only; omega, e0.symm, e0.symm⟩ (by simp only [fuel]; omega)
  rintro ⟨l, g, i⟩ rec ⟨i1, i2, i3, i4⟩ ih
  simp only at i1 i2 i3 i4
  refine Ret_dec (fun hlt => ?_) fun hge => ?_
  · simp only at hlt
    obtain ⟨n, rfl⟩ := Int.eq_ofNat_of_zero_le i1
    simp only [Int.toNat_natCast] at i3 i4
    have et : ((n : Int) + 1).toNat = n + 1 := by omega
    have hm := hL _ (getD_mem (L := s.1) (i := n) (by omega))
    have b0 := eAt_bd hL n (by omega)
    have b1 := eAt_bd hL (n + 1) (by omega)
    have g0 := eg n (by omega)
    have g1 := eg (n + 1) (by omega)
    have step : eAt s.1 (n + 1) = eAt s.1 n + s.1.getD n 0 * (1 - 2 * ((n : Int) % 2)) := rfl
    have nxt : Ret (chk (i64b ((n : Int) + 1)) (chk (inb ((n : Int) + 1) (endsL s.1).length) (chk (i64b ((n : Int) + 1)) (chk (inb ((n : Int) + 1) (endsL s.1).length) (chk (i64b ((n : Int) + 1)) (rec ((min l ((endsL s.1).getD ((n : Int) + 1).toNat 0)), ((max g ((endsL s.1).getD ((n : Int) + 1).toNat 0)), ((n : Int) + 1))))))))) fun x => x = true := by
      refine Ret_chk (i64b_t (by omega) (by omega)) (Ret_chk (inb_t (by omega) (by omega)) (Ret_chk (i64b_t (by omega) (by omega)) (Ret_chk (inb_t (by omega) (by omega)) (Ret_chk (i64b_t (by omega) (by omega)) (ih _ ⟨by simp only; omega, by simp only; omega, ?_, ?_⟩ (by simp only; omega))))))
      · simp only [et]; rw [i3]; rfl
      · simp only [et]; rw [i4]; rfl
    simp only [et, Int.toNat_natCast, g0, g1]
    refine Ret_chk (i64b_t (by omega) (by omega)) (Ret_chk (inb_t (by omega) (by omega)) (Ret_chk (inb_t (by omega) (by omega)) ?_))
    refine Ret_chk (i64b_t (by omega) (by omega)) ?_
    refine Ret_chk (by rw [Bool.and_eq_true]; exact ⟨decide_eq_true (by omega), rfl⟩) ?_
    simp only [et, g1] at nxt
    refine Ret_dec (fun hodd => ?_) fun hev => ?_
    · rw [hodd] at step
      refine Ret_chk (i64b_t (by omega) (by omega)) (Ret_chk (inb_t (by omega) (by omega)) ?_)
      exact Ret_dec (fun h => absurd h (by omega)) fun _ => nxt
    · rw [show (n : Int) % 2 = 0 by omega] at step
      refine Ret_chk (inb_t (by omega) (by omega)) ?_
      exact Ret_dec (fun h => absurd h (by omega)) fun _ => nxt
  · simp only at hge
    have en : i.toNat = s.1.length := by omega
    rw [en] at i3 i4
    refine Ret_dec (fun _ => ?_) fun h => absurd i3.symm h
    refine Ret_dec (fun _ => ?_) fun h => absurd i4.symm h
    exact Ret_bind (Ret.of lives16) fun r e => Ret_some e
end X
end Go.Vm
namespace Go.Vm
namespace X
open W Go.Proofs.St
theorem capIs_self {n : Nat} : capIs (some n) n = true := by simp [capIs, beq_dec]
def sumN (L : List Int) : Nat → Int
  | 0 => 0
  | i + 1 => sumN L i + L.getD i 0
theorem sumN_bd {L : List Int} (hL : okI L) : ∀ i, i ≤ L.length → 0 ≤ sumN L i ∧ sumN L i ≤ 64 * i
  | 0, _ => by simp [sumN]
  | i + 1, h => by
    have ih := sumN_bd hL i (by omega)
    have hx := hL _ (getD_mem (L := L) (i := i) (by omega))
    unfold sumN
    omega
def crease (a : List Int × List Int) (i : Nat) : Int × (Int × Int) := (4 * sumN a.1 (i + 1) - 3, (0, a.2.getD i 0))
def creases (a : List Int × List Int) (n : Nat) : List (Int × (Int × Int)) := (List.range n).map (crease a)
theorem pattern_valid {a : List Int × List Int} (h : Valid a) : strips_Pattern fuel a = some (if 256 < sumN a.1 a.1.length then ((0, (0, [])), 3) else ((sumN a.1 a.1.length, (1, creases a a.2.length)), 0)) := by
  obtain ⟨h1, h2, h3, h4⟩ := h
  have hI : okI a.1 := h3
  apply Ret.eq
  unfold strips_Pattern
  refine Ret_bind (Ret.of (strips_Check_valid ⟨h1, h2, h3, h4⟩)) fun r e => ?_
  subst e
  refine Ret_dec (fun h => absurd rfl h) fun _ => ?_
  refine Ret_chk (by simp; omega) ?_
  refine Ret_loop (Inv := fun x : (Int × (Int × (Int × ((List (Int × (Int × Int))) × Nat)))) => 0 ≤ x.1 ∧ x.1 ≤ a.1.length ∧ x.2.1 = sumN a.1 x.1.toNat ∧ x.2.2.1 = 1 ∧ x.2.2.2.1 = creases a (x.1.toNat - 1) ∧ x.2.2.2.2 = a.2.length) (m := fun x => ((a.1.length : Int) - x.1).toNat) ?_ _ _ ⟨by simp, by simp, rfl, rfl, rfl, rfl⟩ (by simp only [fuel]; omega)
  rintro ⟨i, w, o, l, c⟩ rec ⟨i1, i2, i3, i4, i5, i6⟩ ih
  simp only at i1 i2 i3 i4 i5 i6 ⊢
  subst i4; subst i6
  have bd := sumN_bd hI i.toNat (by omega)
  refine Ret_dec (fun hlt => ?_) fun hge => ?_
  · have hx := hI _ (getD_mem (L := a.1) (i := i.toNat) (by omega))
    have st : sumN a.1 (i + 1).toNat = sumN a.1 i.toNat + a.1.getD i.toNat 0 := by rw [show (i + 1).toNat = i.toNat + 1 by omega]; rfl
    have hll : l.length = i.toNat - 1 := by rw [i5]; simp [creases]
    refine Ret_chk (inb_t i1 hlt) ?_
    refine Ret_dec (fun hpos => ?_) fun hz => ?_
    · have hcap : appCap (some a.2.length) (l.length + 1) = some a.2.length := by
        unfold appCap
        simp only [ble_dec]
        rw [decide_eq_true (by omega)]; rfl
      refine Ret_chk (i64b_t (by omega) (by omega)) (Ret_chk (i64b_t (by omega) (by omega)) (Ret_chk (i64b_t (by omega) (by omega)) (Ret_chk (inb_t (by omega) (by omega)) (Ret_chk (lenOk_t (by omega)) (Ret_chk (i64b_t (by omega) (by omega)) (Ret_chk (i64b_t (by omega) (by omega)) (Ret_chk (by rw [hcap]; rfl) (ih _ ⟨by simp only; omega, by simp only; omega, by simp only [st, i3], rfl, ?_, by simp only [hcap]; rfl⟩ (by simp only; omega)))))))))
      simp only
      rw [i5, show (i + 1).toNat - 1 = (i.toNat - 1) + 1 by omega]
      unfold creases
      rw [List.range_succ, List.map_append]
      congr 1
      simp only [List.map_cons, List.map_nil, crease]
      rw [show i.toNat - 1 + 1 = i.toNat by omega, show (i - 1).toNat = i.toNat - 1 by omega, i3]
    · refine Ret_chk (i64b_t (by omega) (by omega)) (Ret_chk (i64b_t (by omega) (by omega)) (ih _ ⟨by simp only; omega, by simp only; omega, by simp only [st, i3], rfl, ?_, rfl⟩ (by simp only; omega)))
      simp only
      rw [i5, show (i + 1).toNat - 1 = i.toNat - 1 by omega]
  · have ei : i.toNat = a.1.length := by omega
    rw [ei] at i3 i5
    rw [← i3]
    refine Ret_dec (fun h => Ret_some ?_) fun h => ?_
    · rw [if_pos h]
    · rw [if_neg h]
      have hll : l.length = a.2.length := by rw [i5]; simp [creases]; omega
      refine Ret_chk (by rw [hll]; exact capIs_self) (Ret_some ?_)
      rw [i5, show a.1.length - 1 = a.2.length by omega]
end X
end Go.Vm
namespace Go.Vm
namespace X
open W Go.Proofs.St
theorem clone_int {a : List Int} (h : a.length ≤ 10000) : slices_Clone_int fuel a = some a := by
  unfold slices_Clone_int; rw [lenOk_t (by omega)]; rfl
theorem clone_kind {a : List Int} (h : a.length ≤ 10000) : slices_Clone_api_Kind fuel a = some a := by
  unfold slices_Clone_api_Kind; rw [lenOk_t (by omega)]; rfl
theorem getD_set {L : List Int} {i k : Nat} {v : Int} (hi : i < L.length) : (L.set i v).getD k 0 = if k = i then v else L.getD k 0 := by
  simp only [List.getD, List.getElem?_set]
  by_cases h : i = k
  · subst h; simp [hi]
  · simp [h, Ne.symm h]
theorem ext_getD {L M : List Int} (hl : L.length = M.length) (h : ∀ i : Nat, i < L.length → L.getD i 0 = M.getD i 0) : L = M := by
  apply List.ext_getElem hl
  intro i h1 h2
  have := h i h1
  simpa [List.getD, List.getElem?_eq_getElem h1, List.getElem?_eq_getElem h2] using this
theorem getD_reverse {L : List Int} {i : Nat} (h : i < L.length) : L.reverse.getD i 0 = L.getD (L.length - 1 - i) 0 := by
  rw [List.getD, List.getElem?_reverse h]; rfl
theorem rev_loop {r : List Int} {Q : List Int → Prop} (hr : r.length ≤ 10000) (hQ : Q r.reverse) :
    Ret (loopF (fun rec2 (x2 : (Int × (Int × ((List Int) × Option Nat)))) => bif (decide (x2.1 < x2.2.1)) then (chk (inb x2.2.1 r.length) (chk (inb x2.1 r.length) (chk (inb x2.1 r.length) (chk (inb x2.2.1 r.length) (chk (i64b (x2.1 + 1)) (chk (i64b (x2.2.1 - 1)) (rec2 ((x2.1 + 1), ((x2.2.1 - 1), (((x2.2.2.1.set (0 + x2.1.toNat) (x2.2.2.1.getD (0 + x2.2.1.toNat) 0)).set (0 + x2.2.1.toNat) (x2.2.2.1.getD (0 + x2.1.toNat) 0)), x2.2.2.2)))))))))) else (chk ((Nat.beq 0 0 && Nat.ble r.length x2.2.2.1.length) && (capIs (some r.length) (x2.2.2.1.take r.length).length)) (some (x2.2.2.1.take r.length)))) fuel (0, ((((r.length : Nat) : Int) - 1), (r, none)))) Q := by
  refine Ret_loop (Inv := fun x : Int × (Int × ((List Int) × Option Nat)) => 0 ≤ x.1 ∧ x.2.1 = (r.length : Int) - 1 - x.1 ∧ 2 * x.1 ≤ r.length + 1 ∧ x.2.2.1.length = r.length ∧ ∀ k : Nat, k < r.length → x.2.2.1.getD k 0 = if (k : Int) < x.1 ∨ x.2.1 < (k : Int) then r.getD (r.length - 1 - k) 0 else r.getD k 0) (m := fun x => (x.2.1 - x.1 + 1).toNat) ?_ _ _ ⟨by simp, by simp, by simp only; omega, rfl, fun k hk => ?_⟩ (by simp only [fuel]; omega)
  · rintro ⟨i, j, l, c⟩ rec ⟨i1, i2, i3, i4, i5⟩ ih
    simp only at i1 i2 i3 i4 i5 ⊢
    refine Ret_dec (fun hlt => ?_) fun hge => ?_
    · refine Ret_chk (inb_t (by omega) (by omega)) (Ret_chk (inb_t (by omega) (by omega)) (Ret_chk (inb_t (by omega) (by omega)) (Ret_chk (inb_t (by omega) (by omega)) (Ret_chk (i64b_t (by omega) (by omega)) (Ret_chk (i64b_t (by omega) (by omega)) (ih _ ⟨by simp only; omega, by simp only; omega, by simp only; omega, by simp only [List.length_set]; exact i4, fun k hk => ?_⟩ (by simp only; omega)))))))
      simp only [Nat.zero_add]
      rw [getD_set (by rw [List.length_set]; omega), getD_set (by omega)]
      have e1 := i5 i.toNat (by omega)
      have e2 := i5 j.toNat (by omega)
      rw [if_neg (by omega)] at e1 e2
      by_cases h1 : k = j.toNat
      · rw [if_pos h1, e1, if_pos (by omega)]
        congr 1; omega
      · rw [if_neg h1]
        by_cases h2 : k = i.toNat
        · rw [if_pos h2, e2, if_pos (by omega)]
          congr 1; omega
        · rw [if_neg h2, i5 k hk]
          by_cases h3 : (k : Int) < i ∨ j < (k : Int)
          · rw [if_pos h3, if_pos (by omega)]
          · rw [if_neg h3, if_neg (by omega)]
    · have hle : l = r.reverse := by
        refine ext_getD (by simp [i4]) fun k hk => ?_
        rw [i5 k (by omega), getD_reverse (by omega)]
        by_cases h3 : (k : Int) < i ∨ j < (k : Int)
        · rw [if_pos h3]
        · rw [if_neg h3]
          congr 1; omega
      subst hle
      have e : r.reverse.take r.length = r.reverse := List.take_of_length_le (by simp)
      rw [e]
      refine Ret_chk ?_ (Ret_some hQ)
      simp [capIs, ble_dec]
  · simp only
    rw [if_neg (by omega)]
theorem turned_int {a : List Int} (h : a.length ≤ 10000) : strips_turned_int fuel a = some a.reverse := by
  apply Ret.eq
  unfold strips_turned_int
  refine Ret_bind (Ret.of (clone_int h)) fun r e => ?_
  subst e
  refine Ret_chk (by simp [bnb]) (Ret_chk (i64b_t (by omega) (by omega)) (rev_loop h rfl))
theorem turned_kind {a : List Int} (h : a.length ≤ 10000) : strips_turned_api_Kind fuel a = some a.reverse := by
  apply Ret.eq
  unfold strips_turned_api_Kind
  refine Ret_bind (Ret.of (clone_kind h)) fun r e => ?_
  subst e
  refine Ret_chk (by simp [bnb]) (Ret_chk (i64b_t (by omega) (by omega)) (rev_loop h rfl))
theorem turn_spec {a : List Int × List Int} (h1 : a.1.length ≤ 10000) (h2 : a.2.length ≤ 10000) : strips_Turn fuel a = some (a.1.reverse, a.2.reverse) := by
  unfold strips_Turn
  rw [turned_int h1, turned_kind h2]
  simp [capIs, chk]
theorem equal_int {a : List Int × List Int} (h : a.1.length ≤ 10000) : slices_Equal_int fuel a = some (decide (a.1 = a.2)) := by
  unfold slices_Equal_int
  by_cases hl : a.1.length = a.2.length
  · rw [decide_eq_false (by omega), cond_false, cmp_loop hl h]
    by_cases he : a.1 = a.2
    · rw [if_pos he, decide_eq_true he]
    · rw [if_neg he, decide_eq_false he]
  · rw [decide_eq_true (by omega), cond_true, decide_eq_false]
    intro he; rw [he] at hl; exact hl rfl
theorem equal_kind {a : List Int × List Int} (h : a.1.length ≤ 10000) : slices_Equal_api_Kind fuel a = some (decide (a.1 = a.2)) := by
  unfold slices_Equal_api_Kind
  by_cases hl : a.1.length = a.2.length
  · rw [decide_eq_false (by omega), cond_false, cmp_loop hl h]
    by_cases he : a.1 = a.2
    · rw [if_pos he, decide_eq_true he]
    · rw [if_neg he, decide_eq_false he]
  · rw [decide_eq_true (by omega), cond_true, decide_eq_false]
    intro he; rw [he] at hl; exact hl rfl
theorem same_self {a : List Int × List Int} (h1 : a.1.length ≤ 10000) (h2 : a.2.length ≤ 10000) : strips_Same fuel (a, a) = some true := by
  unfold strips_Same
  rw [equal_int (a := (a.1, a.1)) h1, equal_kind (a := (a.2, a.2)) h2]
  simp
theorem ends_err {a : List Int × List Int} (h : a.2.length ≤ 1000) (he : ckS a ≠ 0) : strips_Ends fuel a = some ([], ckS a) := by
  unfold strips_Ends endsR
  rw [check_spec h]
  simp [he]
theorem span_err {a : List Int × List Int} (h : a.2.length ≤ 1000) (he : ckS a ≠ 0) : strips_Span fuel a = some (0, (0, ckS a)) := by
  unfold strips_Span
  rw [show (a.1, a.2) = a from rfl, ends_err h he]
  simp [he]
theorem pattern_err {a : List Int × List Int} (h : a.2.length ≤ 1000) (he : ckS a ≠ 0) : strips_Pattern fuel a = some ((0, (0, [])), ckS a) := by
  unfold strips_Pattern
  rw [show (a.1, a.2) = a from rfl, check_spec h]
  simp [he]
theorem text_err {a : List Int × List Int} (h : a.2.length ≤ 1000) (he : ckS a ≠ 0) : strips_Text fuel a = some [] := by
  unfold strips_Text
  rw [show (a.1, a.2) = a from rfl, check_spec h]
  simp [he]
theorem itoa_small {n : Int} (h1 : 1 ≤ n) (h2 : n ≤ 64) : ∃ c s, strconv_Itoa fuel n = some (c :: s) ∧ s.length ≤ 1 := by
  have key : ∀ k : Nat, k < 65 → 1 ≤ k → (match strconv_Itoa fuel (k : Int) with | some (c :: s) => s.length.ble 1 | _ => false) = true := by
    have : ((List.range 65).all fun k => k.beq 0 || (match strconv_Itoa fuel (k : Int) with | some (c :: s) => s.length.ble 1 | _ => false)) = true := by kernel_rfl
    intro k hk h
    have := List.all_eq_true.1 this k (List.mem_range.2 hk)
    rw [Bool.or_eq_true] at this
    rcases this with h0 | h0
    · rw [beq_dec, decide_eq_true_eq] at h0; omega
    · exact h0
  have := key n.toNat (by omega) (by omega)
  rw [show ((n.toNat : Nat) : Int) = n by omega] at this
  split at this
  · rename_i c s e
    exact ⟨c, s, e, by simpa [ble_dec] using this⟩
  · cases this
theorem text_valid {a : List Int × List Int} (h : Valid a) : Ret (strips_Text fuel a) fun r => r ≠ [] := by
  obtain ⟨h1, h2, h3, h4⟩ := h
  unfold strips_Text
  refine Ret_bind (Ret.of (strips_Check_valid ⟨h1, h2, h3, h4⟩)) fun r e => ?_
  subst e
  refine Ret_dec (fun h => absurd rfl h) fun _ => ?_
  refine Ret_loop (Inv := fun x : (List (List Nat)) × Int => 0 ≤ x.2 ∧ x.2 ≤ a.1.length ∧ x.1.length ≤ 2 * x.2.toNat ∧ (∀ s ∈ x.1, s.length ≤ 2) ∧ (0 < x.2 → ∃ c s l, x.1 = (c :: s) :: l)) (m := fun x => ((a.1.length : Int) - x.2).toNat) ?_ _ _ ⟨by simp, by simp, by simp, by simp, by simp⟩ (by simp only [fuel]; omega)
  rintro ⟨l, i⟩ rec ⟨i1, i2, i3, i4, i5⟩ ih
  simp only at i1 i2 i3 i4 i5 ⊢
  refine Ret_dec (fun hlt => ?_) fun hge => ?_
  · have hx := h3 _ (getD_mem (L := a.1) (i := i.toNat) (by omega))
    obtain ⟨c, s, e1, e2⟩ := itoa_small hx.1 hx.2
    refine Ret_chk (inb_t i1 hlt) ?_
    refine Ret_dec (fun hpos => ?_) fun hz => ?_
    · have hk := h4 _ (getD_mem (L := a.2) (i := (i - 1).toNat) (by omega))
      obtain ⟨c0, s0, l0, e0⟩ := i5 hpos
      refine Ret_chk (i64b_t (by omega) (by omega)) (Ret_chk (inb_t (by omega) (by omega)) (Ret_chk (inb_t (by omega) (by omega)) (Ret_chk (lenOk_t (by omega)) (Ret_bind (Ret.of e1) fun r3 er => ?_))))
      subst er
      have h4' : (([[], [109], [118], [97]] : List (List Nat)).getD (a.2.getD (i - 1).toNat 0).toNat []).length ≤ 2 := by
        obtain ⟨k1, k2⟩ := hk
        generalize a.2.getD (i - 1).toNat 0 = k at k1 k2 ⊢
        rcases (by omega : k = 1 ∨ k = 2 ∨ k = 3) with rfl | rfl | rfl <;> simp
      refine Ret_chk (lenOk_t (by rw [List.length_append, List.length_singleton]; omega)) (Ret_chk (i64b_t (by omega) (by omega)) (ih _ ⟨by simp only; omega, by simp only; omega, ?_, fun s' hs => ?_, fun _ => ?_⟩ (by simp only; omega)))
      · simp only [List.length_append, List.length_singleton]; omega
      · simp only [List.mem_append, List.mem_singleton] at hs
        rcases hs with (hs | rfl) | rfl
        · exact i4 _ hs
        · exact h4'
        · simp only [List.length_cons]; omega
      · exact ⟨c0, s0, _, by rw [e0]; rfl⟩
    · refine Ret_bind (Ret.of e1) fun r3 er => ?_
      subst er
      have hl0 : l = [] := by
        match l, i3 with
        | [], _ => rfl
        | _ :: _, h => simp only [List.length_cons] at h; omega
      subst hl0
      refine Ret_chk (lenOk_t (by simp)) (Ret_chk (i64b_t (by omega) (by omega)) (ih _ ⟨by simp only; omega, by simp only; omega, by simp; omega, fun s' hs => ?_, fun _ => ⟨c, s, [], rfl⟩⟩ (by simp only; omega)))
      simp only [List.nil_append, List.mem_singleton] at hs
      subst hs
      simp only [List.length_cons]; omega
  · obtain ⟨c, s, l', rfl⟩ := i5 (by omega)
    have hj := joinS_len (t := [32]) i4
    simp only [List.length_cons, List.length_nil] at hj i3
    unfold strings_Join joinR
    rw [show Nat.beq ((c :: s) :: l').length 0 = false from rfl, cond_false]
    have hb : ((joinS ((c :: s) :: l') [32]).length.ble 1000000 && ((c :: s) :: l').length.ble 1000000) = true := by
      rw [ble_dec, ble_dec, Bool.and_eq_true, decide_eq_true_eq, decide_eq_true_eq]
      simp only [List.length_cons]
      omega
    simp only [hb, cond_true, Option.bind_some]
    exact Ret_some joinS_cons
end X
end Go.Vm
