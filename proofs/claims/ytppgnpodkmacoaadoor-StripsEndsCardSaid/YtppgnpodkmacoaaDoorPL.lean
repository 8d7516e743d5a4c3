/-
  Strips: plain laws: Of, Check, Ends, Span; the law StripsEnds.
  Strips: the plain law StripsEnds.
-/
import Derived.Test.YtppgnpodkmacoaaDoorQ7
import Derived.Test.YtppgnpodkmacoaaDoorXG7
set_option linter.unusedSimpArgs false
set_option linter.unusedVariables false

namespace Go.Vm
namespace X
open W Go.Proofs.St
theorem lives16 : f8 fuel () = some true := by kernel_rfl
def bytes (L : List Int) : Prop := ∀ x ∈ L, 0 ≤ x ∧ x ≤ 255
def Valid (s : List Int × List Int) : Prop := s.1.length ≤ 32 ∧ s.1.length = s.2.length + 1 ∧ (∀ x ∈ s.1, 1 ≤ x ∧ x ≤ 64) ∧ ∀ x ∈ s.2, 1 ≤ x ∧ x ≤ 3
theorem f14_valid {a : List Int × List Int} (h : Valid a) : f14 fuel a = some 0 := by
  obtain ⟨h1, h2, h3, h4⟩ := h
  apply Ret.eq
  unfold f14
  refine Ret_dec (fun h => absurd h (by omega)) fun _ => ?_
  refine Ret_chk (i64b_t (by omega) (by omega)) ?_
  refine Ret_dec (fun h => absurd h (by omega)) fun _ => ?_
  refine Ret_loop (Inv := fun x : Int => 0 ≤ x ∧ x ≤ a.1.length) (m := fun x : Int => ((a.1.length : Int) - x).toNat) ?_ _ _ ⟨by omega, by omega⟩ (by unfold fuel; omega)
  intro x rec ⟨i1, i2⟩ ih
  refine Ret_dec (fun hlt => ?_) fun hge => ?_
  · have := h3 _ (getD_mem (i := x.toNat) (by omega))
    refine Ret_chk (inb_t i1 hlt) ?_
    refine Ret_dec (fun h => absurd h (by omega)) fun _ => Ret_dec (fun h => absurd h (by omega)) fun _ => Ret_chk (i64b_t (by omega) (by omega)) (ih _ ⟨by omega, by omega⟩ (by omega))
  · refine Ret_loop (Inv := fun x : Int => 0 ≤ x ∧ x ≤ a.2.length) (m := fun x : Int => ((a.2.length : Int) - x).toNat) ?_ _ _ ⟨by omega, by omega⟩ (by unfold fuel; omega)
    intro x rec ⟨i1, i2⟩ ih
    refine Ret_dec (fun hlt => ?_) fun hge => Ret_some rfl
    have := h4 _ (getD_mem (i := x.toNat) (by omega))
    refine Ret_chk (inb_t i1 hlt) ?_
    exact Ret_dec (fun h => absurd h (by omega)) fun _ => Ret_dec (fun h => absurd h (by omega)) fun _ => Ret_chk (i64b_t (by omega) (by omega)) (ih _ ⟨by omega, by omega⟩ (by omega))
theorem wrap_u8 {n : Int} (h1 : 0 ≤ n) (h2 : n ≤ 255) : IntKind.u8.wrap n = n := by
  simp [IntKind.wrap, IntKind.bits, IntKind.signed]; omega
def OfQ (s : List Int × List Int) : Prop := 1 ≤ s.1.length ∧ s.1.length ≤ 12 ∧ s.1.length = s.2.length + 1 ∧ (∀ x ∈ s.1, 1 ≤ x ∧ x ≤ 8) ∧ ∀ x ∈ s.2, 1 ≤ x ∧ x ≤ 3
theorem OfQ.valid {s : List Int × List Int} (h : OfQ s) : Valid s := ⟨by have := h.2.1; omega, h.2.2.1, fun x hx => by have := h.2.2.2.1 x hx; omega, h.2.2.2.2⟩
theorem mem_snoc {L : List Int} {a : Int} {P : Int → Prop} (h : ∀ x ∈ L, P x) (ha : P a) : ∀ x ∈ L ++ [a], P x := fun x hx => by
  rcases List.mem_append.1 hx with h1 | h1
  · exact h x h1
  · rw [List.mem_singleton.1 h1]; exact ha
theorem f9_ok {a : List Int × List Int} (h1 : bytes a.1) (h2 : bytes a.2) : Ret (f9 fuel a) OfQ := by
  unfold f9
  have fin : ∀ x : Int × (List Int × List Int), (0 ≤ x.1 ∧ x.1 ≤ 12 ∧ x.2.1.length = x.1.toNat ∧ x.2.2.length = x.1.toNat - 1 ∧ (∀ y ∈ x.2.1, 1 ≤ y ∧ y ≤ 8) ∧ ∀ y ∈ x.2.2, 1 ≤ y ∧ y ≤ 3) →
      Ret (bif (decide (((x.2.1.length : Nat) : Int) = 0)) then (some ([1], x.2.2)) else (some (x.2.1, x.2.2))) OfQ := by
    intro x ⟨i1, i2, i3, i4, i5, i6⟩
    refine Ret_dec (fun h => Ret_some ⟨by simp, by simp, ?_, by simp, i6⟩) fun h => Ret_some ⟨?_, ?_, ?_, i5, i6⟩
    · simp only [List.length_singleton]; omega
    all_goals (simp only; omega)
  refine Ret_loop (Inv := fun x => 0 ≤ x.1 ∧ x.1 ≤ 12 ∧ x.2.1.length = x.1.toNat ∧ x.2.2.length = x.1.toNat - 1 ∧ (∀ y ∈ x.2.1, 1 ≤ y ∧ y ≤ 8) ∧ ∀ y ∈ x.2.2, 1 ≤ y ∧ y ≤ 3) (m := fun x => (12 - x.1).toNat) ?_ _ _ ⟨by simp, by simp, by simp, by simp, by simp, by simp⟩ (by simp [fuel])
  intro x rec hi ih
  have hI := hi
  obtain ⟨i1, i2, i3, i4, i5, i6⟩ := hi
  refine Ret_dec (fun hlt => ?_) fun _ => fin x hI
  refine Ret_dec (fun h12 => ?_) fun _ => fin x hI
  have hb := h1 _ (getD_mem (i := x.1.toNat) (by omega))
  refine Ret_chk (inb_t i1 hlt) ?_
  refine Ret_chk (by rw [Bool.and_eq_true]; exact ⟨decide_eq_true (by omega), rfl⟩) ?_
  refine Ret_chk (i64b_t (by omega) (by omega)) ?_
  refine Ret_chk (i64b_t (by omega) (by omega)) ?_
  refine Ret_chk (lenOk_t (by omega)) ?_
  have e5 := mem_snoc i5 (a := 1 + (a.1.getD x.1.toNat 0) % 8) (P := fun y => 1 ≤ y ∧ y ≤ 8) (by omega)
  refine Ret_dec (fun hpos => ?_) fun hz => ?_
  · refine Ret_dec (fun hk => ?_) fun hk => ?_
    · refine Ret_chk (i64b_t (by omega) (by omega)) ?_
      refine Ret_chk (inb_t (by omega) (by omega)) ?_
      have hb2 := h2 _ (getD_mem (L := a.2) (i := (x.1 - 1).toNat) (by omega))
      refine Ret_chk (by rw [Bool.and_eq_true]; exact ⟨decide_eq_true (by omega), rfl⟩) ?_
      refine Ret_chk (lenOk_t (by omega)) ?_
      refine Ret_chk (i64b_t (by omega) (by omega)) ?_
      refine ih _ ⟨by simp only; omega, by simp only; omega, by simp only [List.length_append, List.length_singleton]; omega, by simp only [List.length_append, List.length_singleton]; omega, e5, mem_snoc i6 ?_⟩ (by simp only; omega)
      rw [wrap_u8 (by omega) (by omega)]; omega
    · refine Ret_chk (lenOk_t (by omega)) ?_
      refine Ret_chk (i64b_t (by omega) (by omega)) ?_
      exact ih _ ⟨by simp only; omega, by simp only; omega, by simp only [List.length_append, List.length_singleton]; omega, by simp only [List.length_append, List.length_singleton]; omega, e5, mem_snoc i6 (by omega)⟩ (by simp only; omega)
  · refine Ret_chk (i64b_t (by omega) (by omega)) ?_
    exact ih _ ⟨by simp only; omega, by simp only; omega, by simp only [List.length_append, List.length_singleton]; omega, by simp only; omega, e5, i6⟩ (by simp only; omega)
theorem okL_valid {s : List Int × List Int} (h : Valid s) : okL s.1 = true := by
  obtain ⟨h1, h2, h3, _⟩ := h
  unfold okL
  simp only [Bool.and_eq_true, ble_dec, decide_eq_true_eq]
  exact ⟨⟨List.all_eq_true.2 fun x hx => by simpa using h3 x hx, by omega⟩, h1⟩
theorem f15_valid {s : List Int × List Int} (h : Valid s) : f15 fuel s = some (endsL s.1, 0) := by
  unfold f15 endsR
  rw [f14_valid h]
  simp only [decide_true, cond_true, okL_valid h]
theorem endsL_len (L : List Int) : (endsL L).length = L.length + 1 := by simp [endsL]
theorem endsL_getD {L : List Int} {i : Nat} (h : i ≤ L.length) : (endsL L).getD i 0 = eAt L i := by
  unfold endsL
  rw [List.getD, List.getElem?_map, List.getElem?_range (by omega)]
  rfl
def lo (E : List Int) : Nat → Int
  | 0 => E.getD 0 0
  | k + 1 => min (lo E k) (E.getD (k + 1) 0)
def hi (E : List Int) : Nat → Int
  | 0 => E.getD 0 0
  | k + 1 => max (hi E k) (E.getD (k + 1) 0)
theorem f34_ok {E : List Int} (h1 : 1 ≤ E.length) (h2 : E.length ≤ 100) : f34 fuel E = some (lo E (E.length - 1)) := by
  apply Ret.eq
  unfold f34
  refine Ret_dec (fun h => absurd h (by omega)) fun _ => Ret_chk (inb_t (by omega) (by omega)) ?_
  refine Ret_loop (Inv := fun x : Int × Int => 1 ≤ x.2 ∧ x.2 ≤ E.length ∧ x.1 = lo E (x.2.toNat - 1)) (m := fun x : Int × Int => ((E.length : Int) - x.2).toNat) ?_ _ _ ⟨by simp, by simp only; omega, rfl⟩ (by simp only [fuel]; omega)
  rintro ⟨m, i⟩ rec ⟨i1, i2, i3⟩ ih
  simp only at i1 i2 i3
  refine Ret_dec (fun hlt => ?_) fun hge => Ret_some ?_
  · refine Ret_chk (inb_t (by omega) hlt) (Ret_chk (i64b_t (by omega) (by omega)) (ih _ ⟨by simp only; omega, by simp only; omega, ?_⟩ (by simp only; omega)))
    simp only
    rw [show (i + 1).toNat - 1 = (i.toNat - 1) + 1 by omega, lo, ← i3, show i.toNat - 1 + 1 = i.toNat by omega]
  · simp only at hge ⊢
    rw [i3]
    congr 1
    omega
theorem f35_ok {E : List Int} (h1 : 1 ≤ E.length) (h2 : E.length ≤ 100) : f35 fuel E = some (hi E (E.length - 1)) := by
  apply Ret.eq
  unfold f35
  refine Ret_dec (fun h => absurd h (by omega)) fun _ => Ret_chk (inb_t (by omega) (by omega)) ?_
  refine Ret_loop (Inv := fun x : Int × Int => 1 ≤ x.2 ∧ x.2 ≤ E.length ∧ x.1 = hi E (x.2.toNat - 1)) (m := fun x : Int × Int => ((E.length : Int) - x.2).toNat) ?_ _ _ ⟨by simp, by simp only; omega, rfl⟩ (by simp only [fuel]; omega)
  rintro ⟨m, i⟩ rec ⟨i1, i2, i3⟩ ih
  simp only at i1 i2 i3
  refine Ret_dec (fun hlt => ?_) fun hge => Ret_some ?_
  · refine Ret_chk (inb_t (by omega) hlt) (Ret_chk (i64b_t (by omega) (by omega)) (ih _ ⟨by simp only; omega, by simp only; omega, ?_⟩ (by simp only; omega)))
    simp only
    rw [show (i + 1).toNat - 1 = (i.toNat - 1) + 1 by omega, hi, ← i3, show i.toNat - 1 + 1 = i.toNat by omega]
  · simp only at hge ⊢
    rw [i3]
    congr 1
    omega
theorem f16_valid {s : List Int × List Int} (h : Valid s) : f16 fuel s = some (lo (endsL s.1) s.1.length, (hi (endsL s.1) s.1.length, 0)) := by
  have h1 := h.1
  unfold f16
  rw [show (s.1, s.2) = s from rfl, f15_valid h]
  simp only [Option.bind_some, ne_eq, not_true_eq_false, decide_false, cond_false]
  rw [f34_ok (by rw [endsL_len]; omega) (by rw [endsL_len]; omega), f35_ok (by rw [endsL_len]; omega) (by rw [endsL_len]; omega)]
  simp only [Option.bind_some, endsL_len, Nat.add_sub_cancel]
end X
end Go.Vm
namespace Go.Vm
namespace X
open W Go.Proofs.St
theorem f4_true {a : List Int × List Int} (h1 : bytes a.1) (h2 : bytes a.2) : f4 fuel a = some true := by
  apply Ret.eq
  unfold f4
  refine Ret_bind (f9_ok (a := (a.1, a.2)) h1 h2) fun s hs => ?_
  have hv := hs.valid
  refine Ret_bind (Ret.of (f15_valid hv)) fun r2 e2 => ?_
  subst e2
  refine Ret_bind (Ret.of (f16_valid hv)) fun r3 e3 => ?_
  subst e3
  obtain ⟨k1, k2, k3, k4, k5⟩ := hs
  have hL : ∀ x ∈ s.1, 1 ≤ x ∧ x ≤ 64 := hv.2.2.1
  simp only
  have elen := endsL_len s.1
  have eg : ∀ i : Nat, i ≤ s.1.length → (endsL s.1).getD i 0 = eAt s.1 i := fun i hi => endsL_getD hi
  have e0 : (endsL s.1).getD 0 0 = 0 := by rw [eg 0 (by omega)]; rfl
  refine Ret_dec (fun h => absurd rfl h) fun _ => Ret_dec (fun h => absurd rfl h) fun _ => ?_
  refine Ret_chk (i64b_t (by omega) (by omega)) ?_
  refine Ret_dec (fun h => absurd h (by omega)) fun _ => Ret_dec (fun h => absurd rfl h) fun _ => ?_
  refine Ret_chk (inb_t (by omega) (by omega)) ?_
  refine Ret_dec (fun h => absurd e0 h) fun _ => ?_
  refine Ret_loop (Inv := fun x : Int × (Int × Int) => 0 ≤ x.2.2 ∧ x.2.2 ≤ s.1.length ∧ x.1 = lo (endsL s.1) x.2.2.toNat ∧ x.2.1 = hi (endsL s.1) x.2.2.toNat) (m := fun x : Int × (Int × Int) => ((s.1.length : Int) - x.2.2).toNat) ?_ _ _ ⟨by simp, by simp only; omega, e0.symm, e0.symm⟩ (by simp only [fuel]; omega)
  rintro ⟨l, g, i⟩ rec ⟨i1, i2, i3, i4⟩ ih
  simp only at i1 i2 i3 i4
  refine Ret_dec (fun hlt => ?_) fun hge => ?_
  · simp only at hlt
    obtain ⟨n, rfl⟩ := Int.eq_ofNat_of_zero_le i1
    simp only [Int.toNat_natCast] at i3 i4
    have et : ((n : Int) + 1).toNat = n + 1 := by omega
    have hm := hL _ (getD_mem (L := s.1) (i := n) (by omega))
    have b0 := eAt_bd hL n (by omega)
    have b1 := eAt_bd hL (n + 1) (by omega)
    have g0 := eg n (by omega)
    have g1 := eg (n + 1) (by omega)
    have step : eAt s.1 (n + 1) = eAt s.1 n + s.1.getD n 0 * (1 - 2 * ((n : Int) % 2)) := rfl
    have nxt : Ret (chk (i64b ((n : Int) + 1)) (chk (inb ((n : Int) + 1) (endsL s.1).length) (chk (i64b ((n : Int) + 1)) (chk (inb ((n : Int) + 1) (endsL s.1).length) (chk (i64b ((n : Int) + 1)) (rec ((min l ((endsL s.1).getD ((n : Int) + 1).toNat 0)), ((max g ((endsL s.1).getD ((n : Int) + 1).toNat 0)), ((n : Int) + 1))))))))) fun x => x = true := by
      refine Ret_chk (i64b_t (by omega) (by omega)) (Ret_chk (inb_t (by omega) (by omega)) (Ret_chk (i64b_t (by omega) (by omega)) (Ret_chk (inb_t (by omega) (by omega)) (Ret_chk (i64b_t (by omega) (by omega)) (ih _ ⟨by simp only; omega, by simp only; omega, ?_, ?_⟩ (by simp only; omega))))))
      · simp only [et]; rw [i3]; rfl
      · simp only [et]; rw [i4]; rfl
    simp only [et, Int.toNat_natCast, g0, g1]
    refine Ret_chk (i64b_t (by omega) (by omega)) (Ret_chk (inb_t (by omega) (by omega)) (Ret_chk (inb_t (by omega) (by omega)) ?_))
    refine Ret_chk (i64b_t (by omega) (by omega)) ?_
    refine Ret_chk (by rw [Bool.and_eq_true]; exact ⟨decide_eq_true (by omega), rfl⟩) ?_
    simp only [et, g1] at nxt
    refine Ret_dec (fun hodd => ?_) fun hev => ?_
    · rw [hodd] at step
      refine Ret_chk (i64b_t (by omega) (by omega)) (Ret_chk (inb_t (by omega) (by omega)) ?_)
      exact Ret_dec (fun h => absurd h (by omega)) fun _ => nxt
    · rw [show (n : Int) % 2 = 0 by omega] at step
      refine Ret_chk (inb_t (by omega) (by omega)) ?_
      exact Ret_dec (fun h => absurd h (by omega)) fun _ => nxt
  · simp only at hge
    have en : i.toNat = s.1.length := by omega
    rw [en] at i3 i4
    refine Ret_dec (fun _ => ?_) fun h => absurd i3.symm h
    refine Ret_dec (fun _ => ?_) fun h => absurd i4.symm h
    exact Ret_bind (Ret.of lives16) fun r e => Ret_some e
end X
end Go.Vm
