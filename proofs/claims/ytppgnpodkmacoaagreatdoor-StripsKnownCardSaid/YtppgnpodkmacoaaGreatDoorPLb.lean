/-
  strconv.Itoa: plain law: it answers for every number.
  Words: a text is cut at its spaces, and put together again.
  Strips: plain laws of Text and Parse; the law StripsText.
-/
import Derived.Test.YtppgnpodkmacoaaGreatDoorQ7
import Derived.Test.YtppgnpodkmacoaaGreatDoorXG7
import Derived.KernelRfl
import Derived.Lib.SplitLaws
import Derived.Lib.Join
import Derived.Test.YtppgnpodkmacoaaGreatDoorPLa
set_option linter.unusedSimpArgs false
set_option linter.unusedVariables false

namespace Go.Vm
namespace X
open W
theorem w32 (n : Int) : IntKind.u32.wrap n = n % 4294967296 := by simp [IntKind.wrap, IntKind.bits, IntKind.signed]
theorem w64 (n : Int) : IntKind.u64.wrap n = n % 18446744073709551616 := by simp [IntKind.wrap, IntKind.bits, IntKind.signed]
theorem w8 (n : Int) : IntKind.u8.wrap n = n % 256 := by simp [IntKind.wrap, IntKind.bits, IntKind.signed]
theorem tens_le (i : Nat) : tens.getD i 0 ≤ 57 := by
  by_cases h : i < 200
  · have : (List.range 200).all (fun i => (tens.getD i 0).ble 57) = true := by kernel_rfl
    have := List.all_eq_true.1 this i (List.mem_range.2 h)
    simpa [ble_dec] using this
  · have hl : tens.length = 200 := by kernel_rfl
    rw [List.getD, List.getElem?_eq_none (by omega)]; simp
def Buf (l : List Int) : Prop := l.length = 24 ∧ ∀ x ∈ l, 0 ≤ x ∧ x ≤ 255
theorem Buf.set {l : List Int} {i : Nat} {v : Int} (h : Buf l) (h1 : 0 ≤ v) (h2 : v ≤ 255) : Buf (l.set i v) := by
  refine ⟨by rw [List.length_set]; exact h.1, fun x hx => ?_⟩
  rcases List.mem_or_eq_of_mem_set hx with h3 | h3
  · exact h.2 x h3
  · rw [h3]; exact ⟨h1, h2⟩
theorem Buf.tens {l : List Int} {i j : Nat} (h : Buf l) : Buf (l.set i ((X.tens.getD j 0 : Nat) : Int)) := by
  have := tens_le j
  exact h.set (by omega) (by omega)
theorem Buf.b8 {l : List Int} {i : Nat} {n : Int} (h : Buf l) : Buf (l.set i (n % 256)) := h.set (by omega) (by omega)
theorem Buf.all {l : List Int} (h : Buf l) (m o : Nat) : ((List.take m (List.drop o l)).all fun x => decide (0 ≤ x) && decide (x ≤ 255)) = true := by
  rw [List.all_eq_true]
  intro x hx
  have := h.2 x (List.mem_of_mem_drop (List.mem_of_mem_take hx))
  simpa using this
theorem Buf.len {l : List Int} (h : Buf l) (m o : Nat) : ((List.take m (List.drop o l)).map Int.toNat).length ≤ 24 := by
  have := h.1
  simp only [List.length_map, List.length_take, List.length_drop]
  omega
theorem Ret_take {l : List Int} {m o : Nat} (h : Buf l) : Ret (chk ((List.take m (List.drop o l)).all fun x => decide (0 ≤ x) && decide (x ≤ 255)) (some ((List.take m (List.drop o l)).map Int.toNat))) fun s => s.length ≤ 24 :=
  Ret_chk (h.all m o) (Ret_some (h.len m o))
theorem numDigits_ok {x : Int} (h1 : 0 ≤ x) (h2 : x ≤ 18446744073709551615) : Ret (istrconv_numDigits fuel x) fun r => 0 ≤ r ∧ r ≤ 20 := by
  unfold istrconv_numDigits
  have e1 : math_bits_Len64 fuel x = some ((Lib.bitLen x.toNat : Nat) : Int) := by
    unfold math_bits_Len64 len64R; rw [decide_eq_true ⟨h1, h2⟩]; rfl
  have b1 := bitLen_le x.toNat
  refine Ret_bind (Ret.of e1) fun r e => ?_
  subst e
  have e2 : istrconv_log10Pow2 fuel ((Lib.bitLen x.toNat : Nat) : Int) = some ((Lib.l10 (Lib.bitLen x.toNat) : Nat) : Int) := by
    unfold istrconv_log10Pow2 log10R; rw [decide_eq_true (by omega)]; rfl
  have b2 := l10_le _ b1
  refine Ret_bind (Ret.of e2) fun r e => ?_
  subst e
  refine Ret_chk (inb_t (by omega) (by omega)) (Ret_dec (fun _ => ?_) fun _ => ?_)
  · exact Ret_chk (i64b_t (by omega) (by omega)) (Ret_some (by omega))
  · exact Ret_chk (i64b_t (by omega) (by omega)) (Ret_some (by omega))
theorem itoa_total {a : Int} (h1 : -9223372036854775808 ≤ a) (h2 : a ≤ 9223372036854775807) : Ret (strconv_Itoa fuel a) fun s => s.length ≤ 24 := by
  have small : ∀ {x y : Option (List Nat)}, (∀ k : Nat, k < 100 → a = k → Ret (bif decide (a < 10) then x else y) fun s => s.length ≤ 24) → 0 ≤ a → a < 100 → Ret (bif decide (a < 10) then x else y) fun s => s.length ≤ 24 := fun h k1 k2 => h a.toNat (by omega) (by omega)
  unfold strconv_Itoa
  simp only [w32, w64, w8]
  refine Ret_dec (fun hp => Ret_dec (fun hs => ?_) fun hs => ?_) fun hn => ?_
  · refine Ret_dec (fun h => ?_) fun h => ?_
    · refine Ret_chk (i64b_t (by omega) (by omega)) (Ret_chk (bnb_iff.2 ⟨by omega, by omega, by omega⟩) (Ret_some ?_))
      simp only [List.length_take, List.length_drop]; omega
    · refine Ret_chk (i64b_t (by omega) (by omega)) (Ret_chk (i64b_t (by omega) (by omega)) (Ret_chk (i64b_t (by omega) (by omega)) (Ret_chk (bnb_iff.2 ⟨by omega, by omega, by omega⟩) (Ret_some ?_))))
      simp only [List.length_take, List.length_drop]; omega
  all_goals
    refine Ret_jn (fun x => 0 ≤ x ∧ x ≤ 18446744073709551615) (fun x1 hx1 => ?_) fun j hj => Ret_dec (fun _ => hj _ (by omega)) fun _ => hj _ (by omega)
    refine Ret_bind (numDigits_ok hx1.1 hx1.2) fun r2 hr => ?_
    obtain ⟨r0, r20⟩ := hr
    refine Ret_chk (i64b_t (by omega) (by omega)) (Ret_chk (bnb_iff.2 ⟨by omega, by omega, by omega⟩) ?_)
    refine Ret_loop (Inv := fun x : Int × (Int × (List Int)) => 0 ≤ x.1 ∧ x.1 ≤ 18446744073709551615 ∧ 0 ≤ x.2.1 ∧ x.2.1 ≤ r2 ∧ Buf x.2.2) (m := fun x => x.2.1.toNat) ?_ _ _ ⟨hx1.1, hx1.2, by simp only; omega, by simp only; omega, by simp [Buf]⟩ (by simp only [fuel]; omega)
    rintro ⟨u, i, l⟩ rec ⟨i1, i2, i3, i4, hb⟩ ih
    simp only at i1 i2 i3 i4 hb ⊢
    refine Ret_dec (fun h8 => ?_) fun h8 => ?_
    · repeat (refine Ret_chk (by first | exact i64b_t (by omega) (by omega) | exact inb_t (by omega) (by omega) | exact bnb_iff.2 ⟨by omega, by omega, by omega⟩ | (simp only [Bool.and_eq_true, decide_eq_true_eq]; omega)) ?_)
      exact ih _ ⟨by simp only; omega, by simp only; omega, by simp only; omega, by simp only; omega, by
        simp only
        repeat (first | exact hb | apply Buf.tens)⟩ (by simp only; omega)
    · refine Ret_jn (fun x => 0 ≤ x.1 ∧ x.1 ≤ 3 ∧ x.1 ≤ r2 ∧ 0 ≤ x.2.1 ∧ x.2.1 ≤ 4294967295 ∧ Buf x.2.2) (fun x4 hx4 => ?_) fun j hj => ?_
      · obtain ⟨i', u', l'⟩ := x4
        obtain ⟨k1, k2, k3, k4, k5, hb'⟩ := hx4
        simp only at k1 k2 k3 k4 k5 hb' ⊢
        have fin : ∀ m o : Nat, ∀ l2 : List Int, Buf l2 → Ret (chk ((List.take m (List.drop o l2)).all fun x => decide (0 ≤ x) && decide (x ≤ 255)) (some ((List.take m (List.drop o l2)).map Int.toNat))) fun s => s.length ≤ 24 := fun m o l2 h => Ret_take h
        repeat' (first | refine fin _ _ _ ?_ | (refine Ret_chk (by first | exact i64b_t (by omega) (by omega) | exact inb_t (by omega) (by omega) | exact bnb_iff.2 ⟨by omega, by omega, by omega⟩ | (simp only [Bool.and_eq_true, decide_eq_true_eq]; omega)) ?_) | refine Ret_dec (fun _ => ?_) fun _ => ?_)
        all_goals repeat (first | exact hb' | apply Buf.tens | apply Buf.b8 | refine Buf.set ?_ (by decide) (by decide))
      · have hu4 : 0 ≤ u % 4294967296 ∧ u % 4294967296 ≤ 4294967295 := by omega
        obtain ⟨g1, g2⟩ := hu4
        generalize u % 4294967296 = uu at g1 g2 ⊢
        refine Ret_dec (fun h4 => ?_) fun h4 => ?_
        · repeat (refine Ret_chk (by first | exact i64b_t (by omega) (by omega) | exact inb_t (by omega) (by omega) | exact bnb_iff.2 ⟨by omega, by omega, by omega⟩ | (simp only [Bool.and_eq_true, decide_eq_true_eq]; omega)) ?_)
          refine hj _ ⟨?_, ?_, ?_, ?_, ?_, ?_⟩ <;> (try simp only) <;> (try omega)
          repeat (first | exact hb | apply Buf.tens)
        · exact hj _ ⟨by simp only; omega, by simp only; omega, by simp only; omega, by simp only; omega, by simp only; omega, hb⟩
end X
end Go.Vm
namespace Go.Vm
namespace X
open W
def splB (c : UInt8) : List UInt8 → List (List UInt8)
  | [] => [[]]
  | b :: l => if b = c then [] :: splB c l else match splB c l with
    | w :: ws => (b :: w) :: ws
    | [] => [[b]]
theorem index_ne {b c : UInt8} {l : List UInt8} (h : b ≠ c) : Lib.index (b :: l) [c] = if Lib.index l [c] == -1 then -1 else Lib.index l [c] + 1 := by
  rw [Lib.index]
  have : ([c] : List UInt8).isPrefixOf (b :: l) = false := by simp [List.isPrefixOf]; exact fun e => h e.symm
  rw [this]; simp
theorem index_self {c : UInt8} {l : List UInt8} : Lib.index (c :: l) [c] = 0 := by
  rw [Lib.index]
  simp [List.isPrefixOf]
theorem splitK_ne {b c : UInt8} {l : List UInt8} (h : b ≠ c) : ∀ k, ∃ w ws, Lib.splitK [c] 0 k l = w :: ws ∧ Lib.splitK [c] 0 k (b :: l) = (b :: w) :: ws
  | 0 => ⟨l, [], rfl, rfl⟩
  | k + 1 => by
    unfold Lib.splitK
    rw [index_ne h]
    by_cases h1 : Lib.index l [c] = -1
    · simp only [h1]
      exact ⟨l, [], by simp, by simp⟩
    · have hge := Lib.index_ge l [c]
      have e1 : (Lib.index l [c] == -1) = false := by simpa using h1
      have e2 : (Lib.index l [c] + 1 == -1) = false := by simp; omega
      simp only [e1, e2, Bool.false_eq_true, if_false]
      obtain ⟨j, hj⟩ := Int.eq_ofNat_of_zero_le (show 0 ≤ Lib.index l [c] by omega)
      rw [hj]
      refine ⟨_, _, rfl, ?_⟩
      have e3 : ((j : Int) + 1).toNat = j + 1 := by omega
      simp only [e3, Int.toNat_natCast, Nat.add_zero, List.take_succ_cons, List.length_singleton, List.drop_succ_cons]
theorem split_spl (c : UInt8) : ∀ s : List UInt8, Lib.split s [c] = splB c s
  | [] => by
    unfold Lib.split
    rw [Lib.count_one]
    rfl
  | b :: l => by
    have ih := split_spl c l
    unfold Lib.split at ih ⊢
    by_cases h : b = c
    · subst h
      rw [Lib.count_cons_eq, Nat.add_comm]
      unfold Lib.splitK
      rw [index_self]
      simp only [splB, if_true]
      rw [← ih]
      simp
    · rw [Lib.count_cons_ne _ _ _ h]
      obtain ⟨w, ws, e1, e2⟩ := splitK_ne h (Lib.count l [c])
      rw [e2]
      simp only [splB, h, if_false]
      rw [← ih, e1]
theorem splB_ne {c : UInt8} : ∀ s : List UInt8, splB c s ≠ []
  | [] => by simp [splB]
  | b :: l => by
    unfold splB
    split
    · simp
    · split <;> simp
theorem join_spl (c : UInt8) : ∀ s : List UInt8, Lib.join (splB c s) [c] = s
  | [] => by simp [splB, Lib.join_one]
  | b :: l => by
    have ih := join_spl c l
    have hne := splB_ne (c := c) l
    unfold splB
    by_cases h : b = c
    · rw [if_pos h]
      cases hs : splB c l with
      | nil => exact absurd hs hne
      | cons w ws =>
        rw [hs, Lib.join_cons] at ih
        rw [Lib.join_cons, h]
        simp only [Lib.joinTail, List.map_cons, List.flatten_cons, List.nil_append, List.singleton_append, List.cons_append] at ih ⊢
        rw [ih]
    · rw [if_neg h]
      cases hs : splB c l with
      | nil => exact absurd hs hne
      | cons w ws =>
        rw [hs, Lib.join_cons] at ih
        rw [Lib.join_cons]
        simp only [List.cons_append]
        rw [ih]
theorem spl_app {c : UInt8} {r : List UInt8} {v : List UInt8} {vs : List (List UInt8)} (hr : splB c r = v :: vs) : ∀ {w : List UInt8}, c ∉ w → splB c (w ++ r) = (w ++ v) :: vs
  | [], _ => hr
  | b :: w, h => by
    have hb : b ≠ c := fun e => h (by rw [e]; exact List.mem_cons_self ..)
    rw [List.cons_append]
    unfold splB
    rw [if_neg hb, spl_app hr (fun hm => h (List.mem_cons_of_mem _ hm))]
    rfl
theorem spl_join {c : UInt8} : ∀ {w : List UInt8} {ws : List (List UInt8)}, (∀ x ∈ w :: ws, c ∉ x) → splB c (Lib.join (w :: ws) [c]) = w :: ws
  | w, [], h => by
    rw [Lib.join_one]
    have := spl_app (c := c) (r := []) (v := []) (vs := []) rfl (h w (List.mem_cons_self ..))
    simpa using this
  | w, w' :: ws, h => by
    have ih := spl_join (c := c) (w := w') (ws := ws) fun x hx => h x (List.mem_cons_of_mem _ hx)
    have e : Lib.join (w :: w' :: ws) [c] = w ++ (c :: Lib.join (w' :: ws) [c]) := by
      rw [Lib.join_cons, Lib.join_cons]
      simp [Lib.joinTail]
    rw [e]
    have := spl_app (c := c) (r := c :: Lib.join (w' :: ws) [c]) (v := []) (vs := splB c (Lib.join (w' :: ws) [c])) (by rw [splB, if_pos rfl]) (h w (List.mem_cons_self ..))
    rw [this, ih]; simp
theorem u8_back {w : List Nat} (h : ∀ x ∈ w, x < 256) : (u8 w).map UInt8.toNat = w := by
  unfold u8
  rw [List.map_map]
  conv => rhs; rw [← List.map_id w]
  refine List.map_congr_left fun x hx => ?_
  have := h x hx
  simp [Function.comp, UInt8.toNat_ofNat, Nat.mod_eq_of_lt this]
theorem back_u8 (w : List UInt8) : u8 (w.map UInt8.toNat) = w := by
  unfold u8
  rw [List.map_map]
  conv => rhs; rw [← List.map_id w]
  exact List.map_congr_left fun x hx => by simp [Function.comp]
theorem words_join {s : List Nat} (h : ∀ x ∈ s, x < 256) : joinS (words s [32]) [32] = s := by
  unfold joinS words
  rw [List.map_map, show (u8 ∘ fun w : List UInt8 => w.map UInt8.toNat) = id from funext fun w => back_u8 w, List.map_id, show u8 [32] = [32] from rfl, split_spl, join_spl, u8_back h]
theorem join_words {w : List Nat} {ws : List (List Nat)} (h : ∀ x ∈ w :: ws, (∀ y ∈ x, y < 256 ∧ y ≠ 32)) : words (joinS (w :: ws) [32]) [32] = w :: ws := by
  unfold joinS words
  rw [back_u8, show u8 [32] = [32] from rfl, split_spl, List.map_cons, spl_join, ← List.map_cons (f := u8), List.map_map]
  · conv => rhs; rw [← List.map_id (w :: ws)]
    exact List.map_congr_left fun x hx => u8_back fun y hy => (h x hx y hy).1
  · intro x hx hm
    rw [← List.map_cons] at hx
    obtain ⟨x', hx', rfl⟩ := List.mem_map.1 hx
    obtain ⟨y, hy, e⟩ := List.mem_map.1 hm
    have := h x' hx' y hy
    have e2 : y = 32 := by
      have := congrArg UInt8.toNat e
      simpa [UInt8.toNat_ofNat, Nat.mod_eq_of_lt (h x' hx' y hy).1] using this
    exact this.2 e2
theorem words_ne {s : List Nat} : words s [32] ≠ [] := by
  unfold words
  rw [show u8 [32] = [32] from rfl, split_spl]
  intro h
  exact splB_ne _ (List.map_eq_nil_iff.1 h)
theorem splB_len {c : UInt8} : ∀ s : List UInt8, (splB c s).length ≤ s.length + 1 ∧ ∀ w ∈ splB c s, w.length ≤ s.length
  | [] => by simp [splB]
  | b :: l => by
    obtain ⟨h1, h2⟩ := splB_len (c := c) l
    unfold splB
    split
    · refine ⟨by simp; omega, fun w hw => ?_⟩
      rcases List.mem_cons.1 hw with rfl | hw
      · simp
      · have := h2 w hw; simp; omega
    · split
      · rename_i w ws e
        rw [e] at h1 h2
        refine ⟨by simp at h1 ⊢; omega, fun x hx => ?_⟩
        rcases List.mem_cons.1 hx with rfl | hx
        · have := h2 w (List.mem_cons_self ..); simpa using this
        · have := h2 x (List.mem_cons_of_mem _ hx); simp; omega
      · refine ⟨by simp, fun x hx => ?_⟩
        rw [List.mem_singleton.1 hx]; simp
theorem words_len (s : List Nat) : (words s [32]).length ≤ s.length + 1 ∧ ∀ w ∈ words s [32], w.length ≤ s.length := by
  obtain ⟨h1, h2⟩ := splB_len (c := 32) (u8 s)
  unfold words
  rw [show u8 [32] = [32] from rfl, split_spl]
  refine ⟨by simpa [u8] using h1, fun w hw => ?_⟩
  obtain ⟨w', hw', rfl⟩ := List.mem_map.1 hw
  simpa [u8] using h2 w' hw'
theorem atoi_bd {l : List UInt8} {v : Int} (h : Lib.atoiAll l = .ok v) : -9223372036854775808 ≤ v ∧ v ≤ 9223372036854775807 := by
  unfold Lib.atoiAll at h
  split at h
  · cases h
  · simp only at h
    split at h
    · cases h
    · cases h
    · split at h
      · cases h
      · split at h
        · cases h
        · cases h
          split <;> omega
end X
end Go.Vm
namespace Go.Vm
namespace X
open W Go.Proofs.St
def it (n : Int) : List Nat := (strconv_Itoa fuel n).getD []
def lt (k : Int) : List Nat := ([[], [109], [118], [97]] : List (List Nat)).getD k.toNat []
theorem it_ok {n : Int} (h1 : 1 ≤ n) (h2 : n ≤ 64) : strconv_Itoa fuel n = some (it n) ∧ (it n).length ≤ 2 ∧ ∀ y ∈ it n, y < 256 ∧ y ≠ 32 := by
  have : ((List.range 65).all fun k => k.beq 0 || (match strconv_Itoa fuel (k : Int) with | some s => s.length.ble 2 && s.all (fun y => Nat.ble 33 y && y.ble 255) | _ => false)) = true := by kernel_rfl
  have := List.all_eq_true.1 this n.toNat (List.mem_range.2 (by omega))
  rw [Bool.or_eq_true, show ((n.toNat : Nat) : Int) = n by omega] at this
  rcases this with h0 | h0
  · rw [beq_dec, decide_eq_true_eq] at h0; omega
  · unfold it
    split at h0
    · rename_i s e
      rw [e]
      simp only [Bool.and_eq_true, ble_dec, decide_eq_true_eq, List.all_eq_true] at h0
      exact ⟨rfl, h0.1, fun y hy => by have := h0.2 y hy; omega⟩
    · cases h0
theorem atoi_it {n : Int} (h1 : 1 ≤ n) (h2 : n ≤ 64) : strconv_Atoi fuel (it n) = some (n, true) := by
  have : ((List.range 65).all fun k => k.beq 0 || (match strconv_Atoi fuel (it (k : Int)) with | some (v, true) => ieq v k | _ => false)) = true := by kernel_rfl
  have := List.all_eq_true.1 this n.toNat (List.mem_range.2 (by omega))
  rw [Bool.or_eq_true, show ((n.toNat : Nat) : Int) = n by omega] at this
  rcases this with h0 | h0
  · rw [beq_dec, decide_eq_true_eq] at h0; omega
  · split at h0
    · rename_i v e
      rw [ieq_dec, decide_eq_true_eq] at h0
      rw [e, h0]
    · cases h0
theorem lt_ok {k : Int} (h1 : 1 ≤ k) (h2 : k ≤ 3) : (lt k).length ≤ 2 ∧ (∀ y ∈ lt k, y < 256 ∧ y ≠ 32) ∧ slices_Index_string fuel ([[], [109], [118], [97]], lt k) = some k := by
  rcases (by omega : k = 1 ∨ k = 2 ∨ k = 3) with rfl | rfl | rfl
  · exact ⟨by simp [lt], by simp [lt], by kernel_rfl⟩
  · exact ⟨by simp [lt], by simp [lt], by kernel_rfl⟩
  · exact ⟨by simp [lt], by simp [lt], by kernel_rfl⟩
theorem index_letters {w : List Nat} : Ret (slices_Index_string fuel ([[], [109], [118], [97]], w)) fun r => r < 1 ∨ (1 ≤ r ∧ r ≤ 3 ∧ lt r = w) := by
  unfold slices_Index_string
  refine Ret_loop (Inv := fun x : Int => 0 ≤ x ∧ x ≤ 4) (m := fun x : Int => (4 - x).toNat) ?_ _ _ ⟨by omega, by omega⟩ (by unfold fuel; omega)
  intro x rec ⟨i1, i2⟩ ih
  simp only [List.length_cons, List.length_nil]
  refine Ret_dec (fun hlt => ?_) fun _ => Ret_some (.inl (by omega))
  refine Ret_chk (inb_t i1 (by omega)) (Ret_dec (fun he => Ret_some ?_) fun _ => Ret_chk (i64b_t (by omega) (by omega)) (ih _ ⟨by omega, by omega⟩ (by omega)))
  by_cases h0 : x < 1
  · exact .inl h0
  · exact .inr ⟨by omega, by omega, he.symm⟩
def Wd (a : List Int × List Int) (m : Nat) : List (List Nat) := (List.range m).map fun j => if j % 2 = 0 then it (a.1.getD (j / 2) 0) else lt (a.2.getD (j / 2) 0)
theorem Wd_succ {a : List Int × List Int} {m : Nat} : Wd a (m + 1) = Wd a m ++ [if m % 2 = 0 then it (a.1.getD (m / 2) 0) else lt (a.2.getD (m / 2) 0)] := by
  unfold Wd; rw [List.range_succ, List.map_append]; rfl
theorem Wd_len {a : List Int × List Int} {m : Nat} : (Wd a m).length = m := by simp [Wd]
theorem Wd_get {a : List Int × List Int} {m j : Nat} (h : j < m) : (Wd a m).getD j [] = if j % 2 = 0 then it (a.1.getD (j / 2) 0) else lt (a.2.getD (j / 2) 0) := by
  unfold Wd
  rw [List.getD, List.getElem?_map, List.getElem?_range h]; rfl
theorem Wd_all {a : List Int × List Int} (h : Valid a) {m : Nat} (hm : m ≤ 2 * a.1.length - 1) : ∀ x ∈ Wd a m, x.length ≤ 2 ∧ ∀ y ∈ x, y < 256 ∧ y ≠ 32 := by
  obtain ⟨h1, h2, h3, h4⟩ := h
  intro x hx
  obtain ⟨j, hj, rfl⟩ := List.mem_map.1 hx
  have hj := List.mem_range.1 hj
  by_cases hp : j % 2 = 0
  · rw [if_pos hp]
    have := h3 _ (getD_mem (L := a.1) (i := j / 2) (by omega))
    exact (it_ok this.1 this.2).2
  · rw [if_neg hp]
    have := h4 _ (getD_mem (L := a.2) (i := j / 2) (by omega))
    obtain ⟨k1, k2, _⟩ := lt_ok this.1 this.2
    exact ⟨k1, k2⟩
theorem text_spec {a : List Int × List Int} (h : Valid a) : strips_Text fuel a = some (joinS (Wd a (2 * a.1.length - 1)) [32]) := by
  have hV := h
  obtain ⟨h1, h2, h3, h4⟩ := h
  apply Ret.eq
  unfold strips_Text
  refine Ret_bind (Ret.of (strips_Check_valid hV)) fun r e => ?_
  subst e
  refine Ret_dec (fun h => absurd rfl h) fun _ => ?_
  refine Ret_loop (Inv := fun x : (List (List Nat)) × Int => 0 ≤ x.2 ∧ x.2 ≤ a.1.length ∧ x.1 = Wd a (2 * x.2.toNat - 1)) (m := fun x => ((a.1.length : Int) - x.2).toNat) ?_ _ _ ⟨by simp, by simp, rfl⟩ (by simp only [fuel]; omega)
  rintro ⟨l, i⟩ rec ⟨i1, i2, i3⟩ ih
  simp only at i1 i2 i3 ⊢
  have hll : l.length = 2 * i.toNat - 1 := by rw [i3, Wd_len]
  refine Ret_dec (fun hlt => ?_) fun hge => ?_
  · have hx := h3 _ (getD_mem (L := a.1) (i := i.toNat) (by omega))
    obtain ⟨e1, e2, _⟩ := it_ok hx.1 hx.2
    refine Ret_chk (inb_t i1 hlt) ?_
    refine Ret_dec (fun hpos => ?_) fun hz => ?_
    · have hk := h4 _ (getD_mem (L := a.2) (i := (i - 1).toNat) (by omega))
      refine Ret_chk (i64b_t (by omega) (by omega)) (Ret_chk (inb_t (by omega) (by omega)) (Ret_chk (inb_t (by omega) (by omega)) (Ret_chk (lenOk_t (by omega)) (Ret_bind (Ret.of e1) fun r3 er => ?_))))
      subst er
      refine Ret_chk (lenOk_t (by rw [List.length_append, List.length_singleton]; omega)) (Ret_chk (i64b_t (by omega) (by omega)) (ih _ ⟨by simp only; omega, by simp only; omega, ?_⟩ (by simp only; omega)))
      simp only
      rw [show 2 * (i + 1).toNat - 1 = (2 * i.toNat - 1) + 1 + 1 by omega, Wd_succ, Wd_succ, if_neg (by omega), if_pos (by omega), ← i3, show (2 * i.toNat - 1) / 2 = (i - 1).toNat by omega, show (2 * i.toNat - 1 + 1) / 2 = i.toNat by omega]
      rfl
    · refine Ret_bind (Ret.of e1) fun r3 er => ?_
      subst er
      have hi0 : i = 0 := by omega
      subst hi0
      have hl0 : l = [] := List.eq_nil_of_length_eq_zero (by simpa using hll)
      subst hl0
      refine Ret_chk (lenOk_t (by simp)) (Ret_chk (i64b_t (by omega) (by omega)) (ih _ ⟨by simp, by simp; omega, rfl⟩ (by simp only; omega)))
  · have ei : i.toNat = a.1.length := by omega
    rw [ei] at i3
    have hj := joinS_len (t := [32]) (l := l) (fun s hs => (Wd_all hV (Nat.le_refl _) s (i3 ▸ hs)).1)
    have hne : l.length ≠ 0 := by rw [hll]; omega
    simp only [List.length_cons, List.length_nil] at hj
    unfold strings_Join joinR
    rw [show Nat.beq l.length 0 = false by rw [beq_dec]; simp; intro e; rw [e] at hne; exact hne rfl, cond_false]
    have hb : ((joinS l [32]).length.ble 1000000 && l.length.ble 1000000) = true := by
      rw [ble_dec, ble_dec, Bool.and_eq_true, decide_eq_true_eq, decide_eq_true_eq]
      omega
    simp only [hb, cond_true, Option.bind_some]
    rw [i3]
    exact Ret_some rfl
theorem getD_memW {L : List (List Nat)} {i : Nat} (h : i < L.length) : L.getD i [] ∈ L := by
  simp [List.getD, List.getElem?_eq_getElem h]
theorem ext_getW {L M : List (List Nat)} (hl : L.length = M.length) (h : ∀ i : Nat, i < L.length → L.getD i [] = M.getD i []) : L = M := by
  apply List.ext_getElem hl
  intro i h1 h2
  have := h i h1
  simpa [List.getD, List.getElem?_eq_getElem h1, List.getElem?_eq_getElem h2] using this
theorem getD_snoc {L : List Int} {v : Int} {k : Nat} : (L ++ [v]).getD k 0 = if k < L.length then L.getD k 0 else if k = L.length then v else 0 := by
  by_cases h : k < L.length
  · rw [if_pos h, List.getD, List.getElem?_append_left h]; rfl
  · rw [if_neg h, List.getD, List.getElem?_append_right (by omega)]
    by_cases h2 : k = L.length
    · rw [if_pos h2, h2]; simp
    · rw [if_neg h2]
      rw [List.getElem?_eq_none (by simp; omega)]; rfl
theorem take_snoc {L : List Int} {k : Nat} (h : k < L.length) : L.take k ++ [L.getD k 0] = L.take (k + 1) := by
  rw [List.take_add_one, List.getD, List.getElem?_eq_getElem h]; rfl
theorem atoi_spec {w : List Nat} (h : w.length ≤ 1000) : Ret (strconv_Atoi fuel w) fun r => r.2 = true → -9223372036854775808 ≤ r.1 ∧ r.1 ≤ 9223372036854775807 := by
  unfold strconv_Atoi atoiR
  rw [ble_dec, decide_eq_true (by omega), cond_true]
  split
  · rename_i v e
    exact Ret_some fun _ => atoi_bd e
  · exact Ret_some fun h => by cases h
  · exact Ret_some fun h => by cases h
theorem split_ok {t : List Nat} (h : t.length ≤ 1000) : strings_Split fuel (t, [32]) = some (words t [32]) := by
  unfold strings_Split splitR
  simp only [ble_dec]
  rw [decide_eq_true (by omega)]; rfl
theorem parse_any {t : List Nat} (h : t.length ≤ 60) : Ret (strips_Parse fuel t) fun r => r = (([], []), 4) ∨ (r.2 = 0 ∧ Valid r.1 ∧ Wd r.1 (2 * r.1.1.length - 1) = words t [32]) := by
  unfold strips_Parse
  refine Ret_bind (Ret.of (split_ok (by omega))) fun r1 e => ?_
  have hw := words_len t
  have hwn := words_ne (s := t)
  rw [← e] at hw hwn
  have hpos : 0 < r1.length := List.length_pos_iff.2 hwn
  rw [← e]
  refine Ret_loop (Inv := fun x : (Int × ((Unit × Unit) × ((List Int) × (List Int)))) => 0 ≤ x.1 ∧ x.1 ≤ r1.length ∧ x.2.2.1.length = (x.1.toNat + 1) / 2 ∧ x.2.2.2.length = x.1.toNat / 2 ∧ ∀ j : Nat, j < x.1.toNat → r1.getD j [] = if j % 2 = 0 then it (x.2.2.1.getD (j / 2) 0) else lt (x.2.2.2.getD (j / 2) 0)) (m := fun x => ((r1.length : Int) - x.1).toNat) ?_ _ _ ⟨by simp, by simp, rfl, rfl, fun j hj => by simp at hj⟩ (by simp only [fuel]; omega)
  rintro ⟨i, _, ls, ks⟩ rec ⟨i1, i2, i3, i4, i5⟩ ih
  simp only at i1 i2 i3 i4 i5 ⊢
  refine Ret_dec (fun hlt => ?_) fun hge => ?_
  · have hwl := hw.2 _ (getD_memW (L := r1) (i := i.toNat) (by omega))
    refine Ret_chk (inb_t i1 hlt) (Ret_chk (by simp only [Bool.and_eq_true, decide_eq_true_eq]; omega) ?_)
    refine Ret_dec (fun hodd => ?_) fun hev => ?_
    · refine Ret_bind index_letters fun r3 h3 => ?_
      refine Ret_dec (fun _ => Ret_some (.inl rfl)) fun hn => ?_
      rcases h3 with h3 | ⟨k1, k2, k3⟩
      · exact absurd h3 hn
      refine Ret_chk (lenOk_t (by omega)) (Ret_chk (i64b_t (by omega) (by omega)) (ih _ ⟨by simp only; omega, by simp only; omega, ?_, ?_, fun j hj => ?_⟩ (by simp only; omega)))
      · simp only [i3]; omega
      · simp only [List.length_append, List.length_singleton, i4]; omega
      · simp only at hj ⊢
        rw [wrap_u8 (by omega) (by omega)]
        by_cases hjl : j < i.toNat
        · rw [i5 j hjl]
          by_cases hp : j % 2 = 0
          · rw [if_pos hp, if_pos hp]
          · rw [if_neg hp, if_neg hp, getD_snoc, if_pos (by omega)]
        · have hj' : j = i.toNat := by omega
          rw [if_neg (by omega), getD_snoc, if_neg (by omega), if_pos (by omega), k3, hj']
    · refine Ret_bind (atoi_spec (by omega)) fun r4 h4 => ?_
      refine Ret_bif (fun _ => Ret_some (.inl rfl)) fun hb => ?_
      have hb' : r4.2 = true := by simpa using hb
      obtain ⟨b1, b2⟩ := h4 hb'
      obtain ⟨s, es, _⟩ := itoa_total b1 b2
      refine Ret_bind (Ret.of es) fun r5 h5 => ?_
      subst h5
      refine Ret_dec (fun _ => Ret_some (.inl rfl)) fun heq => ?_
      have heq : r5 = r1.getD i.toNat [] := Classical.byContradiction fun h => heq h
      have hit : it r4.1 = r5 := by unfold it; rw [es]; rfl
      refine Ret_chk (lenOk_t (by omega)) (Ret_chk (i64b_t (by omega) (by omega)) (ih _ ⟨by simp only; omega, by simp only; omega, ?_, ?_, fun j hj => ?_⟩ (by simp only; omega)))
      · simp only [List.length_append, List.length_singleton, i3]; omega
      · simp only [i4]; omega
      · simp only at hj ⊢
        by_cases hjl : j < i.toNat
        · rw [i5 j hjl]
          by_cases hp : j % 2 = 0
          · rw [if_pos hp, if_pos hp, getD_snoc, if_pos (by omega)]
          · rw [if_neg hp, if_neg hp]
        · have hj' : j = i.toNat := by omega
          rw [if_pos (by omega), getD_snoc, if_neg (by omega), if_pos (by omega), hit, heq, hj']
  · refine Ret_bind (Ret.of (check_spec (a := (ls, ks)) (by simp only; omega))) fun r6 h6 => ?_
    refine Ret_dec (fun _ => Ret_some (.inl rfl)) fun hz => ?_
    have hz : r6 = 0 := Classical.byContradiction fun h => hz h
    have hv : Valid (ls, ks) := ckS_valid.1 (by rw [← h6]; exact hz)
    refine Ret_chk (by simp [bnb]) (Ret_chk (by simp [bnb]) (Ret_chk (by simp [capIs, ble_dec]) (Ret_some (.inr ⟨rfl, ?_, ?_⟩))))
    · simp only [List.take_length]; exact hv
    · simp only [List.take_length]
      have hl2 : ls.length = ks.length + 1 := hv.2.1
      refine ext_getW (by rw [Wd_len]; omega) fun j hj => ?_
      rw [Wd_len] at hj
      rw [Wd_get hj, i5 j (by omega)]
theorem parse_text {t : List Nat} {s : List Int × List Int} (hs : Valid s) (h : t.length ≤ 1000) (hw : words t [32] = Wd s (2 * s.1.length - 1)) : strips_Parse fuel t = some (s, 0) := by
  have hV := hs
  obtain ⟨v1, v2, v3, v4⟩ := hs
  apply Ret.eq
  unfold strips_Parse
  refine Ret_bind (Ret.of (split_ok h)) fun r1 e => ?_
  rw [hw] at e
  have hl : r1.length = 2 * s.1.length - 1 := by rw [e, Wd_len]
  refine Ret_loop (Inv := fun x : (Int × ((Unit × Unit) × ((List Int) × (List Int)))) => 0 ≤ x.1 ∧ x.1 ≤ r1.length ∧ x.2.2.1 = s.1.take ((x.1.toNat + 1) / 2) ∧ x.2.2.2 = s.2.take (x.1.toNat / 2)) (m := fun x => ((r1.length : Int) - x.1).toNat) ?_ _ _ ⟨by simp, by simp, rfl, rfl⟩ (by simp only [fuel]; omega)
  rintro ⟨i, _, ls, ks⟩ rec ⟨i1, i2, i3, i4⟩ ih
  simp only at i1 i2 i3 i4 ⊢
  subst i3; subst i4
  refine Ret_dec (fun hlt => ?_) fun hge => ?_
  · have hwd : r1.getD i.toNat [] = if i.toNat % 2 = 0 then it (s.1.getD (i.toNat / 2) 0) else lt (s.2.getD (i.toNat / 2) 0) := by rw [e, Wd_get (by omega)]
    refine Ret_chk (inb_t i1 hlt) (Ret_chk (by simp only [Bool.and_eq_true, decide_eq_true_eq]; omega) ?_)
    refine Ret_dec (fun hodd => ?_) fun hev => ?_
    · rw [hwd, if_neg (by omega)]
      have hk := v4 _ (getD_mem (L := s.2) (i := i.toNat / 2) (by omega))
      refine Ret_bind (Ret.of (lt_ok hk.1 hk.2).2.2) fun r3 h3 => ?_
      subst h3
      refine Ret_dec (fun h => absurd h (by omega)) fun _ => ?_
      refine Ret_chk (lenOk_t (by simp only [List.length_take]; omega)) (Ret_chk (i64b_t (by omega) (by omega)) (ih _ ⟨by simp only; omega, by simp only; omega, ?_, ?_⟩ (by simp only; omega)))
      · simp only; rw [show ((i + 1).toNat + 1) / 2 = (i.toNat + 1) / 2 by omega]
      · simp only
        rw [wrap_u8 (by omega) (by omega), take_snoc (by omega), show (i + 1).toNat / 2 = i.toNat / 2 + 1 by omega]
    · rw [hwd, if_pos (by omega)]
      have hk := v3 _ (getD_mem (L := s.1) (i := i.toNat / 2) (by omega))
      refine Ret_bind (Ret.of (atoi_it hk.1 hk.2)) fun r4 h4 => ?_
      subst h4
      refine Ret_bif (fun h => by simp at h) fun _ => ?_
      refine Ret_bind (Ret.of (it_ok hk.1 hk.2).1) fun r5 h5 => ?_
      refine Ret_dec (fun h => absurd h5 h) fun _ => ?_
      refine Ret_chk (lenOk_t (by simp only [List.length_take]; omega)) (Ret_chk (i64b_t (by omega) (by omega)) (ih _ ⟨by simp only; omega, by simp only; omega, ?_, ?_⟩ (by simp only; omega)))
      · simp only
        rw [show (i.toNat + 1) / 2 = i.toNat / 2 by omega, take_snoc (by omega), show ((i + 1).toNat + 1) / 2 = i.toNat / 2 + 1 by omega]
      · simp only; rw [show (i + 1).toNat / 2 = i.toNat / 2 by omega]
  · have e1 : s.1.take ((i.toNat + 1) / 2) = s.1 := List.take_of_length_le (by omega)
    have e2 : s.2.take (i.toNat / 2) = s.2 := List.take_of_length_le (by omega)
    rw [e1, e2]
    refine Ret_bind (Ret.of (strips_Check_valid hV)) fun r6 h6 => ?_
    subst h6
    refine Ret_dec (fun h => absurd rfl h) fun _ => ?_
    refine Ret_chk (by simp [bnb]) (Ret_chk (by simp [bnb]) (Ret_chk (by simp [capIs, ble_dec]) (Ret_some (by simp))))
theorem join_snoc {w0 : List Nat} {ws : List (List Nat)} {w : List Nat} (h : ∀ y ∈ w, y < 256) : joinS ((w0 :: ws) ++ [w]) [32] = joinS (w0 :: ws) [32] ++ 32 :: w := by
  have e : (u8 w).map UInt8.toNat = w := u8_back h
  simp only [joinS, List.cons_append, List.map_cons, List.map_append, List.map_nil, Lib.join_cons]
  simp only [Lib.joinTail, List.map_append, List.flatten_append, List.map_cons, List.map_nil, List.flatten_cons, List.flatten_nil, List.append_nil, List.append_assoc, e]
  congr 2
theorem lt_one {k : Int} (h1 : 1 ≤ k) (h2 : k ≤ 3) : lt k = [([109, 118, 97] : List Nat).getD (IntKind.u8.wrap (k - 1)).toNat 0] ∧ inb (IntKind.u8.wrap (k - 1)) 3 = true ∧ inb ((([109, 118, 97] : List Nat).getD (IntKind.u8.wrap (k - 1)).toNat 0 : Nat) : Int) 128 = true := by
  rcases (by omega : k = 1 ∨ k = 2 ∨ k = 3) with rfl | rfl | rfl <;> exact ⟨by kernel_rfl, by kernel_rfl, by kernel_rfl⟩
theorem law16_StripsText_true {x : List Int × List Int} {t : List Nat} (h1 : bytes x.1) (h2 : bytes x.2) (ht : ∀ y ∈ t, y < 256) : law16_StripsText fuel (x, t) = some true := by
  apply Ret.eq
  unfold law16_StripsText
  have live : ∀ {Q : Bool → Prop}, Q true → Ret ((law16_lives fuel ()).bind fun r1 => some r1) Q := fun h => by rw [lives16]; exact Ret_some h
  refine Ret_dec (fun _ => live rfl) fun hlen => ?_
  simp only at hlen ⊢
  refine Ret_bind (law16_T_Of_ok (a := (x.1, x.2)) h1 h2) fun s hs => ?_
  have hv := hs.valid
  obtain ⟨k1, k2, k3, k4, k5⟩ := hs
  have hW := Wd_all hv (Nat.le_refl _)
  refine Ret_chk (inb_t (by omega) (by omega)) ?_
  have hx0 := k4 _ (getD_mem (L := s.1) (i := 0) (by omega))
  obtain ⟨e0, l0, c0⟩ := it_ok hx0.1 (by omega)
  refine Ret_bind (Ret.of e0) fun r3 er => ?_
  subst er
  refine Ret_loop (Inv := fun y : (List Nat) × Int => 0 ≤ y.2 ∧ y.2 ≤ s.2.length ∧ y.1 = joinS (Wd s (2 * y.2.toNat + 1)) [32] ∧ y.1.length ≤ 10 * (y.2.toNat + 1)) (m := fun y => ((s.2.length : Int) - y.2).toNat) ?_ _ _ ⟨by simp, by simp, ?_, by simp only; omega⟩ (by simp only [fuel]; omega)
  · rintro ⟨u, i⟩ rec ⟨i1, i2, i3, i4⟩ ih
    simp only at i1 i2 i3 i4 ⊢
    refine Ret_dec (fun hlt => ?_) fun hge => ?_
    · have hk := k5 _ (getD_mem (L := s.2) (i := i.toNat) (by omega))
      obtain ⟨g1, g2, g3⟩ := lt_one hk.1 hk.2
      have hx := k4 _ (getD_mem (L := s.1) (i := (i + 1).toNat) (by omega))
      obtain ⟨e1, l1, c1⟩ := it_ok hx.1 (by omega)
      refine Ret_chk (decide_eq_true (by omega)) (Ret_chk (inb_t i1 hlt) (Ret_chk g2 (Ret_chk g3 (Ret_chk (decide_eq_true (by simp only [List.length_append, List.length_singleton]; omega)) (Ret_chk (decide_eq_true (by simp only [List.length_append, List.length_singleton]; omega)) (Ret_chk (i64b_t (by omega) (by omega)) (Ret_chk (inb_t (by omega) (by omega)) (Ret_bind (Ret.of e1) fun r5 er => ?_))))))))
      subst er
      refine Ret_chk (decide_eq_true (by simp only [List.length_append, List.length_singleton]; omega)) (Ret_chk (i64b_t (by omega) (by omega)) (ih _ ⟨by simp only; omega, by simp only; omega, ?_, ?_⟩ (by simp only; omega)))
      · simp only
        have hne : ∀ m, Wd s (m + 1) = it (s.1.getD 0 0) :: (Wd s (m + 1)).tail := fun m => by
          unfold Wd; rw [List.range_succ_eq_map]; rfl
        have hWl := lt_ok hk.1 hk.2
        rw [show 2 * (i + 1).toNat + 1 = (2 * i.toNat + 1) + 1 + 1 by omega, Wd_succ (m := 2 * i.toNat + 1 + 1), Wd_succ (m := 2 * i.toNat + 1), if_neg (by omega), if_pos (by omega), show (2 * i.toNat + 1) / 2 = i.toNat by omega, show (2 * i.toNat + 1 + 1) / 2 = (i + 1).toNat by omega]
        rw [hne (2 * i.toNat), List.cons_append, join_snoc (fun y hy => (c1 y hy).1), ← List.cons_append, join_snoc (fun y hy => (hWl.2.1 y hy).1), ← hne, ← i3, g1]
        simp
      · simp only [List.length_append, List.length_singleton]; omega
    · have hi : 2 * i.toNat + 1 = 2 * s.1.length - 1 := by omega
      rw [hi] at i3
      have hcons : Wd s (2 * s.1.length - 1) = it (s.1.getD 0 0) :: (Wd s (2 * s.1.length - 1)).tail := by
        rw [← hi]; unfold Wd; rw [List.range_succ_eq_map]; rfl
      have hwords : words u [32] = Wd s (2 * s.1.length - 1) := by
        rw [i3, hcons]
        exact join_words fun y hy => (hW y (by rw [hcons]; exact hy)).2
      refine Ret_bind (Ret.of (parse_text hv (by omega) hwords)) fun r6 e6 => ?_
      subst e6
      refine Ret_bind (Ret.of (text_spec (a := (s.1, s.2)) hv)) fun r7 e7 => ?_
      have e7 : r7 = u := by rw [e7, i3]
      subst e7
      iterate 6 (refine Ret_dec (fun h => absurd rfl h) fun _ => ?_)
      rw [cmp_loop rfl (by omega), if_pos rfl, cmp_loop rfl (by omega), if_pos rfl]
      refine Ret_bind (parse_any (t := t) (by omega)) fun r9 h9 => ?_
      rcases h9 with rfl | ⟨z1, z2, z3⟩
      · simp only [lives16]
        exact ⟨true, by kernel_rfl, rfl⟩
      · refine Ret_dec (fun h => absurd z1 h) fun _ => ?_
        refine Ret_bind (Ret.of (strips_Check_valid (a := (r9.1.1, r9.1.2)) z2)) fun r11 e11 => ?_
        refine Ret_dec (fun _ => ?_) fun h => absurd e11 h
        refine Ret_bind (Ret.of (text_spec (a := (r9.1.1, r9.1.2)) z2)) fun r12 e12 => ?_
        refine Ret_dec (fun _ => live rfl) fun h => absurd ?_ h
        rw [e12]
        show joinS (Wd r9.1 (2 * r9.1.1.length - 1)) [32] = t
        rw [z3, words_join ht]
  · show _ = joinS (Wd s 1) [32]
    have : Wd s 1 = [it (s.1.getD 0 0)] := rfl
    rw [this]
    simp only [joinS, List.map_cons, List.map_nil, Lib.join_one]
    rw [u8_back fun y hy => (c0 y hy).1]
end X
end Go.Vm
