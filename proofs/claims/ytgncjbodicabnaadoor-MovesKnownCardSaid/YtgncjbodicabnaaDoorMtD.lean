/-
  The texts of moves: words, numbers. No machine in this text.
  moves.Parse at every text; the law MovesText.
-/
import Derived.Test.YtgncjbodicabnaaDoorMtC
import Derived.Lib.AtoiAllCases
import Derived.Lib.ParseIntBCases
set_option linter.unusedSimpArgs false
set_option linter.unusedVariables false

namespace Go.Proofs.YtgncjbodicabnaaDoor
namespace Vm
open Go Go.Vm Go.Vm.W
set_option linter.unusedVariables false
set_option linter.unusedSimpArgs false

theorem idx_at {c : UInt8} : ∀ (l r : List UInt8), c ∉ l → Lib.index (l ++ c :: r) [c] = l.length
  | [], r, _ => by rw [List.nil_append, Lib.index]; simp [List.isPrefixOf]
  | b :: l, r, h => by
    rw [List.mem_cons, not_or] at h
    have ih := idx_at l r h.2
    rw [List.cons_append, Lib.index]
    have hp : ([c] : List UInt8).isPrefixOf (b :: (l ++ c :: r)) = false := by simp [List.isPrefixOf, h.1]
    rw [hp, ih]
    have : ((l.length : Int) == -1) = false := by
      rw [beq_eq_false_iff_ne]
      omega
    simp [this]
theorem spl_one {c : UInt8} (l : List UInt8) (h : c ∉ l) : Lib.split l [c] = [l] := by
  unfold Lib.split
  rw [Lib.count_one, List.count_eq_zero_of_not_mem h]
  rfl
theorem spl_at {c : UInt8} (l r : List UInt8) (h : c ∉ l) : Lib.split (l ++ c :: r) [c] = l :: Lib.split r [c] := by
  unfold Lib.split
  rw [Lib.count_one, Lib.count_one, List.count_append, List.count_eq_zero_of_not_mem h, List.count_cons_self, Nat.zero_add]
  show (if Lib.index (l ++ c :: r) [c] == -1 then _ else _) = _
  rw [idx_at l r h]
  have : ((l.length : Int) == -1) = false := by
    rw [beq_eq_false_iff_ne]
    omega
  rw [this, if_neg (by simp)]
  simp
theorem spl_len (sep : List UInt8) : ∀ (k : Nat) (s w : List UInt8), w ∈ Lib.splitK sep 0 k s → w.length ≤ s.length
  | 0, s, w, h => by
    simp only [Lib.splitK, List.mem_singleton] at h
    subst h
    exact Nat.le_refl _
  | k + 1, s, w, h => by
    unfold Lib.splitK at h
    split at h
    · simp only [List.mem_singleton] at h
      subst h
      exact Nat.le_refl _
    · rcases List.mem_cons.1 h with rfl | h
      · simp
        omega
      · have := spl_len sep k _ w h
        simp at this
        omega
theorem words_len {s sep a : List Nat} (h : a ∈ words s sep) : a.length ≤ s.length := by
  unfold words Lib.split at h
  obtain ⟨w, h1, rfl⟩ := List.mem_map.1 h
  have := spl_len _ _ _ _ h1
  simpa [u8] using this

/-- Bytes that are no blanks. -/
def DD (l : List Nat) : Prop := ∀ c ∈ l, c < 256 ∧ c ≠ 32
theorem N_DD : ∀ (u : Nat), DD (N u) := by
  intro u
  induction u using Nat.strongRecOn with
  | ind u ih =>
    by_cases h : u < 10
    · rw [N_lt h]
      intro c hc
      simp only [List.mem_singleton] at hc
      omega
    · rw [N_ge (by omega)]
      intro c hc
      rcases List.mem_append.1 hc with hc | hc
      · exact ih (u / 10) (by omega) c hc
      · simp only [List.mem_singleton] at hc
        omega
theorem Z_DD (n : Int) : DD (Z n) := by
  unfold Z
  split
  · intro c hc
    rcases List.mem_cons.1 hc with rfl | hc
    · omega
    · exact N_DD _ c hc
  · exact N_DD _
theorem u8_app (a b : List Nat) : u8 (a ++ b) = u8 a ++ u8 b := List.map_append
theorem u8_no {l : List Nat} (h : DD l) : (32 : UInt8) ∉ u8 l := by
  intro hc
  obtain ⟨c, h1, h2⟩ := List.mem_map.1 hc
  have := h c h1
  have h3 : (UInt8.ofNat c).toNat = 32 := by rw [h2]; rfl
  rw [u8n this.1] at h3
  exact this.2 h3
theorem u8_back {l : List Nat} (h : DD l) : (u8 l).map UInt8.toNat = l := by
  unfold u8
  rw [List.map_map]
  conv => rhs; rw [← List.map_id l]
  apply List.map_congr_left
  intro c hc
  exact u8n (h c hc).1
theorem words3 {a b c : List Nat} (ha : DD a) (hb : DD b) (hc : DD c) : words ((((a ++ [32]) ++ b) ++ [32]) ++ c) [32] = [a, b, c] := by
  have e : u8 ((((a ++ [32]) ++ b) ++ [32]) ++ c) = u8 a ++ 32 :: (u8 b ++ 32 :: u8 c) := by
    simp only [u8_app, List.append_assoc]
    rfl
  have e2 : u8 [32] = [32] := rfl
  unfold words
  rw [e, e2, spl_at _ _ (u8_no ha), spl_at _ _ (u8_no hb), spl_one _ (u8_no hc)]
  simp only [List.map_cons, List.map_nil, u8_back ha, u8_back hb, u8_back hc]

theorem pm (M : Nat) : ∀ (u : Nat) (r : List UInt8), u ≤ M → u ≤ 1000000 → Lib.parseUintM M 0 (u8 (N u) ++ r) = Lib.parseUintM M u r := by
  intro u
  induction u using Nat.strongRecOn with
  | ind u ih =>
    intro r h1 h2
    by_cases h : u < 10
    · rw [N_lt h]
      show (if _ then _ else _) = _
      rw [u8n (by omega), if_pos (by omega), if_neg (by omega), if_neg (by omega)]
      congr 1
      omega
    · rw [N_ge (by omega), u8_app, List.append_assoc, ih (u / 10) (by omega) _ (by omega) (by omega)]
      show (if _ then _ else _) = _
      rw [u8n (by omega), if_pos (by omega), if_neg (by omega), if_neg (by omega)]
      show Lib.parseUintM M _ r = _
      congr 1
      omega
theorem N_hd : ∀ (u : Nat), ∃ c r, u8 (N u) = c :: r ∧ 48 ≤ c.toNat ∧ c.toNat ≤ 57 := by
  intro u
  induction u using Nat.strongRecOn with
  | ind u ih =>
    by_cases h : u < 10
    · rw [N_lt h]
      exact ⟨_, _, rfl, by rw [u8n (by omega)]; omega, by rw [u8n (by omega)]; omega⟩
    · rw [N_ge (by omega), u8_app]
      obtain ⟨c, r, h1, h2⟩ := ih (u / 10) (by omega)
      exact ⟨c, r ++ u8 [48 + u % 10], by rw [h1]; rfl, h2⟩
theorem N_ne (u : Nat) : u8 (N u) ≠ [] := by
  obtain ⟨c, r, h, _⟩ := N_hd u
  rw [h]
  simp
theorem pu_N {u : Nat} (h : u ≤ 255) : Lib.parseUintB 8 (u8 (N u)) = .ok u := by
  unfold Lib.parseUintB
  rw [if_neg (N_ne u)]
  have := pm (2 ^ 8 - 1) u [] (by simpa using h) (by omega)
  rw [List.append_nil] at this
  rw [this]
  rfl
theorem mag_N {u : Nat} (h : u ≤ 1000000) : Lib.parseMag (u8 (N u)) = .ok u := by
  unfold Lib.parseMag
  rw [if_neg (N_ne u), ← Lib.parseUintM_64]
  have := pm 18446744073709551615 u [] (by omega) h
  rw [List.append_nil] at this
  rw [this]
  rfl
theorem at_Z {n : Int} (h : -100000 < n ∧ n < 100000) : Lib.atoiAll (u8 (Z n)) = .ok n := by
  unfold Z
  split
  · show Lib.atoiAll (45 :: u8 (N (-n).toNat)) = _
    rw [Lib.atoiAll_minus, mag_N (by omega)]
    unfold Lib.signed
    simp only
    rw [if_neg (by omega)]
    congr 1
    omega
  · have hm := mag_N (u := n.toNat) (by omega)
    obtain ⟨c, r, h1, h2, h3⟩ := N_hd n.toNat
    rw [h1] at hm ⊢
    rw [Lib.atoiAll_plain c r (by omega) (by omega), hm]
    unfold Lib.signless
    simp only
    rw [if_neg (by omega)]
    congr 1
    omega
end Vm
end Go.Proofs.YtgncjbodicabnaaDoor

namespace Go.Proofs.YtgncjbodicabnaaDoor
namespace Vm
variable {mx : Int}
open Go Go.Vm Go.Vm.W
set_option maxRecDepth 100000
set_option linter.unusedVariables false
set_option linter.unusedSimpArgs false
attribute [local irreducible] W WO SpecQ SpecW runM

theorem TX_len {k x y : Int} (h : 0 ≤ k ∧ k ≤ 255 ∧ -100000 < x ∧ x < 100000 ∧ -100000 < y ∧ y < 100000) : (TX k x y).length ≤ 1000000 := by
  have l1 := Z_len (n := k) (by omega)
  have l2 := Z_len (n := x) (by omega)
  have l3 := Z_len (n := y) (by omega)
  simp only [List.length_append, List.length_cons, List.length_nil]
  omega
theorem s30ok (n : Nat) (k x y : Int) (h0 : 0 ≤ k ∧ k ≤ 255) (hv : vm k x y) : SV mx (n+7) 30 [.str (TX k x y)] (.tup [.agg [.int .u8 k, .int .i64 x, .int .i64 y], .int .i64 0]) := by
  have hv' := hv
  obtain ⟨v1, v2, v3, v4, v5, v6⟩ := hv
  have l1 := Z_len (n := k) (by omega)
  have l2 := Z_len (n := x) (by omega)
  have l3 := Z_len (n := y) (by omega)
  have hk : ((k.toNat : Nat) : Int) = k := by omega
  have hz : Z k = N k.toNat := by rw [Z, if_neg (by omega)]
  have := s30y (mx := mx) n (TX k x y) (Z k) (Z x) (Z y) (TX_len ⟨by omega, by omega, by omega, by omega, by omega, by omega⟩) (words3 (Z_DD _) (Z_DD _) (Z_DD _)) (by omega) (by omega) (by omega) x y k.toNat (by omega) (by rw [hz]; exact pu_N (by omega)) (at_Z (by omega)) (at_Z (by omega)) (TX k x y) (by rw [hk]; exact s31 n k x y h0 hv') rfl
  rw [hk] at this
  exact this
theorem s30any (n : Nat) (s : List Nat) (h : s.length ≤ 1000000) : SV mx (n+7) 30 [.str s] (.tup [.agg [.int .u8 0, .int .i64 0, .int .i64 0], .int .i64 4]) ∨
    ∃ k x y : Int, (0 ≤ k ∧ k ≤ 255) ∧ vm k x y ∧ s = TX k x y ∧ SV mx (n+7) 30 [.str s] (.tup [.agg [.int .u8 k, .int .i64 x, .int .i64 y], .int .i64 0]) := by
  match hw : words s [32] with
  | [] => exact .inl (s30w n s _ h hw (by decide))
  | [_] => exact .inl (s30w n s _ h hw (by simp))
  | [_, _] => exact .inl (s30w n s _ h hw (by simp))
  | _ :: _ :: _ :: _ :: _ => exact .inl (s30w n s _ h hw (by simp))
  | [a, b, c] =>
    have ha : a.length ≤ 1000000 := Nat.le_trans (words_len (s := s) (sep := [32]) (by rw [hw]; simp)) h
    have hb : b.length ≤ 1000000 := Nat.le_trans (words_len (s := s) (sep := [32]) (by rw [hw]; simp)) h
    have hc : c.length ≤ 1000000 := Nat.le_trans (words_len (s := s) (sep := [32]) (by rw [hw]; simp)) h
    by_cases pa : ∃ v, Lib.parseUintB 8 (u8 a) = .ok v
    · obtain ⟨v, pa⟩ := pa
      have hv : v ≤ 255 := by simpa using Lib.parseUintB_le pa
      by_cases pb : ∃ x, Lib.atoiAll (u8 b) = .ok x
      · obtain ⟨x, pb⟩ := pb
        by_cases pc : ∃ y, Lib.atoiAll (u8 c) = .ok y
        · obtain ⟨y, pc⟩ := pc
          have h0 : 0 ≤ ((v : Nat) : Int) ∧ ((v : Nat) : Int) ≤ 255 := by omega
          by_cases hm : vm v x y
          · by_cases he : TX v x y = s
            · exact .inr ⟨v, x, y, h0, hm, he.symm, s30y n s a b c h hw ha hb hc x y v hv pa pb pc _ (s31 n v x y h0 hm) he⟩
            · exact .inl (s30n n s a b c h hw ha hb hc x y v hv pa pb pc _ (s31 n v x y h0 hm) he)
          · refine .inl (s30n n s a b c h hw ha hb hc x y v hv pa pb pc _ (s31n n v x y h0 hm) ?_)
            intro e
            subst e
            have hw' : words [] [32] = [[]] := by decide +kernel
            rw [hw'] at hw
            simp at hw
        · obtain ⟨y, pc⟩ := sAte (n+5) c hc (fun v e => pc ⟨v, e⟩)
          exact .inl (s30e3 n s a b c h hw ha hb hc x y v hv pa pb pc)
      · obtain ⟨x, pb⟩ := sAte (n+5) b hb (fun v e => pb ⟨v, e⟩)
        by_cases pc : ∃ y, Lib.atoiAll (u8 c) = .ok y
        · obtain ⟨y, pc⟩ := pc
          exact .inl (s30e5 n s a b c h hw ha hb hc x y v hv pa pb pc)
        · obtain ⟨y, pc⟩ := sAte (n+5) c hc (fun v e => pc ⟨v, e⟩)
          exact .inl (s30e1 n s a b c h hw ha hb hc x y v hv pa pb pc)
    · obtain ⟨v, hv, pa⟩ := sPUe (n+5) a ha (fun v e => pa ⟨v, e⟩)
      by_cases pb : ∃ x, Lib.atoiAll (u8 b) = .ok x
      · obtain ⟨x, pb⟩ := pb
        by_cases pc : ∃ y, Lib.atoiAll (u8 c) = .ok y
        · obtain ⟨y, pc⟩ := pc
          exact .inl (s30e6 n s a b c h hw ha hb hc x y v hv pa pb pc)
        · obtain ⟨y, pc⟩ := sAte (n+5) c hc (fun v e => pc ⟨v, e⟩)
          exact .inl (s30e2 n s a b c h hw ha hb hc x y v hv pa pb pc)
      · obtain ⟨x, pb⟩ := sAte (n+5) b hb (fun v e => pb ⟨v, e⟩)
        by_cases pc : ∃ y, Lib.atoiAll (u8 c) = .ok y
        · obtain ⟨y, pc⟩ := pc
          exact .inl (s30e4 n s a b c h hw ha hb hc x y v hv pa pb pc)
        · obtain ⟨y, pc⟩ := sAte (n+5) c hc (fun v e => pc ⟨v, e⟩)
          exact .inl (s30e0 n s a b c h hw ha hb hc x y v hv pa pb pc)
theorem s8l (n : Nat) (T : List Nat) (k x y : Int) (h0 : 0 ≤ k ∧ k ≤ 255) (hl : 30 < T.length) : SV mx (n+9) 8 [.agg [.int .u8 k, .int .i64 x, .int .i64 y], .str T] (.bool true) := by
  refine SpecQ_run (c := k8) rfl rfl rfl ?_
  intro ro O _
  refine X_reg [1, 2] [] [] (fun ν1 => (True)) (fun ν1 => []) (fun ν1 => [(1, (.str T)), (2, (.ptr (ν1 0) 0))]) (fun ν1 => ⟨(ν1 0), true, .cells [(.int .u8 k), (.int .i64 x), (.int .i64 y)]⟩ :: O) (fun ν1 => by kernel_rfl) (fun ν1 => trivial) ?_
  intro ν1
  refine C_assoc ?_
  refine X_reg [1, 2, 12] [] [] (fun _ => (True)) (fun _ => []) (fun _ => [(1, (.str T)), (2, (.ptr (ν1 0) 0)), (12, (.bool (decide (30 < ((T.length : Nat) : Int)))))]) (fun _ => ⟨(ν1 0), true, .cells [(.int .u8 k), (.int .i64 x), (.int .i64 y)]⟩ :: O) (fun _ => by kernel_rfl) (fun _ => trivial) ?_
  intro _
  refine C_if_t (x := _) (xp_t (by rw [decide_eq_true_eq]; omega)) ?_
  refine C_assoc ?_
  refine X_reg [4] [0] [] (fun _ => (True)) (fun _ => []) (fun _ => [(4, (.bool true))]) (fun _ => O) (fun _ => by kernel_rfl) (fun _ => trivial) ?_
  intro _
  refine C_ret ?_
  exact RetQ_ret (vs := [(.bool true)]) (N := []) (ResV.t rfl ResV.nil) ⟨by rfl, rfl⟩ (.refl _)
theorem s8vo (n : Nat) (T : List Nat) (k x y : Int) (h0 : 0 ≤ k ∧ k ≤ 255) (hl : T.length ≤ 30) (hv : vm k x y) (K X Y : Int) (H0 : 0 ≤ K ∧ K ≤ 255) (HV : vm K X Y) (hT : T = TX K X Y) (h30 : SV mx (n+8) 30 [.str T] (.tup [.agg [.int .u8 K, .int .i64 X, .int .i64 Y], .int .i64 0])) : SV mx (n+9) 8 [.agg [.int .u8 k, .int .i64 x, .int .i64 y], .str T] (.bool true) := by
  refine SpecQ_run (c := k8) rfl rfl rfl ?_
  intro ro O _
  refine X_reg [1, 2] [] [] (fun ν1 => (True)) (fun ν1 => []) (fun ν1 => [(1, (.str T)), (2, (.ptr (ν1 0) 0))]) (fun ν1 => ⟨(ν1 0), true, .cells [(.int .u8 k), (.int .i64 x), (.int .i64 y)]⟩ :: O) (fun ν1 => by kernel_rfl) (fun ν1 => trivial) ?_
  intro ν1
  refine C_assoc ?_
  refine X_reg [1, 2, 12] [] [] (fun _ => (True)) (fun _ => []) (fun _ => [(1, (.str T)), (2, (.ptr (ν1 0) 0)), (12, (.bool (decide (30 < ((T.length : Nat) : Int)))))]) (fun _ => ⟨(ν1 0), true, .cells [(.int .u8 k), (.int .i64 x), (.int .i64 y)]⟩ :: O) (fun _ => by kernel_rfl) (fun _ => trivial) ?_
  intro _
  refine C_if_f (x := _) (xp_f (by rw [decide_eq_false_iff_not]; omega)) ?_
  refine C_skip ?_
  refine X_reg [1, 2, 5] [] [] (fun _ => (True)) (fun _ => []) (fun _ => [(1, (.str T)), (2, (.ptr (ν1 0) 0)), (5, (.str []))]) (fun _ => ⟨(ν1 0), true, .cells [(.int .u8 k), (.int .i64 x), (.int .i64 y)]⟩ :: O) (fun _ => by kernel_rfl) (fun _ => trivial) ?_
  intro _
  refine C_assoc ?_
  refine X_reg [1, 2, 5, 15] [] [(.ld (.e 0)), (.cl (.int .i64 1))] (fun _ => (SpecQ (BB mx) (RN mx (n+8)) 13 [(.agg [(.int .u8 k), (.int .i64 x), (.int .i64 y)])] [] fun u_ N_ => u_ = (.int .i64 1) ∧ N_ = []) ∧ (True)) (fun _ => [(ν1 0)]) (fun _ => [(1, (.str T)), (2, (.ptr (ν1 0) 0)), (5, (.str [])), (15, (.bool true))]) (fun _ => ⟨(ν1 0), true, .cells [(.int .u8 k), (.int .i64 x), (.int .i64 y)]⟩ :: O) (fun _ => by kernel_rfl) (fun _ => ⟨s13t _ _ _ _ h0 hv, trivial⟩) ?_
  intro _
  refine C_if_t rfl ?_
  refine C_assoc ?_
  refine X_reg [1, 2, 5] [] [(.ld (.e 0)), (.cl (.str (TX k x y)))] (fun _ => (SpecQ (BB mx) (RN mx (n+8)) 29 [(.agg [(.int .u8 k), (.int .i64 x), (.int .i64 y)])] [] fun u_ N_ => u_ = (.str (TX k x y)) ∧ N_ = []) ∧ (True)) (fun _ => [(ν1 0)]) (fun _ => [(1, (.str T)), (2, (.ptr (ν1 0) 0)), (5, (.str (TX k x y)))]) (fun _ => ⟨(ν1 0), true, .cells [(.int .u8 k), (.int .i64 x), (.int .i64 y)]⟩ :: O) (fun _ => by kernel_rfl) (fun _ => ⟨s29 _ _ _ _ (by have := hv; unfold vm at this; omega), trivial⟩) ?_
  intro _
  refine C_assoc ?_
  refine X_reg [1, 2, 5, 6, 7] [] [.c, (.cl (.tup [(.agg [(.int .u8 k), (.int .i64 x), (.int .i64 y)]), (.int .i64 0)])), .c, .c, .c, .c, (.st 0)] (fun ν6 => (SpecQ (BB mx) (RN mx (n+8)) 30 [(.str (TX k x y))] [] fun u_ N_ => u_ = (.tup [(.agg [(.int .u8 k), (.int .i64 x), (.int .i64 y)]), (.int .i64 0)]) ∧ N_ = []) ∧ (True)) (fun ν6 => [(ν6 0)]) (fun ν6 => [(1, (.str T)), (2, (.ptr (ν1 0) 0)), (5, (.str (TX k x y))), (6, (.ptr (ν6 0) 0)), (7, (.int .i64 0))]) (fun ν6 => ⟨(ν6 0), true, .cells [(.int .u8 k), (.int .i64 x), (.int .i64 y)]⟩ :: ⟨(ν1 0), true, .cells [(.int .u8 k), (.int .i64 x), (.int .i64 y)]⟩ :: O) (fun ν6 => by kernel_rfl) (fun ν6 => ⟨s30ok _ _ _ _ h0 hv, trivial⟩) ?_
  intro ν6
  refine C_assoc ?_
  refine X_reg [1, 2, 5, 29] [0] [(.ld (.e 0)), (.ld (.e 1)), .c, .c, (.g .c), (.g .c), .pk] (fun _ => (True)) (fun _ => [(ν6 0), (ν1 0)]) (fun _ => [(1, (.str T)), (2, (.ptr (ν1 0) 0)), (5, (.str (TX k x y))), (29, (.bool ((!((decide (k = k)) && ((decide (x = x)) && (decide (y = y))))) || false)))]) (fun _ => ⟨(ν1 0), true, .cells [(.int .u8 k), (.int .i64 x), (.int .i64 y)]⟩ :: O) (fun _ => by kernel_rfl) (fun _ => trivial) ?_
  intro _
  refine C_if_f (x := _) (xp_f (by simp)) ?_
  refine C_skip ?_
  refine C_assoc ?_
  refine X_reg [1, 33] [0] [(.ld (.e 0)), (.cl (.str (TX k x y)))] (fun _ => (SpecQ (BB mx) (RN mx (n+8)) 31 [(.agg [(.int .u8 k), (.int .i64 x), (.int .i64 y)])] [] fun u_ N_ => u_ = (.str (TX k x y)) ∧ N_ = []) ∧ (True)) (fun _ => [(ν1 0)]) (fun _ => [(1, (.str T)), (33, (.bool (decide ((TX k x y) ≠ (TX k x y)))))]) (fun _ => O) (fun _ => by kernel_rfl) (fun _ => ⟨s31 _ _ _ _ h0 hv, trivial⟩) ?_
  intro _
  refine C_if_f (x := _) (xp_f (by simp)) ?_
  refine C_skip ?_
  refine X_reg [1, 8, 9] [] [.c, (.cl (.tup [(.agg [(.int .u8 K), (.int .i64 X), (.int .i64 Y)]), (.int .i64 0)])), .c, .c, .c, .c, (.st 0)] (fun ν9 => (SpecQ (BB mx) (RN mx (n+8)) 30 [(.str T)] [] fun u_ N_ => u_ = (.tup [(.agg [(.int .u8 K), (.int .i64 X), (.int .i64 Y)]), (.int .i64 0)]) ∧ N_ = []) ∧ (True)) (fun ν9 => [(ν9 0)]) (fun ν9 => [(1, (.str T)), (8, (.ptr (ν9 0) 0)), (9, (.int .i64 0))]) (fun ν9 => ⟨(ν9 0), true, .cells [(.int .u8 K), (.int .i64 X), (.int .i64 Y)]⟩ :: O) (fun ν9 => by kernel_rfl) (fun ν9 => ⟨h30, trivial⟩) ?_
  intro ν9
  refine C_assoc ?_
  refine X_reg [1, 8, 9, 40] [] [] (fun _ => (True)) (fun _ => []) (fun _ => [(1, (.str T)), (8, (.ptr (ν9 0) 0)), (9, (.int .i64 0)), (40, (.bool false))]) (fun _ => ⟨(ν9 0), true, .cells [(.int .u8 K), (.int .i64 X), (.int .i64 Y)]⟩ :: O) (fun _ => by kernel_rfl) (fun _ => trivial) ?_
  intro _
  refine C_if_f rfl ?_
  refine C_skip ?_
  refine X_reg [4] [0] [(.ld (.e 0)), (.cl (.int .i64 1)), .c, .c, (.ld (.e 0)), (.cl (.str (TX K X Y))), .c, .c, .c, .c, (.g (.cl (.bool true))), .pk] (fun _ => (SpecQ (BB mx) (RN mx (n+8)) 13 [(.agg [(.int .u8 K), (.int .i64 X), (.int .i64 Y)])] [] fun u_ N_ => u_ = (.int .i64 1) ∧ N_ = []) ∧ (SpecQ (BB mx) (RN mx (n+8)) 29 [(.agg [(.int .u8 K), (.int .i64 X), (.int .i64 Y)])] [] fun u_ N_ => u_ = (.str (TX K X Y)) ∧ N_ = []) ∧ (((decide ((TX K X Y) = T)) = true → SpecQ (BB mx) (RN mx (n+8)) 14 [] [] fun u_ N_ => u_ = (.bool true) ∧ N_ = [])) ∧ (True)) (fun _ => [(ν9 0), (ν9 0)]) (fun _ => [(4, (.bool ((decide ((TX K X Y) = T)) && true)))]) (fun _ => O) (fun _ => by kernel_rfl) (fun _ => ⟨s13t _ _ _ _ H0 HV, s29 _ _ _ _ (by have := HV; unfold vm at this; omega), (fun hg => s14t _), trivial⟩) ?_
  intro _
  refine W_ret ?_
  exact RetQ_ret (vs := [(.bool ((decide ((TX K X Y) = T)) && true))]) (N := []) (ResV.t rfl ResV.nil) ⟨(by rw [decide_eq_true hT.symm]; rfl), rfl⟩ (.refl _)
theorem s8ve (n : Nat) (T : List Nat) (k x y : Int) (h0 : 0 ≤ k ∧ k ≤ 255) (hl : T.length ≤ 30) (hv : vm k x y) (h30 : SV mx (n+8) 30 [.str T] (.tup [.agg [.int .u8 0, .int .i64 0, .int .i64 0], .int .i64 4])) : SV mx (n+9) 8 [.agg [.int .u8 k, .int .i64 x, .int .i64 y], .str T] (.bool true) := by
  refine SpecQ_run (c := k8) rfl rfl rfl ?_
  intro ro O _
  refine X_reg [1, 2] [] [] (fun ν1 => (True)) (fun ν1 => []) (fun ν1 => [(1, (.str T)), (2, (.ptr (ν1 0) 0))]) (fun ν1 => ⟨(ν1 0), true, .cells [(.int .u8 k), (.int .i64 x), (.int .i64 y)]⟩ :: O) (fun ν1 => by kernel_rfl) (fun ν1 => trivial) ?_
  intro ν1
  refine C_assoc ?_
  refine X_reg [1, 2, 12] [] [] (fun _ => (True)) (fun _ => []) (fun _ => [(1, (.str T)), (2, (.ptr (ν1 0) 0)), (12, (.bool (decide (30 < ((T.length : Nat) : Int)))))]) (fun _ => ⟨(ν1 0), true, .cells [(.int .u8 k), (.int .i64 x), (.int .i64 y)]⟩ :: O) (fun _ => by kernel_rfl) (fun _ => trivial) ?_
  intro _
  refine C_if_f (x := _) (xp_f (by rw [decide_eq_false_iff_not]; omega)) ?_
  refine C_skip ?_
  refine X_reg [1, 2, 5] [] [] (fun _ => (True)) (fun _ => []) (fun _ => [(1, (.str T)), (2, (.ptr (ν1 0) 0)), (5, (.str []))]) (fun _ => ⟨(ν1 0), true, .cells [(.int .u8 k), (.int .i64 x), (.int .i64 y)]⟩ :: O) (fun _ => by kernel_rfl) (fun _ => trivial) ?_
  intro _
  refine C_assoc ?_
  refine X_reg [1, 2, 5, 15] [] [(.ld (.e 0)), (.cl (.int .i64 1))] (fun _ => (SpecQ (BB mx) (RN mx (n+8)) 13 [(.agg [(.int .u8 k), (.int .i64 x), (.int .i64 y)])] [] fun u_ N_ => u_ = (.int .i64 1) ∧ N_ = []) ∧ (True)) (fun _ => [(ν1 0)]) (fun _ => [(1, (.str T)), (2, (.ptr (ν1 0) 0)), (5, (.str [])), (15, (.bool true))]) (fun _ => ⟨(ν1 0), true, .cells [(.int .u8 k), (.int .i64 x), (.int .i64 y)]⟩ :: O) (fun _ => by kernel_rfl) (fun _ => ⟨s13t _ _ _ _ h0 hv, trivial⟩) ?_
  intro _
  refine C_if_t rfl ?_
  refine C_assoc ?_
  refine X_reg [1, 2, 5] [] [(.ld (.e 0)), (.cl (.str (TX k x y)))] (fun _ => (SpecQ (BB mx) (RN mx (n+8)) 29 [(.agg [(.int .u8 k), (.int .i64 x), (.int .i64 y)])] [] fun u_ N_ => u_ = (.str (TX k x y)) ∧ N_ = []) ∧ (True)) (fun _ => [(ν1 0)]) (fun _ => [(1, (.str T)), (2, (.ptr (ν1 0) 0)), (5, (.str (TX k x y)))]) (fun _ => ⟨(ν1 0), true, .cells [(.int .u8 k), (.int .i64 x), (.int .i64 y)]⟩ :: O) (fun _ => by kernel_rfl) (fun _ => ⟨s29 _ _ _ _ (by have := hv; unfold vm at this; omega), trivial⟩) ?_
  intro _
  refine C_assoc ?_
  refine X_reg [1, 2, 5, 6, 7] [] [.c, (.cl (.tup [(.agg [(.int .u8 k), (.int .i64 x), (.int .i64 y)]), (.int .i64 0)])), .c, .c, .c, .c, (.st 0)] (fun ν6 => (SpecQ (BB mx) (RN mx (n+8)) 30 [(.str (TX k x y))] [] fun u_ N_ => u_ = (.tup [(.agg [(.int .u8 k), (.int .i64 x), (.int .i64 y)]), (.int .i64 0)]) ∧ N_ = []) ∧ (True)) (fun ν6 => [(ν6 0)]) (fun ν6 => [(1, (.str T)), (2, (.ptr (ν1 0) 0)), (5, (.str (TX k x y))), (6, (.ptr (ν6 0) 0)), (7, (.int .i64 0))]) (fun ν6 => ⟨(ν6 0), true, .cells [(.int .u8 k), (.int .i64 x), (.int .i64 y)]⟩ :: ⟨(ν1 0), true, .cells [(.int .u8 k), (.int .i64 x), (.int .i64 y)]⟩ :: O) (fun ν6 => by kernel_rfl) (fun ν6 => ⟨s30ok _ _ _ _ h0 hv, trivial⟩) ?_
  intro ν6
  refine C_assoc ?_
  refine X_reg [1, 2, 5, 29] [0] [(.ld (.e 0)), (.ld (.e 1)), .c, .c, (.g .c), (.g .c), .pk] (fun _ => (True)) (fun _ => [(ν6 0), (ν1 0)]) (fun _ => [(1, (.str T)), (2, (.ptr (ν1 0) 0)), (5, (.str (TX k x y))), (29, (.bool ((!((decide (k = k)) && ((decide (x = x)) && (decide (y = y))))) || false)))]) (fun _ => ⟨(ν1 0), true, .cells [(.int .u8 k), (.int .i64 x), (.int .i64 y)]⟩ :: O) (fun _ => by kernel_rfl) (fun _ => trivial) ?_
  intro _
  refine C_if_f (x := _) (xp_f (by simp)) ?_
  refine C_skip ?_
  refine C_assoc ?_
  refine X_reg [1, 33] [0] [(.ld (.e 0)), (.cl (.str (TX k x y)))] (fun _ => (SpecQ (BB mx) (RN mx (n+8)) 31 [(.agg [(.int .u8 k), (.int .i64 x), (.int .i64 y)])] [] fun u_ N_ => u_ = (.str (TX k x y)) ∧ N_ = []) ∧ (True)) (fun _ => [(ν1 0)]) (fun _ => [(1, (.str T)), (33, (.bool (decide ((TX k x y) ≠ (TX k x y)))))]) (fun _ => O) (fun _ => by kernel_rfl) (fun _ => ⟨s31 _ _ _ _ h0 hv, trivial⟩) ?_
  intro _
  refine C_if_f (x := _) (xp_f (by simp)) ?_
  refine C_skip ?_
  refine X_reg [1, 8, 9] [] [.c, (.cl (.tup [(.agg [(.int .u8 0), (.int .i64 0), (.int .i64 0)]), (.int .i64 4)])), .c, .c, .c, .c, (.st 0)] (fun ν9 => (SpecQ (BB mx) (RN mx (n+8)) 30 [(.str T)] [] fun u_ N_ => u_ = (.tup [(.agg [(.int .u8 0), (.int .i64 0), (.int .i64 0)]), (.int .i64 4)]) ∧ N_ = []) ∧ (True)) (fun ν9 => [(ν9 0)]) (fun ν9 => [(1, (.str T)), (8, (.ptr (ν9 0) 0)), (9, (.int .i64 4))]) (fun ν9 => ⟨(ν9 0), true, .cells [(.int .u8 0), (.int .i64 0), (.int .i64 0)]⟩ :: O) (fun ν9 => by kernel_rfl) (fun ν9 => ⟨h30, trivial⟩) ?_
  intro ν9
  refine C_assoc ?_
  refine X_reg [1, 8, 9, 40] [] [] (fun _ => (True)) (fun _ => []) (fun _ => [(1, (.str T)), (8, (.ptr (ν9 0) 0)), (9, (.int .i64 4)), (40, (.bool true))]) (fun _ => ⟨(ν9 0), true, .cells [(.int .u8 0), (.int .i64 0), (.int .i64 0)]⟩ :: O) (fun _ => by kernel_rfl) (fun _ => trivial) ?_
  intro _
  refine C_if_t rfl ?_
  refine C_assoc ?_
  refine X_reg [4] [0] [.c, .c, .c, (.ld (.e 0)), .c, .c, .c, .c, (.cl (.bool true))] (fun _ => (SpecQ (BB mx) (RN mx (n+8)) 14 [] [] fun u_ N_ => u_ = (.bool true) ∧ N_ = []) ∧ (True)) (fun _ => [(ν9 0)]) (fun _ => [(4, (.bool true))]) (fun _ => O) (fun _ => by kernel_rfl) (fun _ => ⟨s14t _, trivial⟩) ?_
  intro _
  refine C_ret ?_
  exact RetQ_ret (vs := [(.bool true)]) (N := []) (ResV.t rfl ResV.nil) ⟨by rfl, rfl⟩ (.refl _)
theorem s8no (n : Nat) (T : List Nat) (k x y : Int) (h0 : 0 ≤ k ∧ k ≤ 255) (hl : T.length ≤ 30) (hv : ¬ vm k x y) (K X Y : Int) (H0 : 0 ≤ K ∧ K ≤ 255) (HV : vm K X Y) (hT : T = TX K X Y) (h30 : SV mx (n+8) 30 [.str T] (.tup [.agg [.int .u8 K, .int .i64 X, .int .i64 Y], .int .i64 0])) : SV mx (n+9) 8 [.agg [.int .u8 k, .int .i64 x, .int .i64 y], .str T] (.bool true) := by
  refine SpecQ_run (c := k8) rfl rfl rfl ?_
  intro ro O _
  refine X_reg [1, 2] [] [] (fun ν1 => (True)) (fun ν1 => []) (fun ν1 => [(1, (.str T)), (2, (.ptr (ν1 0) 0))]) (fun ν1 => ⟨(ν1 0), true, .cells [(.int .u8 k), (.int .i64 x), (.int .i64 y)]⟩ :: O) (fun ν1 => by kernel_rfl) (fun ν1 => trivial) ?_
  intro ν1
  refine C_assoc ?_
  refine X_reg [1, 2, 12] [] [] (fun _ => (True)) (fun _ => []) (fun _ => [(1, (.str T)), (2, (.ptr (ν1 0) 0)), (12, (.bool (decide (30 < ((T.length : Nat) : Int)))))]) (fun _ => ⟨(ν1 0), true, .cells [(.int .u8 k), (.int .i64 x), (.int .i64 y)]⟩ :: O) (fun _ => by kernel_rfl) (fun _ => trivial) ?_
  intro _
  refine C_if_f (x := _) (xp_f (by rw [decide_eq_false_iff_not]; omega)) ?_
  refine C_skip ?_
  refine X_reg [1, 2, 5] [] [] (fun _ => (True)) (fun _ => []) (fun _ => [(1, (.str T)), (2, (.ptr (ν1 0) 0)), (5, (.str []))]) (fun _ => ⟨(ν1 0), true, .cells [(.int .u8 k), (.int .i64 x), (.int .i64 y)]⟩ :: O) (fun _ => by kernel_rfl) (fun _ => trivial) ?_
  intro _
  refine C_assoc ?_
  refine X_reg [1, 2, 5, 15] [] [(.ld (.e 0)), (.cl (.int .i64 0))] (fun _ => (SpecQ (BB mx) (RN mx (n+8)) 13 [(.agg [(.int .u8 k), (.int .i64 x), (.int .i64 y)])] [] fun u_ N_ => u_ = (.int .i64 0) ∧ N_ = []) ∧ (True)) (fun _ => [(ν1 0)]) (fun _ => [(1, (.str T)), (2, (.ptr (ν1 0) 0)), (5, (.str [])), (15, (.bool false))]) (fun _ => ⟨(ν1 0), true, .cells [(.int .u8 k), (.int .i64 x), (.int .i64 y)]⟩ :: O) (fun _ => by kernel_rfl) (fun _ => ⟨s13n _ _ _ _ h0 hv, trivial⟩) ?_
  intro _
  refine C_if_f rfl ?_
  refine C_skip ?_
  refine C_assoc ?_
  refine X_reg [1, 33] [0] [(.ld (.e 0)), (.cl (.str ([] : List Nat)))] (fun _ => (SpecQ (BB mx) (RN mx (n+8)) 31 [(.agg [(.int .u8 k), (.int .i64 x), (.int .i64 y)])] [] fun u_ N_ => u_ = (.str ([] : List Nat)) ∧ N_ = []) ∧ (True)) (fun _ => [(ν1 0)]) (fun _ => [(1, (.str T)), (33, (.bool (decide (([] : List Nat) ≠ []))))]) (fun _ => O) (fun _ => by kernel_rfl) (fun _ => ⟨s31n _ _ _ _ h0 hv, trivial⟩) ?_
  intro _
  refine C_if_f (x := _) (xp_f (by simp)) ?_
  refine C_skip ?_
  refine X_reg [1, 8, 9] [] [.c, (.cl (.tup [(.agg [(.int .u8 K), (.int .i64 X), (.int .i64 Y)]), (.int .i64 0)])), .c, .c, .c, .c, (.st 0)] (fun ν6 => (SpecQ (BB mx) (RN mx (n+8)) 30 [(.str T)] [] fun u_ N_ => u_ = (.tup [(.agg [(.int .u8 K), (.int .i64 X), (.int .i64 Y)]), (.int .i64 0)]) ∧ N_ = []) ∧ (True)) (fun ν6 => [(ν6 0)]) (fun ν6 => [(1, (.str T)), (8, (.ptr (ν6 0) 0)), (9, (.int .i64 0))]) (fun ν6 => ⟨(ν6 0), true, .cells [(.int .u8 K), (.int .i64 X), (.int .i64 Y)]⟩ :: O) (fun ν6 => by kernel_rfl) (fun ν6 => ⟨h30, trivial⟩) ?_
  intro ν6
  refine C_assoc ?_
  refine X_reg [1, 8, 9, 40] [] [] (fun _ => (True)) (fun _ => []) (fun _ => [(1, (.str T)), (8, (.ptr (ν6 0) 0)), (9, (.int .i64 0)), (40, (.bool false))]) (fun _ => ⟨(ν6 0), true, .cells [(.int .u8 K), (.int .i64 X), (.int .i64 Y)]⟩ :: O) (fun _ => by kernel_rfl) (fun _ => trivial) ?_
  intro _
  refine C_if_f rfl ?_
  refine C_skip ?_
  refine X_reg [4] [0] [(.ld (.e 0)), (.cl (.int .i64 1)), .c, .c, (.ld (.e 0)), (.cl (.str (TX K X Y))), .c, .c, .c, .c, (.g (.cl (.bool true))), .pk] (fun _ => (SpecQ (BB mx) (RN mx (n+8)) 13 [(.agg [(.int .u8 K), (.int .i64 X), (.int .i64 Y)])] [] fun u_ N_ => u_ = (.int .i64 1) ∧ N_ = []) ∧ (SpecQ (BB mx) (RN mx (n+8)) 29 [(.agg [(.int .u8 K), (.int .i64 X), (.int .i64 Y)])] [] fun u_ N_ => u_ = (.str (TX K X Y)) ∧ N_ = []) ∧ (((decide ((TX K X Y) = T)) = true → SpecQ (BB mx) (RN mx (n+8)) 14 [] [] fun u_ N_ => u_ = (.bool true) ∧ N_ = [])) ∧ (True)) (fun _ => [(ν6 0), (ν6 0)]) (fun _ => [(4, (.bool ((decide ((TX K X Y) = T)) && true)))]) (fun _ => O) (fun _ => by kernel_rfl) (fun _ => ⟨s13t _ _ _ _ H0 HV, s29 _ _ _ _ (by have := HV; unfold vm at this; omega), (fun hg => s14t _), trivial⟩) ?_
  intro _
  refine W_ret ?_
  exact RetQ_ret (vs := [(.bool ((decide ((TX K X Y) = T)) && true))]) (N := []) (ResV.t rfl ResV.nil) ⟨(by rw [decide_eq_true hT.symm]; rfl), rfl⟩ (.refl _)
theorem s8ne (n : Nat) (T : List Nat) (k x y : Int) (h0 : 0 ≤ k ∧ k ≤ 255) (hl : T.length ≤ 30) (hv : ¬ vm k x y) (h30 : SV mx (n+8) 30 [.str T] (.tup [.agg [.int .u8 0, .int .i64 0, .int .i64 0], .int .i64 4])) : SV mx (n+9) 8 [.agg [.int .u8 k, .int .i64 x, .int .i64 y], .str T] (.bool true) := by
  refine SpecQ_run (c := k8) rfl rfl rfl ?_
  intro ro O _
  refine X_reg [1, 2] [] [] (fun ν1 => (True)) (fun ν1 => []) (fun ν1 => [(1, (.str T)), (2, (.ptr (ν1 0) 0))]) (fun ν1 => ⟨(ν1 0), true, .cells [(.int .u8 k), (.int .i64 x), (.int .i64 y)]⟩ :: O) (fun ν1 => by kernel_rfl) (fun ν1 => trivial) ?_
  intro ν1
  refine C_assoc ?_
  refine X_reg [1, 2, 12] [] [] (fun _ => (True)) (fun _ => []) (fun _ => [(1, (.str T)), (2, (.ptr (ν1 0) 0)), (12, (.bool (decide (30 < ((T.length : Nat) : Int)))))]) (fun _ => ⟨(ν1 0), true, .cells [(.int .u8 k), (.int .i64 x), (.int .i64 y)]⟩ :: O) (fun _ => by kernel_rfl) (fun _ => trivial) ?_
  intro _
  refine C_if_f (x := _) (xp_f (by rw [decide_eq_false_iff_not]; omega)) ?_
  refine C_skip ?_
  refine X_reg [1, 2, 5] [] [] (fun _ => (True)) (fun _ => []) (fun _ => [(1, (.str T)), (2, (.ptr (ν1 0) 0)), (5, (.str []))]) (fun _ => ⟨(ν1 0), true, .cells [(.int .u8 k), (.int .i64 x), (.int .i64 y)]⟩ :: O) (fun _ => by kernel_rfl) (fun _ => trivial) ?_
  intro _
  refine C_assoc ?_
  refine X_reg [1, 2, 5, 15] [] [(.ld (.e 0)), (.cl (.int .i64 0))] (fun _ => (SpecQ (BB mx) (RN mx (n+8)) 13 [(.agg [(.int .u8 k), (.int .i64 x), (.int .i64 y)])] [] fun u_ N_ => u_ = (.int .i64 0) ∧ N_ = []) ∧ (True)) (fun _ => [(ν1 0)]) (fun _ => [(1, (.str T)), (2, (.ptr (ν1 0) 0)), (5, (.str [])), (15, (.bool false))]) (fun _ => ⟨(ν1 0), true, .cells [(.int .u8 k), (.int .i64 x), (.int .i64 y)]⟩ :: O) (fun _ => by kernel_rfl) (fun _ => ⟨s13n _ _ _ _ h0 hv, trivial⟩) ?_
  intro _
  refine C_if_f rfl ?_
  refine C_skip ?_
  refine C_assoc ?_
  refine X_reg [1, 33] [0] [(.ld (.e 0)), (.cl (.str ([] : List Nat)))] (fun _ => (SpecQ (BB mx) (RN mx (n+8)) 31 [(.agg [(.int .u8 k), (.int .i64 x), (.int .i64 y)])] [] fun u_ N_ => u_ = (.str ([] : List Nat)) ∧ N_ = []) ∧ (True)) (fun _ => [(ν1 0)]) (fun _ => [(1, (.str T)), (33, (.bool (decide (([] : List Nat) ≠ []))))]) (fun _ => O) (fun _ => by kernel_rfl) (fun _ => ⟨s31n _ _ _ _ h0 hv, trivial⟩) ?_
  intro _
  refine C_if_f (x := _) (xp_f (by simp)) ?_
  refine C_skip ?_
  refine X_reg [1, 8, 9] [] [.c, (.cl (.tup [(.agg [(.int .u8 0), (.int .i64 0), (.int .i64 0)]), (.int .i64 4)])), .c, .c, .c, .c, (.st 0)] (fun ν6 => (SpecQ (BB mx) (RN mx (n+8)) 30 [(.str T)] [] fun u_ N_ => u_ = (.tup [(.agg [(.int .u8 0), (.int .i64 0), (.int .i64 0)]), (.int .i64 4)]) ∧ N_ = []) ∧ (True)) (fun ν6 => [(ν6 0)]) (fun ν6 => [(1, (.str T)), (8, (.ptr (ν6 0) 0)), (9, (.int .i64 4))]) (fun ν6 => ⟨(ν6 0), true, .cells [(.int .u8 0), (.int .i64 0), (.int .i64 0)]⟩ :: O) (fun ν6 => by kernel_rfl) (fun ν6 => ⟨h30, trivial⟩) ?_
  intro ν6
  refine C_assoc ?_
  refine X_reg [1, 8, 9, 40] [] [] (fun _ => (True)) (fun _ => []) (fun _ => [(1, (.str T)), (8, (.ptr (ν6 0) 0)), (9, (.int .i64 4)), (40, (.bool true))]) (fun _ => ⟨(ν6 0), true, .cells [(.int .u8 0), (.int .i64 0), (.int .i64 0)]⟩ :: O) (fun _ => by kernel_rfl) (fun _ => trivial) ?_
  intro _
  refine C_if_t rfl ?_
  refine C_assoc ?_
  refine X_reg [4] [0] [.c, .c, .c, (.ld (.e 0)), .c, .c, .c, .c, (.cl (.bool true))] (fun _ => (SpecQ (BB mx) (RN mx (n+8)) 14 [] [] fun u_ N_ => u_ = (.bool true) ∧ N_ = []) ∧ (True)) (fun _ => [(ν6 0)]) (fun _ => [(4, (.bool true))]) (fun _ => O) (fun _ => by kernel_rfl) (fun _ => ⟨s14t _, trivial⟩) ?_
  intro _
  refine C_ret ?_
  exact RetQ_ret (vs := [(.bool true)]) (N := []) (ResV.t rfl ResV.nil) ⟨by rfl, rfl⟩ (.refl _)
theorem s8 (n : Nat) (T : List Nat) (k x y : Int) (h0 : 0 ≤ k ∧ k ≤ 255) : SV mx (n+9) 8 [.agg [.int .u8 k, .int .i64 x, .int .i64 y], .str T] (.bool true) := by
  by_cases hl : 30 < T.length
  · exact s8l n T k x y h0 hl
  · by_cases hv : vm k x y
    · rcases s30any (n+1) T (by omega) with h | ⟨K, X, Y, H0, HV, hT, h⟩
      · exact s8ve n T k x y h0 (by omega) hv h
      · exact s8vo n T k x y h0 (by omega) hv K X Y H0 HV hT h
    · rcases s30any (n+1) T (by omega) with h | ⟨K, X, Y, H0, HV, hT, h⟩
      · exact s8ne n T k x y h0 (by omega) hv h
      · exact s8no n T k x y h0 (by omega) hv K X Y H0 HV hT h
end Vm
end Go.Proofs.YtgncjbodicabnaaDoor

