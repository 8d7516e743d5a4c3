/-
  Piles: plain laws: ends, places, orders.
  Piles: the plain law PilesProfile.
  Piles: the plain law PilesProfile: Profile; the law.
  Piles: the law PilesProfile.
-/
import Derived.Test.YtdngfcfomcffmaaGreatDoorPLa
import Derived.KernelRfl
set_option linter.unusedSimpArgs false
set_option linter.unusedVariables false

namespace Go.Vm
namespace X
open W Go.Proofs.St
theorem lives17 : law17_lives fuel () = some true := by kernel_rfl
theorem take_snoc {L : List Int} {i : Nat} (h : i < L.length) : L.take (i + 1) = L.take i ++ [L.getD i 0] := by
  rw [List.take_add_one, List.getD, List.getElem?_eq_getElem h]; rfl
theorem chk_t {β : Type} {c : Bool} {x : Option β} (h : c = true) : chk c x = x := by rw [h]; rfl
theorem law17_ends_ok {s : List Int × List Int} (h : Valid s) : law17_ends fuel s = some (endsL s.1) := by
  obtain ⟨h1, h2, h3, h4⟩ := h
  apply Ret.eq
  unfold law17_ends
  refine Ret_loop (Inv := fun x : List Int × Int => 0 ≤ x.2 ∧ x.2 ≤ s.1.length ∧ x.1 = (List.range (x.2.toNat + 1)).map (eAt s.1)) (m := fun x => ((s.1.length : Int) - x.2).toNat) ?_ _ _ ⟨by simp, by simp, rfl⟩ (by simp only [fuel]; omega)
  rintro ⟨out, i⟩ rec ⟨i1, i2, i3⟩ ih
  simp only at i1 i2 i3 ⊢
  obtain ⟨n, rfl⟩ := Int.eq_ofNat_of_zero_le i1
  simp only [Int.toNat_natCast] at i3 ⊢
  refine Ret_dec (fun hlt => ?_) fun hge => ?_
  · have hx := h3 _ (getD_mem (L := s.1) (i := n) (by omega))
    have hb := eAt_bd (L := s.1) h3 n (by omega)
    have hlen : out.length = n + 1 := by rw [i3]; simp
    have hg : out.getD n 0 = eAt s.1 n := by rw [i3, List.getD, List.getElem?_map, List.getElem?_range (by omega)]; rfl
    have step : eAt s.1 (n + 1) = eAt s.1 n + s.1.getD n 0 * (1 - 2 * ((n : Int) % 2)) := rfl
    have nxt : ∀ v : Int, v = eAt s.1 (n + 1) → Ret (rec (out ++ [v], (n : Int) + 1)) fun x => x = endsL s.1 := fun v hv => by
      refine ih _ ⟨by simp only; omega, by simp only; omega, ?_⟩ (by simp only; omega)
      simp only
      rw [hv, i3, show ((n : Int) + 1).toNat = n + 1 by omega, ← ends_snoc]
    refine Ret_chk (inb_t (by omega) (by omega)) (Ret_chk (by rw [Bool.and_eq_true]; exact ⟨decide_eq_true (by omega), rfl⟩) ?_)
    refine Ret_dec (fun ho => ?_) fun he => ?_
    · refine Ret_chk (i64b_t (by omega) (by omega)) (Ret_chk (inb_t (by omega) (by omega)) ?_)
      rw [hg]
      refine Ret_chk (i64b_t (by omega) (by omega)) (Ret_chk (lenOk_t (by omega)) (Ret_chk (i64b_t (by omega) (by omega)) (nxt _ ?_)))
      rw [step, ho]; omega
    · refine Ret_chk (inb_t (by omega) (by omega)) ?_
      rw [hg]
      refine Ret_chk (i64b_t (by omega) (by omega)) (Ret_chk (lenOk_t (by omega)) (Ret_chk (i64b_t (by omega) (by omega)) (nxt _ ?_)))
      rw [step, show (n : Int) % 2 = 0 by omega]; omega
  · exact Ret_some (by rw [i3, show n = s.1.length by omega]; rfl)
def frm (E : List Int) (i : Nat) : Int := min (E.getD i 0) (E.getD (i + 1) 0)
def too (E : List Int) (i : Nat) : Int := max (E.getD i 0) (E.getD (i + 1) 0)
theorem from_ok {L K E : List Int} {i : Int} (h0 : 0 ≤ i) (h1 : i + 1 < E.length) (h2 : E.length ≤ 10000) : piles_folded_from fuel (((L, K), E), i) = some (frm E i.toNat) := by
  unfold piles_folded_from
  rw [chk_t (inb_t h0 (by simp only; omega)), chk_t (i64b_t (by simp only; omega) (by simp only; omega)), chk_t (inb_t (by simp only; omega) (by simp only; omega))]
  simp only [frm, show (i + 1).toNat = i.toNat + 1 by omega]
theorem to_ok {L K E : List Int} {i : Int} (h0 : 0 ≤ i) (h1 : i + 1 < E.length) (h2 : E.length ≤ 10000) : piles_folded_to fuel (((L, K), E), i) = some (too E i.toNat) := by
  unfold piles_folded_to
  rw [chk_t (inb_t h0 (by simp only; omega)), chk_t (i64b_t (by simp only; omega) (by simp only; omega)), chk_t (inb_t (by simp only; omega) (by simp only; omega))]
  simp only [too, show (i + 1).toNat = i.toNat + 1 by omega]
def ovl (E : List Int) (i k : Nat) : Bool := decide (frm E i < too E k) && decide (frm E k < too E i)
theorem overlap_ok {L K E : List Int} {i k : Int} (h0 : 0 ≤ i) (h1 : i + 1 < E.length) (g0 : 0 ≤ k) (g1 : k + 1 < E.length) (h2 : E.length ≤ 10000) : piles_folded_overlap fuel (((L, K), E), (i, k)) = some (ovl E i.toNat k.toNat) := by
  unfold piles_folded_overlap
  simp only
  rw [from_ok h0 h1 h2, to_ok g0 g1 h2, from_ok g0 g1 h2, to_ok h0 h1 h2]
  simp only [Option.bind_some, ovl]
  by_cases h : frm E i.toNat < too E k.toNat
  · rw [decide_eq_true h, cond_true, Bool.true_and]
  · rw [decide_eq_false h, cond_false, Bool.false_and]
theorem of_ok {s : List Int × List Int} (h : Valid s) : piles_of fuel s = some ((s, endsL s.1), 0) := by
  unfold piles_of
  rw [show (s.1, s.2) = s from rfl, strips_Ends_valid h]
  simp only [Option.bind_some]
  rw [chk_t (by simp [capIs])]
theorem of_err {s : List Int × List Int} (h : s.2.length ≤ 1000) (he : ckS s ≠ 0) : piles_of fuel s = some ((s, []), ckS s) := by
  unfold piles_of
  rw [show (s.1, s.2) = s from rfl, ends_err h he]
  simp only [Option.bind_some]
  rw [chk_t (by simp [capIs])]
def isOver (E : List Int) (at_ n : Int) : Bool := decide (frm E n.toNat ≤ at_) && decide (at_ < too E n.toNat)
def overL (E p : List Int) (at_ : Int) : List Int := p.filter (isOver E at_)
def In (n : Nat) (p : List Int) : Prop := ∀ x ∈ p, 0 ≤ x ∧ x < n
theorem filter_snoc {f : Int → Bool} {p : List Int} {i : Nat} (h : i < p.length) : (p.take (i + 1)).filter f = (p.take i).filter f ++ (bif f (p.getD i 0) then [p.getD i 0] else []) := by
  rw [take_snoc h, List.filter_append, List.filter_cons, List.filter_nil]
  cases f (p.getD i 0) <;> simp
theorem over_ok {s : List Int × List Int} (h : Valid s) {p : List Int} (hp : In s.1.length p) (hl : p.length ≤ 10000) (at_ : Int) : law17_over fuel (s, (p, at_)) = some (overL (endsL s.1) p at_) := by
  apply Ret.eq
  unfold law17_over
  refine Ret_bind (Ret.of (law17_ends_ok (s := (s.1, s.2)) h)) fun r e => ?_
  subst e
  have hel := endsL_len s.1
  have hn := h.1
  refine Ret_loop (Inv := fun x : List Int × Int => 0 ≤ x.2 ∧ x.2 ≤ p.length ∧ x.1 = (p.take x.2.toNat).filter (isOver (endsL s.1) at_)) (m := fun x => ((p.length : Int) - x.2).toNat) ?_ _ _ ⟨by simp, by simp, by simp⟩ (by simp only [fuel]; omega)
  rintro ⟨out, i⟩ rec ⟨i1, i2, i3⟩ ih
  simp only at i1 i2 i3 ⊢
  refine Ret_dec (fun hlt => ?_) fun hge => ?_
  · have hx := hp _ (getD_mem (L := p) (i := i.toNat) (by omega))
    have hfil : out.length ≤ i.toNat := by rw [i3]; exact Nat.le_trans (List.length_filter_le ..) (by simp; omega)
    have es := filter_snoc (f := isOver (endsL s.1) at_) (p := p) (i := i.toNat) (by omega)
    have hin := inb_t (i := i) (n := p.length) (by omega) (by omega)
    generalize p.getD i.toNat 0 = q at hx es ⊢
    have e1 : (q + 1).toNat = q.toNat + 1 := by omega
    have nxt : ∀ o : List Int, o = (p.take (i.toNat + 1)).filter (isOver (endsL s.1) at_) → Ret (chk (i64b (i + 1)) (rec (o, i + 1))) fun x => x = overL (endsL s.1) p at_ := fun o ho =>
      Ret_chk (i64b_t (by omega) (by omega)) (ih _ ⟨by simp only; omega, by simp only; omega, by simp only; rw [ho, show (i + 1).toNat = i.toNat + 1 by omega]⟩ (by simp only; omega))
    refine Ret_chk hin (Ret_chk (inb_t (by omega) (by omega)) (Ret_chk (i64b_t (by omega) (by omega)) (Ret_chk (inb_t (by omega) (by omega)) ?_)))
    rw [e1]
    have ef : isOver (endsL s.1) at_ q = (decide (min ((endsL s.1).getD q.toNat 0) ((endsL s.1).getD (q.toNat + 1) 0) ≤ at_) && decide (at_ < max ((endsL s.1).getD q.toNat 0) ((endsL s.1).getD (q.toNat + 1) 0))) := rfl
    refine Ret_dec (fun h1 => ?_) fun h1 => ?_
    · refine Ret_chk (inb_t (by omega) (by omega)) (Ret_chk (i64b_t (by omega) (by omega)) (Ret_chk (inb_t (by omega) (by omega)) ?_))
      refine Ret_dec (fun h2 => ?_) fun h2 => ?_
      · refine Ret_chk (lenOk_t (by omega)) (nxt _ ?_)
        rw [es, ef, decide_eq_true h1, decide_eq_true h2, i3]; rfl
      · refine nxt _ ?_
        rw [es, ef, decide_eq_false h2, i3, Bool.and_false, cond_false, List.append_nil]
    · refine nxt _ ?_
      rw [es, ef, decide_eq_false h1, i3, Bool.false_and, cond_false, List.append_nil]
  · exact Ret_some (by rw [i3, List.take_of_length_le (by omega)]; rfl)
def idL (n : Nat) : List Int := (List.range n).map Int.ofNat
theorem idL_len (n : Nat) : (idL n).length = n := by simp [idL]
theorem idL_snoc (n : Nat) : idL (n + 1) = idL n ++ [(n : Int)] := by simp [idL, List.range_succ]
theorem mem_idL {n : Nat} {x : Int} : x ∈ idL n ↔ 0 ≤ x ∧ x < n := by
  simp only [idL, List.mem_map, List.mem_range]
  constructor
  · rintro ⟨a, h, rfl⟩; exact ⟨by simp, by simp; omega⟩
  · intro h; exact ⟨x.toNat, by omega, by simp; omega⟩
theorem idL_nodup (n : Nat) : (idL n).Nodup := by
  unfold idL
  exact List.nodup_range.map (f := Int.ofNat) (fun a b h h2 => h (Int.ofNat.inj h2))
def Ord (n : Nat) (p : List Int) : Prop := p.Perm (idL n)
theorem Ord.len {n : Nat} {p : List Int} (h : Ord n p) : p.length = n := by rw [h.length_eq, idL_len]
theorem Ord.in {n : Nat} {p : List Int} (h : Ord n p) : In n p := fun x hx => mem_idL.1 (h.mem_iff.1 hx)
theorem Ord.nodup {n : Nat} {p : List Int} (h : Ord n p) : p.Nodup := h.nodup_iff.2 (idL_nodup n)
theorem Ord.mem {n : Nat} {p : List Int} (h : Ord n p) {i : Nat} (hi : i < n) : (i : Int) ∈ p := h.mem_iff.2 (mem_idL.2 ⟨by omega, by omega⟩)
theorem left_loop {n : Nat} (hn : n ≤ 1000) {K : List Int → Option (List Int)} {Q : List Int → Prop} (hK : Ret (K (idL n)) Q) :
    Ret (loopF (fun rec1 (x1 : ((List Int) × Int)) => bif (decide (x1.2 < (n : Int))) then (chk (lenOk (x1.1.length + 1)) (chk (i64b (x1.2 + 1)) (rec1 ((x1.1 ++ [x1.2]), (x1.2 + 1))))) else K x1.1) fuel ([], 0)) Q := by
  refine Ret_loop (Inv := fun x : List Int × Int => 0 ≤ x.2 ∧ x.2 ≤ n ∧ x.1 = idL x.2.toNat) (m := fun x => ((n : Int) - x.2).toNat) ?_ _ _ ⟨by simp, by simp, rfl⟩ (by simp only [fuel]; omega)
  rintro ⟨out, i⟩ rec ⟨i1, i2, i3⟩ ih
  simp only at i1 i2 i3 ⊢
  obtain ⟨k, rfl⟩ := Int.eq_ofNat_of_zero_le i1
  simp only [Int.toNat_natCast] at i3
  subst i3
  refine Ret_dec (fun hlt => ?_) fun hge => ?_
  · refine Ret_chk (lenOk_t (by rw [idL_len]; omega)) (Ret_chk (i64b_t (by omega) (by omega)) (ih _ ⟨by simp only; omega, by simp only; omega, ?_⟩ (by simp only; omega)))
    simp only
    rw [show ((k : Int) + 1).toNat = k + 1 by omega, idL_snoc]
  · rw [show k = n by omega]; exact hK
theorem take_drop_all {L : List Int} {k : Nat} : (L.drop (k + 1)).take (L.length - (k + 1)) = L.drop (k + 1) := List.take_of_length_le (by simp)
theorem O_Of_ok {y : List Int} (hy : bytes y) {n : Nat} (hn : n ≤ 1000) : Ret (law17_O_Of fuel (y, (n : Int))) fun p => Ord n p := by
  unfold law17_O_Of
  refine left_loop (n := n) hn (K := fun l => loopF _ fuel (l, ([], 0))) ?_
  refine Ret_loop (Inv := fun x : List Int × (List Int × Int) => 0 ≤ x.2.2 ∧ x.2.2 ≤ n ∧ (x.1 ++ x.2.1).Perm (idL n) ∧ (x.1.length : Int) = n - x.2.2) (m := fun x => ((n : Int) - x.2.2).toNat) ?_ _ _ ⟨by simp, by simp, by simp, by simp [idL_len]⟩ (by simp only [fuel]; omega)
  rintro ⟨left, out, i⟩ rec ⟨i1, i2, i3, i4⟩ ih
  simp only at i1 i2 i3 i4 ⊢
  have hlen := i3.length_eq
  rw [List.length_append, idL_len] at hlen
  have perm : ∀ k : Nat, k < left.length → ((left.take k ++ left.drop (k + 1)) ++ (out ++ [left.getD k 0])).Perm (idL n) := fun k hk => by
    refine List.Perm.trans ?_ i3
    have e : left = left.take k ++ left.getD k 0 :: left.drop (k + 1) := by
      rw [List.getD, List.getElem?_eq_getElem hk]
      exact (List.take_append_drop k left).symm.trans (by rw [List.drop_eq_getElem_cons hk]; rfl)
    conv => rhs; rw [e]
    simp only [List.append_assoc, List.cons_append]
    refine List.Perm.append_left _ ?_
    refine List.Perm.trans ?_ List.perm_middle
    refine List.Perm.append_left _ ?_
    exact List.perm_append_comm
  refine Ret_dec (fun hlt => ?_) fun hge => ?_
  · have nxt : ∀ k : Nat, k < left.length → Ret (rec (left.take k ++ left.drop (k + 1), (out ++ [left.getD k 0], i + 1))) fun p => Ord n p := fun k hk =>
      ih _ ⟨by simp only; omega, by simp only; omega, perm k hk, by simp only [List.length_append, List.length_take, List.length_drop]; omega⟩ (by simp only; omega)
    refine Ret_dec (fun hiy => ?_) fun hiy => ?_
    · have hb := hy _ (getD_mem (L := y) (i := i.toNat) (by omega))
      generalize y.getD i.toNat 0 = b at hb ⊢
      have hm1 := Int.emod_nonneg b (show ((left.length : Nat) : Int) ≠ 0 by omega)
      have hm2 := Int.emod_lt_of_pos b (show 0 < ((left.length : Nat) : Int) by omega)
      generalize b % ((left.length : Nat) : Int) = k at hm1 hm2 ⊢
      obtain ⟨k, rfl⟩ := Int.eq_ofNat_of_zero_le hm1
      rw [show ((k : Int) + 1).toNat = k + 1 by omega, take_drop_all]
      simp only [Int.toNat_natCast]
      refine Ret_chk (inb_t (by omega) (by omega)) (Ret_chk (i64b_t (by omega) (by omega)) (Ret_chk (by rw [Bool.and_eq_true]; exact ⟨decide_eq_true (by omega), decide_eq_true (by omega)⟩) (Ret_chk (inb_t (by omega) (by omega)) (Ret_chk (lenOk_t (by omega)) (Ret_chk (by simp [bnb]; omega) (Ret_chk (i64b_t (by omega) (by omega)) (Ret_chk (by simp [bnb]; omega) (Ret_chk ?_ (Ret_chk (i64b_t (by omega) (by omega)) (nxt k (by omega)))))))))))
      simp [lenOk, ble_dec]
      omega
    · rw [show (1 : Nat) = 0 + 1 from rfl, take_drop_all]
      refine Ret_chk (inb_t (by omega) (by omega)) (Ret_chk (lenOk_t (by omega)) (Ret_chk (by simp [bnb]) (Ret_chk (by simp [bnb]; omega) (Ret_chk ?_ (Ret_chk (i64b_t (by omega) (by omega)) (nxt 0 (by omega)))))))
      simp [lenOk, ble_dec]
      omega
  · have : left = [] := List.eq_nil_of_length_eq_zero (by omega)
    subst this
    exact Ret_some (by rw [List.nil_append] at i3; exact i3)
end X
end Go.Vm
namespace Go.Vm
namespace X
open W Go.Proofs.St
theorem E_at {s : List Int × List Int} (h : Valid s) {i : Nat} (hi : i ≤ s.1.length) : (endsL s.1).getD i 0 = eAt s.1 i := endsL_getD hi
theorem E_step {s : List Int × List Int} (h : Valid s) {i : Nat} (hi : i < s.1.length) :
    1 ≤ s.1.getD i 0 ∧ s.1.getD i 0 ≤ 64 ∧ ((i % 2 = 0 ∧ (endsL s.1).getD (i + 1) 0 = (endsL s.1).getD i 0 + s.1.getD i 0) ∨ (i % 2 = 1 ∧ (endsL s.1).getD (i + 1) 0 = (endsL s.1).getD i 0 - s.1.getD i 0)) := by
  have hx := h.2.2.1 _ (getD_mem hi)
  rw [E_at h (by omega), E_at h (by omega)]
  have step : eAt s.1 (i + 1) = eAt s.1 i + s.1.getD i 0 * (1 - 2 * ((i : Int) % 2)) := rfl
  refine ⟨hx.1, hx.2, ?_⟩
  rcases (by omega : i % 2 = 0 ∨ i % 2 = 1) with e | e
  · left; refine ⟨e, ?_⟩; rw [step, show (i : Int) % 2 = 0 by omega]; omega
  · right; refine ⟨e, ?_⟩; rw [step, show (i : Int) % 2 = 1 by omega]; omega
theorem E_bd {s : List Int × List Int} (h : Valid s) {i : Nat} (hi : i ≤ s.1.length) : -2048 ≤ (endsL s.1).getD i 0 ∧ (endsL s.1).getD i 0 ≤ 2048 := by
  rw [E_at h hi]
  have := eAt_bd (L := s.1) h.2.2.1 i hi
  have := h.1
  omega
theorem frm_too {s : List Int × List Int} (h : Valid s) {i : Nat} (hi : i < s.1.length) : too (endsL s.1) i = frm (endsL s.1) i + s.1.getD i 0 := by
  obtain ⟨h1, _, h2⟩ := E_step h hi
  unfold too frm
  omega
theorem lo_le {E : List Int} : ∀ {k i : Nat}, i ≤ k → lo E k ≤ E.getD i 0
  | 0, i, h => by obtain rfl : i = 0 := by omega
                  exact Int.le_refl _
  | k + 1, i, h => by
    unfold lo
    by_cases e : i = k + 1
    · subst e; omega
    · have := lo_le (E := E) (k := k) (i := i) (by omega); omega
theorem le_hi {E : List Int} : ∀ {k i : Nat}, i ≤ k → E.getD i 0 ≤ hi E k
  | 0, i, h => by obtain rfl : i = 0 := by omega
                  exact Int.le_refl _
  | k + 1, i, h => by
    unfold hi
    by_cases e : i = k + 1
    · subst e; omega
    · have := le_hi (E := E) (k := k) (i := i) (by omega); omega
theorem lo_at {E : List Int} : ∀ {k : Nat}, ∃ i, i ≤ k ∧ lo E k = E.getD i 0
  | 0 => ⟨0, by omega, rfl⟩
  | k + 1 => by
    obtain ⟨i, h1, h2⟩ := lo_at (E := E) (k := k)
    unfold lo
    rcases (by omega : min (lo E k) (E.getD (k + 1) 0) = lo E k ∨ min (lo E k) (E.getD (k + 1) 0) = E.getD (k + 1) 0) with e | e
    · exact ⟨i, by omega, by rw [e, h2]⟩
    · exact ⟨k + 1, by omega, e⟩
theorem hi_at {E : List Int} : ∀ {k : Nat}, ∃ i, i ≤ k ∧ hi E k = E.getD i 0
  | 0 => ⟨0, by omega, rfl⟩
  | k + 1 => by
    obtain ⟨i, h1, h2⟩ := hi_at (E := E) (k := k)
    unfold hi
    rcases (by omega : max (hi E k) (E.getD (k + 1) 0) = hi E k ∨ max (hi E k) (E.getD (k + 1) 0) = E.getD (k + 1) 0) with e | e
    · exact ⟨i, by omega, by rw [e, h2]⟩
    · exact ⟨k + 1, by omega, e⟩
theorem frm_lo {s : List Int × List Int} {i : Nat} (hi_ : i < s.1.length) : lo (endsL s.1) s.1.length ≤ frm (endsL s.1) i ∧ too (endsL s.1) i ≤ hi (endsL s.1) s.1.length := by
  have h1 := lo_le (E := endsL s.1) (k := s.1.length) (i := i) (by omega)
  have h2 := lo_le (E := endsL s.1) (k := s.1.length) (i := i + 1) (by omega)
  have h3 := le_hi (E := endsL s.1) (k := s.1.length) (i := i) (by omega)
  have h4 := le_hi (E := endsL s.1) (k := s.1.length) (i := i + 1) (by omega)
  unfold frm too
  omega
end X
end Go.Vm
namespace Go.Vm
namespace X
open W Go.Proofs.St
end X
end Go.Vm
namespace Go.Vm
namespace X
open W Go.Proofs.St
theorem mem_overL {E p : List Int} {v x : Int} : x ∈ overL E p v ↔ x ∈ p ∧ frm E x.toNat ≤ v ∧ v < too E x.toNat := by
  simp [overL, isOver, List.mem_filter]
theorem ovl_next {s : List Int × List Int} (h : Valid s) {i : Nat} (hi : i + 1 < s.1.length) : ovl (endsL s.1) i (i + 1) = true := by
  have h1 := E_step h (i := i) (by omega)
  have h2 := E_step h (i := i + 1) (by omega)
  unfold ovl frm too
  simp only [Bool.and_eq_true, decide_eq_true_eq]
  omega
end X
end Go.Vm
