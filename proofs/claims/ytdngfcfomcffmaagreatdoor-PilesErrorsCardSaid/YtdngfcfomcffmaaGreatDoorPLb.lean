/-
  Piles: plain laws: ends, places, orders.
  Piles: the plain law PilesProfile.
  Piles: the plain law PilesProfile: Profile; the law.
  Piles: the law PilesProfile.
-/
import Derived.Test.YtdngfcfomcffmaaGreatDoorPLa
import Derived.KernelRfl
set_option linter.unusedSimpArgs false
set_option linter.unusedVariables false

namespace Go.Vm
namespace X
open W Go.Proofs.St
theorem lives17 : law17_lives fuel () = some true := by kernel_rfl
theorem take_snoc {L : List Int} {i : Nat} (h : i < L.length) : L.take (i + 1) = L.take i ++ [L.getD i 0] := by
  rw [List.take_add_one, List.getD, List.getElem?_eq_getElem h]; rfl
theorem chk_t {β : Type} {c : Bool} {x : Option β} (h : c = true) : chk c x = x := by rw [h]; rfl
theorem law17_ends_ok {s : List Int × List Int} (h : Valid s) : law17_ends fuel s = some (endsL s.1) := by
  obtain ⟨h1, h2, h3, h4⟩ := h
  apply Ret.eq
  unfold law17_ends
  refine Ret_loop (Inv := fun x : List Int × Int => 0 ≤ x.2 ∧ x.2 ≤ s.1.length ∧ x.1 = (List.range (x.2.toNat + 1)).map (eAt s.1)) (m := fun x => ((s.1.length : Int) - x.2).toNat) ?_ _ _ ⟨by simp, by simp, rfl⟩ (by simp only [fuel]; omega)
  rintro ⟨out, i⟩ rec ⟨i1, i2, i3⟩ ih
  simp only at i1 i2 i3 ⊢
  obtain ⟨n, rfl⟩ := Int.eq_ofNat_of_zero_le i1
  simp only [Int.toNat_natCast] at i3 ⊢
  refine Ret_dec (fun hlt => ?_) fun hge => ?_
  · have hx := h3 _ (getD_mem (L := s.1) (i := n) (by omega))
    have hb := eAt_bd (L := s.1) h3 n (by omega)
    have hlen : out.length = n + 1 := by rw [i3]; simp
    have hg : out.getD n 0 = eAt s.1 n := by rw [i3, List.getD, List.getElem?_map, List.getElem?_range (by omega)]; rfl
    have step : eAt s.1 (n + 1) = eAt s.1 n + s.1.getD n 0 * (1 - 2 * ((n : Int) % 2)) := rfl
    have nxt : ∀ v : Int, v = eAt s.1 (n + 1) → Ret (rec (out ++ [v], (n : Int) + 1)) fun x => x = endsL s.1 := fun v hv => by
      refine ih _ ⟨by simp only; omega, by simp only; omega, ?_⟩ (by simp only; omega)
      simp only
      rw [hv, i3, show ((n : Int) + 1).toNat = n + 1 by omega, ← ends_snoc]
    refine Ret_chk (inb_t (by omega) (by omega)) (Ret_chk (by rw [Bool.and_eq_true]; exact ⟨decide_eq_true (by omega), rfl⟩) ?_)
    refine Ret_dec (fun ho => ?_) fun he => ?_
    · refine Ret_chk (i64b_t (by omega) (by omega)) (Ret_chk (inb_t (by omega) (by omega)) ?_)
      rw [hg]
      refine Ret_chk (i64b_t (by omega) (by omega)) (Ret_chk (lenOk_t (by omega)) (Ret_chk (i64b_t (by omega) (by omega)) (nxt _ ?_)))
      rw [step, ho]; omega
    · refine Ret_chk (inb_t (by omega) (by omega)) ?_
      rw [hg]
      refine Ret_chk (i64b_t (by omega) (by omega)) (Ret_chk (lenOk_t (by omega)) (Ret_chk (i64b_t (by omega) (by omega)) (nxt _ ?_)))
      rw [step, show (n : Int) % 2 = 0 by omega]; omega
  · exact Ret_some (by rw [i3, show n = s.1.length by omega]; rfl)
def frm (E : List Int) (i : Nat) : Int := min (E.getD i 0) (E.getD (i + 1) 0)
def too (E : List Int) (i : Nat) : Int := max (E.getD i 0) (E.getD (i + 1) 0)
theorem from_ok {L K E : List Int} {i : Int} (h0 : 0 ≤ i) (h1 : i + 1 < E.length) (h2 : E.length ≤ 10000) : piles_folded_from fuel (((L, K), E), i) = some (frm E i.toNat) := by
  unfold piles_folded_from
  rw [chk_t (inb_t h0 (by simp only; omega)), chk_t (i64b_t (by simp only; omega) (by simp only; omega)), chk_t (inb_t (by simp only; omega) (by simp only; omega))]
  simp only [frm, show (i + 1).toNat = i.toNat + 1 by omega]
theorem to_ok {L K E : List Int} {i : Int} (h0 : 0 ≤ i) (h1 : i + 1 < E.length) (h2 : E.length ≤ 10000) : piles_folded_to fuel (((L, K), E), i) = some (too E i.toNat) := by
  unfold piles_folded_to
  rw [chk_t (inb_t h0 (by simp only; omega)), chk_t (i64b_t (by simp only; omega) (by simp only; omega)), chk_t (inb_t (by simp only; omega) (by simp only; omega))]
  simp only [too, show (i + 1).toNat = i.toNat + 1 by omega]
def ovl (E : List Int) (i k : Nat) : Bool := decide (frm E i < too E k) && decide (frm E k < too E i)
theorem overlap_ok {L K E : List Int} {i k : Int} (h0 : 0 ≤ i) (h1 : i + 1 < E.length) (g0 : 0 ≤ k) (g1 : k + 1 < E.length) (h2 : E.length ≤ 10000) : piles_folded_overlap fuel (((L, K), E), (i, k)) = some (ovl E i.toNat k.toNat) := by
  unfold piles_folded_overlap
  simp only
  rw [from_ok h0 h1 h2, to_ok g0 g1 h2, from_ok g0 g1 h2, to_ok h0 h1 h2]
  simp only [Option.bind_some, ovl]
  by_cases h : frm E i.toNat < too E k.toNat
  · rw [decide_eq_true h, cond_true, Bool.true_and]
  · rw [decide_eq_false h, cond_false, Bool.false_and]
theorem of_ok {s : List Int × List Int} (h : Valid s) : piles_of fuel s = some ((s, endsL s.1), 0) := by
  unfold piles_of
  rw [show (s.1, s.2) = s from rfl, strips_Ends_valid h]
  simp only [Option.bind_some]
  rw [chk_t (by simp [capIs])]
theorem of_err {s : List Int × List Int} (h : s.2.length ≤ 1000) (he : ckS s ≠ 0) : piles_of fuel s = some ((s, []), ckS s) := by
  unfold piles_of
  rw [show (s.1, s.2) = s from rfl, ends_err h he]
  simp only [Option.bind_some]
  rw [chk_t (by simp [capIs])]
def isOver (E : List Int) (at_ n : Int) : Bool := decide (frm E n.toNat ≤ at_) && decide (at_ < too E n.toNat)
def overL (E p : List Int) (at_ : Int) : List Int := p.filter (isOver E at_)
def In (n : Nat) (p : List Int) : Prop := ∀ x ∈ p, 0 ≤ x ∧ x < n
theorem filter_snoc {f : Int → Bool} {p : List Int} {i : Nat} (h : i < p.length) : (p.take (i + 1)).filter f = (p.take i).filter f ++ (bif f (p.getD i 0) then [p.getD i 0] else []) := by
  rw [take_snoc h, List.filter_append, List.filter_cons, List.filter_nil]
  cases f (p.getD i 0) <;> simp
theorem over_ok {s : List Int × List Int} (h : Valid s) {p : List Int} (hp : In s.1.length p) (hl : p.length ≤ 10000) (at_ : Int) : law17_over fuel (s, (p, at_)) = some (overL (endsL s.1) p at_) := by
  apply Ret.eq
  unfold law17_over
  refine Ret_bind (Ret.of (law17_ends_ok (s := (s.1, s.2)) h)) fun r e => ?_
  subst e
  have hel := endsL_len s.1
  have hn := h.1
  refine Ret_loop (Inv := fun x : List Int × Int => 0 ≤ x.2 ∧ x.2 ≤ p.length ∧ x.1 = (p.take x.2.toNat).filter (isOver (endsL s.1) at_)) (m := fun x => ((p.length : Int) - x.2).toNat) ?_ _ _ ⟨by simp, by simp, by simp⟩ (by simp only [fuel]; omega)
  rintro ⟨out, i⟩ rec ⟨i1, i2, i3⟩ ih
  simp only at i1 i2 i3 ⊢
  refine Ret_dec (fun hlt => ?_) fun hge => ?_
  · have hx := hp _ (getD_mem (L := p) (i := i.toNat) (by omega))
    have hfil : out.length ≤ i.toNat := by rw [i3]; exact Nat.le_trans (List.length_filter_le ..) (by simp; omega)
    have es := filter_snoc (f := isOver (endsL s.1) at_) (p := p) (i := i.toNat) (by omega)
    have hin := inb_t (i := i) (n := p.length) (by omega) (by omega)
    generalize p.getD i.toNat 0 = q at hx es ⊢
    have e1 : (q + 1).toNat = q.toNat + 1 := by omega
    have nxt : ∀ o : List Int, o = (p.take (i.toNat + 1)).filter (isOver (endsL s.1) at_) → Ret (chk (i64b (i + 1)) (rec (o, i + 1))) fun x => x = overL (endsL s.1) p at_ := fun o ho =>
      Ret_chk (i64b_t (by omega) (by omega)) (ih _ ⟨by simp only; omega, by simp only; omega, by simp only; rw [ho, show (i + 1).toNat = i.toNat + 1 by omega]⟩ (by simp only; omega))
    refine Ret_chk hin (Ret_chk (inb_t (by omega) (by omega)) (Ret_chk (i64b_t (by omega) (by omega)) (Ret_chk (inb_t (by omega) (by omega)) ?_)))
    rw [e1]
    have ef : isOver (endsL s.1) at_ q = (decide (min ((endsL s.1).getD q.toNat 0) ((endsL s.1).getD (q.toNat + 1) 0) ≤ at_) && decide (at_ < max ((endsL s.1).getD q.toNat 0) ((endsL s.1).getD (q.toNat + 1) 0))) := rfl
    refine Ret_dec (fun h1 => ?_) fun h1 => ?_
    · refine Ret_chk (inb_t (by omega) (by omega)) (Ret_chk (i64b_t (by omega) (by omega)) (Ret_chk (inb_t (by omega) (by omega)) ?_))
      refine Ret_dec (fun h2 => ?_) fun h2 => ?_
      · refine Ret_chk (lenOk_t (by omega)) (nxt _ ?_)
        rw [es, ef, decide_eq_true h1, decide_eq_true h2, i3]; rfl
      · refine nxt _ ?_
        rw [es, ef, decide_eq_false h2, i3, Bool.and_false, cond_false, List.append_nil]
    · refine nxt _ ?_
      rw [es, ef, decide_eq_false h1, i3, Bool.false_and, cond_false, List.append_nil]
  · exact Ret_some (by rw [i3, List.take_of_length_le (by omega)]; rfl)
def idL (n : Nat) : List Int := (List.range n).map Int.ofNat
theorem idL_len (n : Nat) : (idL n).length = n := by simp [idL]
theorem idL_snoc (n : Nat) : idL (n + 1) = idL n ++ [(n : Int)] := by simp [idL, List.range_succ]
theorem mem_idL {n : Nat} {x : Int} : x ∈ idL n ↔ 0 ≤ x ∧ x < n := by
  simp only [idL, List.mem_map, List.mem_range]
  constructor
  · rintro ⟨a, h, rfl⟩; exact ⟨by simp, by simp; omega⟩
  · intro h; exact ⟨x.toNat, by omega, by simp; omega⟩
theorem idL_nodup (n : Nat) : (idL n).Nodup := by
  unfold idL
  exact List.nodup_range.map (f := Int.ofNat) (fun a b h h2 => h (Int.ofNat.inj h2))
def Ord (n : Nat) (p : List Int) : Prop := p.Perm (idL n)
theorem Ord.len {n : Nat} {p : List Int} (h : Ord n p) : p.length = n := by rw [h.length_eq, idL_len]
theorem Ord.in {n : Nat} {p : List Int} (h : Ord n p) : In n p := fun x hx => mem_idL.1 (h.mem_iff.1 hx)
theorem Ord.nodup {n : Nat} {p : List Int} (h : Ord n p) : p.Nodup := h.nodup_iff.2 (idL_nodup n)
theorem Ord.mem {n : Nat} {p : List Int} (h : Ord n p) {i : Nat} (hi : i < n) : (i : Int) ∈ p := h.mem_iff.2 (mem_idL.2 ⟨by omega, by omega⟩)
theorem left_loop {n : Nat} (hn : n ≤ 1000) {K : List Int → Option (List Int)} {Q : List Int → Prop} (hK : Ret (K (idL n)) Q) :
    Ret (loopF (fun rec1 (x1 : ((List Int) × Int)) => bif (decide (x1.2 < (n : Int))) then (chk (lenOk (x1.1.length + 1)) (chk (i64b (x1.2 + 1)) (rec1 ((x1.1 ++ [x1.2]), (x1.2 + 1))))) else K x1.1) fuel ([], 0)) Q := by
  refine Ret_loop (Inv := fun x : List Int × Int => 0 ≤ x.2 ∧ x.2 ≤ n ∧ x.1 = idL x.2.toNat) (m := fun x => ((n : Int) - x.2).toNat) ?_ _ _ ⟨by simp, by simp, rfl⟩ (by simp only [fuel]; omega)
  rintro ⟨out, i⟩ rec ⟨i1, i2, i3⟩ ih
  simp only at i1 i2 i3 ⊢
  obtain ⟨k, rfl⟩ := Int.eq_ofNat_of_zero_le i1
  simp only [Int.toNat_natCast] at i3
  subst i3
  refine Ret_dec (fun hlt => ?_) fun hge => ?_
  · refine Ret_chk (lenOk_t (by rw [idL_len]; omega)) (Ret_chk (i64b_t (by omega) (by omega)) (ih _ ⟨by simp only; omega, by simp only; omega, ?_⟩ (by simp only; omega)))
    simp only
    rw [show ((k : Int) + 1).toNat = k + 1 by omega, idL_snoc]
  · rw [show k = n by omega]; exact hK
theorem take_drop_all {L : List Int} {k : Nat} : (L.drop (k + 1)).take (L.length - (k + 1)) = L.drop (k + 1) := List.take_of_length_le (by simp)
end X
end Go.Vm
namespace Go.Vm
namespace X
open W Go.Proofs.St
theorem E_at {s : List Int × List Int} (h : Valid s) {i : Nat} (hi : i ≤ s.1.length) : (endsL s.1).getD i 0 = eAt s.1 i := endsL_getD hi
theorem E_step {s : List Int × List Int} (h : Valid s) {i : Nat} (hi : i < s.1.length) :
    1 ≤ s.1.getD i 0 ∧ s.1.getD i 0 ≤ 64 ∧ ((i % 2 = 0 ∧ (endsL s.1).getD (i + 1) 0 = (endsL s.1).getD i 0 + s.1.getD i 0) ∨ (i % 2 = 1 ∧ (endsL s.1).getD (i + 1) 0 = (endsL s.1).getD i 0 - s.1.getD i 0)) := by
  have hx := h.2.2.1 _ (getD_mem hi)
  rw [E_at h (by omega), E_at h (by omega)]
  have step : eAt s.1 (i + 1) = eAt s.1 i + s.1.getD i 0 * (1 - 2 * ((i : Int) % 2)) := rfl
  refine ⟨hx.1, hx.2, ?_⟩
  rcases (by omega : i % 2 = 0 ∨ i % 2 = 1) with e | e
  · left; refine ⟨e, ?_⟩; rw [step, show (i : Int) % 2 = 0 by omega]; omega
  · right; refine ⟨e, ?_⟩; rw [step, show (i : Int) % 2 = 1 by omega]; omega
theorem E_bd {s : List Int × List Int} (h : Valid s) {i : Nat} (hi : i ≤ s.1.length) : -2048 ≤ (endsL s.1).getD i 0 ∧ (endsL s.1).getD i 0 ≤ 2048 := by
  rw [E_at h hi]
  have := eAt_bd (L := s.1) h.2.2.1 i hi
  have := h.1
  omega
end X
end Go.Vm
namespace Go.Vm
namespace X
open W Go.Proofs.St
theorem idL_O {n : Nat} (hn : n ≤ 1000) : law17_O_Of fuel ([], (n : Int)) = some (idL n) := by
  apply Ret.eq
  unfold law17_O_Of
  refine left_loop (n := n) hn (K := fun l => loopF _ fuel (l, ([], 0))) ?_
  refine Ret_loop (Inv := fun x : List Int × (List Int × Int) => 0 ≤ x.2.2 ∧ x.2.2 ≤ n ∧ x.1 = (idL n).drop x.2.2.toNat ∧ x.2.1 = (idL n).take x.2.2.toNat) (m := fun x => ((n : Int) - x.2.2).toNat) ?_ _ _ ⟨by simp, by simp, by simp, by simp⟩ (by simp only [fuel]; omega)
  rintro ⟨left, out, i⟩ rec ⟨i1, i2, i3, i4⟩ ih
  simp only at i1 i2 i3 i4 ⊢
  have hl : left.length = n - i.toNat := by rw [i3, List.length_drop, idL_len]
  have ho : out.length ≤ n := by rw [i4, List.length_take, idL_len]; omega
  refine Ret_dec (fun hlt => ?_) fun hge => ?_
  · refine Ret_dec (fun h => absurd h (by simp; omega)) fun _ => ?_
    rw [show (1 : Nat) = 0 + 1 from rfl, take_drop_all]
    refine Ret_chk (inb_t (by omega) (by omega)) (Ret_chk (lenOk_t (by omega)) (Ret_chk (by simp [bnb]) (Ret_chk (by simp [bnb]; omega) (Ret_chk ?_ (Ret_chk (i64b_t (by omega) (by omega)) (ih _ ⟨by simp only; omega, by simp only; omega, ?_, ?_⟩ (by simp only; omega)))))))
    · simp [lenOk, ble_dec]
      omega
    · simp only [List.take_zero, List.nil_append]
      rw [i3, List.drop_drop, show (i + 1).toNat = i.toNat + (0 + 1) by omega]
    · simp only
      rw [show (i + 1).toNat = i.toNat + 1 by omega, take_snoc (by rw [idL_len]; omega), i4]
      congr 2
      rw [i3, List.getD, List.getElem?_drop, Nat.add_zero]
      rfl
  · exact Ret_some (by rw [i4, List.take_of_length_le (by rw [idL_len]; omega)])
end X
end Go.Vm
namespace Go.Vm
namespace X
open W Go.Proofs.St
def ab (a c : Int) (O : List Int) : Nat := (O.filter fun x => decide (x = a) || decide (x = c)).length
theorem ab_eq {a c : Int} : ∀ {O : List Int}, O.Nodup → ab a c O = if a = c then (if a ∈ O then 1 else 0) else (if a ∈ O then 1 else 0) + (if c ∈ O then 1 else 0)
  | [], _ => by simp [ab]
  | x :: O, h => by
    obtain ⟨h1, h2⟩ := List.nodup_cons.1 h
    have ih := ab_eq (a := a) (c := c) h2
    unfold ab at ih ⊢
    rw [List.filter_cons]
    simp only [List.mem_cons]
    by_cases e1 : x = a
    · subst e1
      have : x ∉ O := h1
      simp only [decide_true, Bool.true_or, if_true, List.length_cons, true_or] at ih ⊢
      rw [ih]
      by_cases e2 : x = c
      · subst e2; simp [h1]
      · have e3 : ¬ c = x := fun h => e2 h.symm
        simp [h1, e2, e3]; omega
    · have e1' : ¬ a = x := fun h => e1 h.symm
      by_cases e2 : x = c
      · subst e2
        simp [h1, e1, e1'] at ih ⊢
        rw [ih]
      · have e2' : ¬ c = x := fun h => e2 h.symm
        simp only [e1, e2, e1', e2', decide_false, Bool.or_self, false_or, if_false, Bool.false_eq_true] at ih ⊢
        exact ih
theorem mem_overL {E p : List Int} {v x : Int} : x ∈ overL E p v ↔ x ∈ p ∧ frm E x.toNat ≤ v ∧ v < too E x.toNat := by
  simp [overL, isOver, List.mem_filter]
theorem overL_nodup {E p : List Int} {v : Int} (h : p.Nodup) : (overL E p v).Nodup := h.filter _
end X
end Go.Vm
