/-
  The rules in the form in which a proof goes through a function's text.
-/
import Derived.Test.YtppgnpodkmacoaaGreatDoorVmWC
set_option linter.unusedSimpArgs false
set_option linter.unusedVariables false

namespace Go.Vm
namespace W
variable {B : Base} {call : FuncId → List AV → Tr Blk → Nat → Nat → Out} {ro : Nat}
def takeK : Nat → List AV → (List AV → Prop) → Prop
  | 0, _, k => k []
  | _ + 1, [], _ => False
  | n + 1, a :: l, k => takeK n l fun l' => k (a :: l')
theorem takeK_ok : ∀ {n : Nat} {l : List AV} {k : List AV → Prop}, takeK n l k → n ≤ l.length ∧ k (l.take n)
  | 0, l, k, h => ⟨Nat.zero_le _, by simpa [takeK] using h⟩
  | n + 1, [], k, h => h.elim
  | n + 1, a :: l, k, h => by
    obtain ⟨h1, h2⟩ := takeK_ok (n := n) (l := l) h
    exact ⟨by simpa using h1, by simpa using h2⟩
def dropK : Nat → List AV → (List AV → Prop) → Prop
  | 0, l, k => k l
  | _ + 1, [], _ => False
  | n + 1, _ :: l, k => dropK n l k
theorem dropK_ok : ∀ {n : Nat} {l : List AV} {k : List AV → Prop}, dropK n l k → n ≤ l.length ∧ k (l.drop n)
  | 0, l, k, h => ⟨Nat.zero_le _, h⟩
  | n + 1, [], k, h => h.elim
  | n + 1, a :: l, k, h => by
    obtain ⟨h1, h2⟩ := dropK_ok (n := n) (l := l) h
    exact ⟨by simpa using h1, by simpa using h2⟩
def loadK (agg : Bool) (n o : Nat) (l : List AV) (k : AV → Prop) : Prop :=
  dropK o l fun l => match agg with
    | true => takeK n l fun l => k (.agg l)
    | false => match l with
      | a :: _ => cond (n.beq 1) (k a) False
      | [] => False
theorem of_condP {b : Bool} {p : Prop} (h : cond b p False) : b = true ∧ p := by
  cases b
  · exact h.elim
  · exact ⟨rfl, h⟩
theorem loadK_ok {agg : Bool} {n o : Nat} {l : List AV} {k : AV → Prop} (h : loadK agg n o l k) : ∃ v, ldv agg n o l = some v ∧ k v := by
  obtain ⟨h1, h2⟩ := dropK_ok h
  cases agg with
  | true =>
    obtain ⟨h3, h4⟩ := takeK_ok h2
    refine ⟨_, ?_, h4⟩
    rw [List.length_drop] at h3
    unfold ldv
    rw [ble_dec, decide_eq_true (by omega)]
    rfl
  | false =>
    simp only at h2
    split at h2
    · rename_i a r hl
      obtain ⟨hn, h2⟩ := of_condP h2
      rw [beq_dec, decide_eq_true_eq] at hn
      subst hn
      refine ⟨a, ?_, h2⟩
      have h3 : o < l.length := by
        have := congrArg List.length hl
        rw [List.length_drop] at this
        simp at this
        omega
      refine ldv_one ?_
      rw [List.drop_eq_getElem_cons h3] at hl
      rw [List.getElem?_eq_getElem h3]
      congr 1
      exact (List.cons.inj hl).1
    · exact h2.elim
def overK : List AV → List AV → (List AV → Prop) → Prop
  | l, [], k => k l
  | [], _ :: _, _ => False
  | _ :: l, b :: m, k => overK l m fun l' => k (b :: l')
theorem overK_ok : ∀ {l m : List AV} {k : List AV → Prop}, overK l m k → m.length ≤ l.length ∧ k (m ++ l.drop m.length)
  | [], [], k, h => ⟨Nat.le_refl _, h⟩
  | a :: l, [], k, h => ⟨Nat.zero_le _, h⟩
  | [], _ :: _, k, h => h.elim
  | a :: l, b :: m, k, h => by
    obtain ⟨h1, h2⟩ := overK_ok (l := l) (m := m) h
    exact ⟨by simpa using h1, by simpa using h2⟩
def spliceK : Nat → List AV → List AV → (List AV → Prop) → Prop
  | 0, l, m, k => overK l m k
  | _ + 1, [], _, _ => False
  | o + 1, a :: l, m, k => spliceK o l m fun l' => k (a :: l')
theorem spliceK_ok : ∀ {o : Nat} {l m : List AV} {k : List AV → Prop}, spliceK o l m k → o + m.length ≤ l.length ∧ k (splice l o m)
  | 0, l, m, k, h => by
    obtain ⟨h1, h2⟩ := overK_ok h
    exact ⟨by omega, by simpa [splice] using h2⟩
  | o + 1, [], m, k, h => h.elim
  | o + 1, a :: l, m, k, h => by
    obtain ⟨h1, h2⟩ := spliceK_ok (o := o) (l := l) h
    refine ⟨by simp; omega, ?_⟩
    have : splice (a :: l) (o + 1) m = a :: splice l o m := by
      simp only [splice, List.take_succ_cons, List.cons_append, show o + 1 + m.length = o + m.length + 1 by omega, List.drop_succ_cons]
    rw [this]
    exact h2
def fillK (t : Fr) : List AV → List (Nat × Nat × Opd) → (List AV → Prop) → Prop
  | l, [], k => k l
  | l, (off, n, x) :: r, k => match gv t x with
    | some v => cond ((acells v).length.beq n) (spliceK off l (acells v) fun l => fillK t l r k) False
    | none => False
theorem fillK_ok {t : Fr} : ∀ {ps : List (Nat × Nat × Opd)} {l : List AV} {k : List AV → Prop}, fillK t l ps k → ∃ l', (∀ tm, FA t tm → afill l (ps.map fun (o, s, x) => (o, s, getv tm x)) = some l') ∧ k l'
  | [], l, k, h => ⟨l, fun _ _ => rfl, h⟩
  | (off, n, x) :: r, l, k, h => by
    simp only [fillK] at h
    split at h
    · rename_i v hv
      obtain ⟨h0, h⟩ := of_condP h
      rw [beq_dec, decide_eq_true_eq] at h0
      obtain ⟨h1, h2⟩ := spliceK_ok h
      obtain ⟨l', h3, h4⟩ := fillK_ok h2
      refine ⟨l', fun tm ht => ?_, h4⟩
      have := h3 tm ht
      simp only [List.map_cons, afill, ht.gv hv, h0, beq_dec, ble_dec]
      rw [h0] at h1
      simp only [decide_true, h1, Bool.and_self, cond_true]
      rw [← this]
      simp only [splice, h0]
    · exact h.elim
def eqK : List Nat → List AV → List AV → (Bool → Prop) → Prop
  | [], [], [], k => k true
  | [d], [a], [b], k => match ceqS d a b with | some p => k p | none => False
  | d :: ks, a :: l, b :: m, k => match ceqS d a b with | some p => eqK ks l m fun q => k (p && q) | none => False
  | _, _, _, _ => False
theorem eqK_ok : ∀ {ks : List Nat} {l m : List AV} {k : Bool → Prop}, eqK ks l m k → ∃ p, ceqsS ks l m = some p ∧ k p
  | [], [], [], k, h => ⟨true, rfl, h⟩
  | [d], [a], [b], k, h => by
    simp only [eqK] at h
    split at h
    · rename_i p hp; exact ⟨p, by simp only [ceqsS, hp, Bool.and_true], h⟩
    · exact h.elim
  | d :: d' :: ks, a :: l, b :: m, k, h => by
    simp only [eqK] at h
    split at h
    · rename_i p hp
      obtain ⟨q, h1, h2⟩ := eqK_ok h
      exact ⟨p && q, by simp only [ceqsS, hp] at h1 ⊢; simp only [h1], h2⟩
    · exact h.elim
  | [d], a :: a' :: l, b :: m, k, h => by
    simp only [eqK] at h
    split at h <;> exact h.elim
  | [d], [a], b :: b' :: m, k, h => by
    simp only [eqK] at h
    split at h <;> exact h.elim
  | [], [], _ :: _, _, h => h.elim
  | [], _ :: _, _, _, h => h.elim
  | _ :: _, [], _, _, h => by simp [eqK] at h
  | _ :: _, _ :: _, [], _, h => by simp [eqK] at h
section
variable {t : Fr} {O : List Ent} {K : Fr → List Ent → Prop} {r : List COp} {d : Nat} {q : Bool} {ex : List Opd} {x y : Opd}
theorem D_mov {v : AV} (hx : gv t x = some v) (h : WO B call ro r ((d, v) :: t) O K) : WO B call ro (⟨some d, none, .p (.mov x), q, ex⟩ :: r) t O K :=
  WO_pop (d := some d) (fun tm ht => by simp only [pop, ht.gv hx]) h
theorem D_cvs {s : List Nat} (hx : gv t x = some (.str s)) (h : WO B call ro r ((d, .str s) :: t) O K) : WO B call ro (⟨some d, none, .p (.cvs x), q, ex⟩ :: r) t O K :=
  WO_pop (d := some d) (fun tm ht => by simp only [pop, ht.gv hx]) h
theorem D_pick_t {c a b : Opd} {v : AV} (hc : gv t c = some (.bool true)) (ha : gv t a = some v) (h : WO B call ro r ((d, v) :: t) O K) : WO B call ro (⟨some d, none, .p (.pick c a b), q, ex⟩ :: r) t O K :=
  WO_pop (d := some d) (fun tm ht => by simp only [pop, ht.gv hc, ht.gv ha]) h
theorem D_pick_f {c a b : Opd} {v : AV} (hc : gv t c = some (.bool false)) (ha : gv t b = some v) (h : WO B call ro r ((d, v) :: t) O K) : WO B call ro (⟨some d, none, .p (.pick c a b), q, ex⟩ :: r) t O K :=
  WO_pop (d := some d) (fun tm ht => by simp only [pop, ht.gv hc, ht.gv ha]) h
theorem D_nilck {b o : Nat} (hx : gv t x = some (.ptr b o)) (h : WO B call ro r ((d, .ptr b o) :: t) O K) : WO B call ro (⟨some d, none, .p (.nilck x), q, ex⟩ :: r) t O K :=
  WO_pop (d := some d) (fun tm ht => by simp only [pop, ht.gv hx]) h
theorem D_nilck_fn {f : FuncId} {a b : List AV} (hx : gv t x = some (.fn (.func f) a b)) (h : WO B call ro r ((d, .fn (.func f) a b) :: t) O K) : WO B call ro (⟨some d, none, .p (.nilck x), q, ex⟩ :: r) t O K :=
  WO_pop (d := some d) (fun tm ht => by simp only [pop, ht.gv hx]) h
section ints
variable {k : IntKind} {a b : Int}
theorem D_add (hx : gv t x = some (.int k a)) (hy : gv t y = some (.int k b)) (hr : inR k (a + b)) (h : WO B call ro r ((d, .int k (a + b)) :: t) O K) : WO B call ro (⟨some d, none, .p (.bin .add x y), q, ex⟩ :: r) t O K := WO_add (d := some d) hx hy hr h
theorem D_sub (hx : gv t x = some (.int k a)) (hy : gv t y = some (.int k b)) (hr : inR k (a - b)) (h : WO B call ro r ((d, .int k (a - b)) :: t) O K) : WO B call ro (⟨some d, none, .p (.bin .sub x y), q, ex⟩ :: r) t O K := WO_sub (d := some d) hx hy hr h
theorem D_mul (hx : gv t x = some (.int k a)) (hy : gv t y = some (.int k b)) (hr : inR k (a * b)) (h : WO B call ro r ((d, .int k (a * b)) :: t) O K) : WO B call ro (⟨some d, none, .p (.bin .mul x y), q, ex⟩ :: r) t O K := WO_mul (d := some d) hx hy hr h
theorem D_quo (hx : gv t x = some (.int k a)) (hy : gv t y = some (.int k b)) (ha : 0 ≤ a) (hb : 0 < b) (hr : inR k (a / b)) (h : WO B call ro r ((d, .int k (a / b)) :: t) O K) : WO B call ro (⟨some d, none, .p (.bin .quo x y), q, ex⟩ :: r) t O K := WO_quo (d := some d) hx hy ha hb hr h
theorem D_tdiv (hx : gv t x = some (.int k a)) (hy : gv t y = some (.int k b)) (hb : b ≠ 0) (hr : inR k (a.tdiv b)) (h : WO B call ro r ((d, .int k (a.tdiv b)) :: t) O K) : WO B call ro (⟨some d, none, .p (.bin .quo x y), q, ex⟩ :: r) t O K := WO_tdiv (d := some d) hx hy hb hr h
theorem D_rem (hx : gv t x = some (.int k a)) (hy : gv t y = some (.int k b)) (ha : 0 ≤ a) (hb : 0 < b) (h : WO B call ro r ((d, .int k (a % b)) :: t) O K) : WO B call ro (⟨some d, none, .p (.bin .rem x y), q, ex⟩ :: r) t O K := WO_rem (d := some d) hx hy ha hb h
theorem D_tmod (hx : gv t x = some (.int k a)) (hy : gv t y = some (.int k b)) (hb : b ≠ 0) (h : WO B call ro r ((d, .int k (a.tmod b)) :: t) O K) : WO B call ro (⟨some d, none, .p (.bin .rem x y), q, ex⟩ :: r) t O K := WO_tmod (d := some d) hx hy hb h
theorem D_neg (hx : gv t x = some (.int k a)) (hr : inR k (-a)) (h : WO B call ro r ((d, .int k (-a)) :: t) O K) : WO B call ro (⟨some d, none, .p (.neg x), q, ex⟩ :: r) t O K := WO_neg (d := some d) hx hr h
theorem D_cvi {k' : IntKind} (hx : gv t x = some (.int k' a)) (hr : inR k a) (h : WO B call ro r ((d, .int k a) :: t) O K) : WO B call ro (⟨some d, none, .p (.cvi k x), q, ex⟩ :: r) t O K := WO_cvi (d := some d) hx hr h
theorem D_eql (hx : gv t x = some (.int k a)) (hy : gv t y = some (.int k b)) (h : WO B call ro r ((d, .bool (decide (a = b))) :: t) O K) : WO B call ro (⟨some d, none, .p (.bin .eql x y), q, ex⟩ :: r) t O K :=
  WO_pop (d := some d) (fun tm ht => by simp only [pop, ht.gv hx, ht.gv hy]; exact abinS_ok (by simp only [abinS, keq_iff.2 rfl, cond_true])) h
theorem D_neq (hx : gv t x = some (.int k a)) (hy : gv t y = some (.int k b)) (h : WO B call ro r ((d, .bool (decide (a ≠ b))) :: t) O K) : WO B call ro (⟨some d, none, .p (.bin .neq x y), q, ex⟩ :: r) t O K :=
  WO_pop (d := some d) (fun tm ht => by simp only [pop, ht.gv hx, ht.gv hy]; exact abinS_ok (by simp only [abinS, keq_iff.2 rfl, cond_true])) h
theorem D_lss (hx : gv t x = some (.int k a)) (hy : gv t y = some (.int k b)) (h : WO B call ro r ((d, .bool (decide (a < b))) :: t) O K) : WO B call ro (⟨some d, none, .p (.bin .lss x y), q, ex⟩ :: r) t O K :=
  WO_pop (d := some d) (fun tm ht => by simp only [pop, ht.gv hx, ht.gv hy]; exact abinS_ok (by simp only [abinS, keq_iff.2 rfl, cond_true])) h
theorem D_leq (hx : gv t x = some (.int k a)) (hy : gv t y = some (.int k b)) (h : WO B call ro r ((d, .bool (decide (a ≤ b))) :: t) O K) : WO B call ro (⟨some d, none, .p (.bin .leq x y), q, ex⟩ :: r) t O K :=
  WO_pop (d := some d) (fun tm ht => by simp only [pop, ht.gv hx, ht.gv hy]; exact abinS_ok (by simp only [abinS, keq_iff.2 rfl, cond_true])) h
theorem D_gtr (hx : gv t x = some (.int k a)) (hy : gv t y = some (.int k b)) (h : WO B call ro r ((d, .bool (decide (b < a))) :: t) O K) : WO B call ro (⟨some d, none, .p (.bin .gtr x y), q, ex⟩ :: r) t O K :=
  WO_pop (d := some d) (fun tm ht => by simp only [pop, ht.gv hx, ht.gv hy]; exact abinS_ok (by simp only [abinS, keq_iff.2 rfl, cond_true])) h
theorem D_geq (hx : gv t x = some (.int k a)) (hy : gv t y = some (.int k b)) (h : WO B call ro r ((d, .bool (decide (b ≤ a))) :: t) O K) : WO B call ro (⟨some d, none, .p (.bin .geq x y), q, ex⟩ :: r) t O K :=
  WO_pop (d := some d) (fun tm ht => by simp only [pop, ht.gv hx, ht.gv hy]; exact abinS_ok (by simp only [abinS, keq_iff.2 rfl, cond_true])) h
theorem D_wrap {op : BinOp} {v : AV} (hx : gv t x = some (.int k a)) (hy : gv t y = some (.int k b)) (hv : abinS op (.int k a) (.int k b) = some v) (h : WO B call ro r ((d, v) :: t) O K) : WO B call ro (⟨some d, none, .p (.bin op x y), q, ex⟩ :: r) t O K :=
  WO_pop (d := some d) (fun tm ht => by simp only [pop, ht.gv hx, ht.gv hy]; exact abinS_ok hv) h
theorem D_cviw {k' : IntKind} (hx : gv t x = some (.int k' a)) (h : WO B call ro r ((d, .int k (k.wrap a)) :: t) O K) : WO B call ro (⟨some d, none, .p (.cvi k x), q, ex⟩ :: r) t O K :=
  WO_pop (d := some d) (fun tm ht => by simp only [pop, ht.gv hx, wrapQ_eq]) h
theorem D_negw (hx : gv t x = some (.int k a)) (h : WO B call ro r ((d, .int k (k.wrap (-a))) :: t) O K) : WO B call ro (⟨some d, none, .p (.neg x), q, ex⟩ :: r) t O K :=
  WO_pop (d := some d) (fun tm ht => by simp only [pop, ht.gv hx, wrapQ_eq, Int.zero_sub]) h
theorem D_shl {k' : IntKind} (hx : gv t x = some (.int k a)) (hy : gv t y = some (.int k' b)) (hb : 0 ≤ b) (h : WO B call ro r ((d, .int k (k.wrap (a * 2 ^ (min b.toNat k.bits)))) :: t) O K) : WO B call ro (⟨some d, none, .p (.bin .shl x y), q, ex⟩ :: r) t O K :=
  WO_pop (d := some d) (fun tm ht => by simp only [pop, ht.gv hx, ht.gv hy, abin, ile_eq, hb, decide_true, cond_true, wrapQ_eq]) h
theorem D_shr {k' : IntKind} (hx : gv t x = some (.int k a)) (hy : gv t y = some (.int k' b)) (hb : 0 ≤ b) (h : WO B call ro r ((d, .int k (a.fdiv (2 ^ (min b.toNat k.bits)))) :: t) O K) : WO B call ro (⟨some d, none, .p (.bin .shr x y), q, ex⟩ :: r) t O K :=
  WO_pop (d := some d) (fun tm ht => by simp only [pop, ht.gv hx, ht.gv hy, abin, ile_eq, hb, decide_true, cond_true]) h
theorem D_min (hx : gv t x = some (.int k a)) (hy : gv t y = some (.int k b)) (h : WO B call ro r ((d, .int k (min a b)) :: t) O K) : WO B call ro (⟨some d, none, .p (.mins x [y]), q, ex⟩ :: r) t O K :=
  WO_pop (d := some d) (fun tm ht => by simp only [pop, List.map_cons, List.map_nil, ht.gv hx, ht.gv hy, ← aminS_ok, aminS]) h
theorem D_max (hx : gv t x = some (.int k a)) (hy : gv t y = some (.int k b)) (h : WO B call ro r ((d, .int k (max a b)) :: t) O K) : WO B call ro (⟨some d, none, .p (.maxs x [y]), q, ex⟩ :: r) t O K :=
  WO_pop (d := some d) (fun tm ht => by simp only [pop, List.map_cons, List.map_nil, ht.gv hx, ht.gv hy, ← amaxS_ok, amaxS]) h
theorem D_addE {c : Int} (hc : a + b = c) (hx : gv t x = some (.int k a)) (hy : gv t y = some (.int k b)) (hr : inR k c) (h : WO B call ro r ((d, .int k c) :: t) O K) : WO B call ro (⟨some d, none, .p (.bin .add x y), q, ex⟩ :: r) t O K := by
  subst hc; exact D_add hx hy hr h
theorem D_subE {c : Int} (hc : a - b = c) (hx : gv t x = some (.int k a)) (hy : gv t y = some (.int k b)) (hr : inR k c) (h : WO B call ro r ((d, .int k c) :: t) O K) : WO B call ro (⟨some d, none, .p (.bin .sub x y), q, ex⟩ :: r) t O K := by
  subst hc; exact D_sub hx hy hr h
theorem D_mulE {c : Int} (hc : a * b = c) (hx : gv t x = some (.int k a)) (hy : gv t y = some (.int k b)) (hr : inR k c) (h : WO B call ro r ((d, .int k c) :: t) O K) : WO B call ro (⟨some d, none, .p (.bin .mul x y), q, ex⟩ :: r) t O K := by
  subst hc; exact D_mul hx hy hr h
theorem D_tdivE {c : Int} (hc : a.tdiv b = c) (hx : gv t x = some (.int k a)) (hy : gv t y = some (.int k b)) (hb : b ≠ 0) (hr : inR k c) (h : WO B call ro r ((d, .int k c) :: t) O K) : WO B call ro (⟨some d, none, .p (.bin .quo x y), q, ex⟩ :: r) t O K := by
  subst hc; exact D_tdiv hx hy hb hr h
theorem D_tmodE {c : Int} (hc : a.tmod b = c) (hx : gv t x = some (.int k a)) (hy : gv t y = some (.int k b)) (hb : b ≠ 0) (h : WO B call ro r ((d, .int k c) :: t) O K) : WO B call ro (⟨some d, none, .p (.bin .rem x y), q, ex⟩ :: r) t O K := by
  subst hc; exact D_tmod hx hy hb h
theorem D_negE {c : Int} (hc : -a = c) (hx : gv t x = some (.int k a)) (hr : inR k c) (h : WO B call ro r ((d, .int k c) :: t) O K) : WO B call ro (⟨some d, none, .p (.neg x), q, ex⟩ :: r) t O K := by
  subst hc; exact D_neg hx hr h
end ints
theorem D_eqlS {a b : List Nat} (hx : gv t x = some (.str a)) (hy : gv t y = some (.str b)) (h : WO B call ro r ((d, .bool (decide (a = b))) :: t) O K) : WO B call ro (⟨some d, none, .p (.bin .eql x y), q, ex⟩ :: r) t O K :=
  WO_pop (d := some d) (fun tm ht => by simp only [pop, ht.gv hx, ht.gv hy]; exact abinS_ok rfl) h
theorem D_neqS {a b : List Nat} (hx : gv t x = some (.str a)) (hy : gv t y = some (.str b)) (h : WO B call ro r ((d, .bool (decide (a ≠ b))) :: t) O K) : WO B call ro (⟨some d, none, .p (.bin .neq x y), q, ex⟩ :: r) t O K :=
  WO_pop (d := some d) (fun tm ht => by simp only [pop, ht.gv hx, ht.gv hy]; exact abinS_ok rfl) h
theorem D_cat {a b : List Nat} (hx : gv t x = some (.str a)) (hy : gv t y = some (.str b)) (hr : a.length + b.length ≤ 4000000000) (h : WO B call ro r ((d, .str (a ++ b)) :: t) O K) : WO B call ro (⟨some d, none, .p (.bin .add x y), q, ex⟩ :: r) t O K := WO_cat (d := some d) hx hy hr h
theorem D_not_dec {p : Prop} [Decidable p] (hx : gv t x = some (.bool (decide p))) (h : WO B call ro r ((d, .bool (decide (¬ p))) :: t) O K) : WO B call ro (⟨some d, none, .p (.not x), q, ex⟩ :: r) t O K :=
  WO_pop (d := some d) (fun tm ht => by simp only [pop, ht.gv hx]; simp) h
theorem D_not {b : Bool} (hx : gv t x = some (.bool b)) (h : WO B call ro r ((d, .bool (!b)) :: t) O K) : WO B call ro (⟨some d, none, .p (.not x), q, ex⟩ :: r) t O K :=
  WO_pop (d := some d) (fun tm ht => by simp only [pop, ht.gv hx]) h
theorem D_eqf {ks : List Nat} {l m : List AV} (hx : gv t x = some (.agg l)) (hy : gv t y = some (.agg m)) (hl : (l.length.beq ks.length && m.length.beq ks.length) = true) (h : eqK ks l m fun p => WO B call ro r ((d, .bool p) :: t) O K) :
    WO B call ro (⟨some d, none, .p (.eqf false true ks x y), q, ex⟩ :: r) t O K := by
  obtain ⟨p, h1, h2⟩ := eqK_ok h
  refine WO_pop (d := some d) (fun tm ht => ?_) h2
  have : aeqf true ks (.agg l) (.agg m) = some p := aeqfS_ok (by simp only [aeqfS, cond_true]; rw [hl]; exact h1)
  simp only [pop, ht.gv hx, ht.gv hy, this, Bool.false_xor]
theorem D_neqf {ks : List Nat} {l m : List AV} (hx : gv t x = some (.agg l)) (hy : gv t y = some (.agg m)) (hl : (l.length.beq ks.length && m.length.beq ks.length) = true) (h : eqK ks l m fun p => WO B call ro r ((d, .bool (!p)) :: t) O K) :
    WO B call ro (⟨some d, none, .p (.eqf true true ks x y), q, ex⟩ :: r) t O K := by
  obtain ⟨p, h1, h2⟩ := eqK_ok h
  refine WO_pop (d := some d) (fun tm ht => ?_) h2
  have : aeqf true ks (.agg l) (.agg m) = some p := aeqfS_ok (by simp only [aeqfS, cond_true]; rw [hl]; exact h1)
  simp only [pop, ht.gv hx, ht.gv hy, this, Bool.true_xor]
theorem D_eqb {n : Bool} {a b : Bool} (hx : gv t x = some (.bool a)) (hy : gv t y = some (.bool b)) (h : WO B call ro r ((d, .bool (bif n then !(a == b) else (a == b))) :: t) O K) : WO B call ro (⟨some d, none, .p (.eqf n false [0] x y), q, ex⟩ :: r) t O K := by
  refine WO_pop (d := some d) (fun tm ht => ?_) h
  have : aeqf false [0] (.bool a) (.bool b) = some (a == b) := aeqfS_ok (by simp only [aeqfS, cond_false, ceqsS, ceqS, Bool.and_true])
  simp only [pop, ht.gv hx, ht.gv hy, this]
  cases n <;> simp
theorem D_eqn {n : Bool} {kd : Nat} {u v : AV} {b : Bool} (hx : gv t x = some u) (hy : gv t y = some v) (hb : aeqn kd u v = some b) (h : WO B call ro r ((d, .bool (bif n then !b else b)) :: t) O K) : WO B call ro (⟨some d, none, .p (.eqn n kd x y), q, ex⟩ :: r) t O K :=
  WO_pop (d := some d) (fun tm ht => by simp only [pop, ht.gv hx, ht.gv hy, hb]; cases n <;> simp) h
theorem D_mkif {ty : TypeId} {v : AV} (hx : gv t x = some v) (h : WO B call ro r ((d, .ifc ty v) :: t) O K) : WO B call ro (⟨some d, none, .p (.mkif ty x), q, ex⟩ :: r) t O K :=
  WO_pop (d := some d) (fun tm ht => by simp only [pop, ht.gv hx]) h
theorem D_mkfn {f : Fn} {xs ys : List Opd} {a b : List AV} (hx : gvs t xs = some a) (hy : gvs t ys = some b) (h : WO B call ro r ((d, .fn f a b) :: t) O K) : WO B call ro (⟨some d, none, .p (.mkfn f xs ys), q, ex⟩ :: r) t O K :=
  WO_pop (d := some d) (fun tm ht => by simp only [pop, ht.gvs hx, ht.gvs hy]) h
theorem D_fad {off b o : Nat} (hx : gv t x = some (.ptr b o)) (h : WO B call ro r ((d, .ptr b (o + off)) :: t) O K) : WO B call ro (⟨some d, none, .p (.fad off x), q, ex⟩ :: r) t O K :=
  WO_pop (d := some d) (fun tm ht => by simp only [pop, ht.gv hx]) h
theorem D_build {z : List AV} {ps : List (Nat × Nat × Opd)} (h : fillK t z ps fun l => WO B call ro r ((d, .agg l) :: t) O K) : WO B call ro (⟨some d, none, .p (.build z ps), q, ex⟩ :: r) t O K := by
  obtain ⟨l, h1, h2⟩ := fillK_ok h
  exact WO_pop (d := some d) (fun tm ht => by simp only [pop, h1 tm ht, Option.map_some]) h2
theorem D_fld {agg : Bool} {n off : Nat} {l : List AV} (hx : gv t x = some (.agg l)) (h : loadK agg n off l fun v => WO B call ro r ((d, v) :: t) O K) : WO B call ro (⟨some d, none, .p (.fld agg n off x), q, ex⟩ :: r) t O K := by
  obtain ⟨v, h1, h2⟩ := loadK_ok h
  refine WO_pop (d := some d) (fun tm ht => ?_) h2
  obtain ⟨h3, h4⟩ := ldv_take h1
  simp only [pop, ht.gv hx, ble_dec, h3, decide_true, cond_true, h4]
theorem D_iadA {n z b o : Nat} {k : IntKind} {m : Int} (hx : gv t x = some (.ptr b o)) (hi : gv t y = some (.int k m)) (h0 : 0 ≤ m) (h1 : m < n) (h : WO B call ro r ((d, .ptr b (o + m.toNat * z)) :: t) O K) : WO B call ro (⟨some d, none, .p (.iadA n z x y), q, ex⟩ :: r) t O K := WO_iadA (d := some d) hx hi h0 h1 h
theorem D_iadS {z b o len : Nat} {cap : Option Nat} {k : IntKind} {m : Int} (hx : gv t x = some (.sl b o len cap z)) (hi : gv t y = some (.int k m)) (h0 : 0 ≤ m) (h1 : m < len) (h : WO B call ro r ((d, .ptr b (o + m.toNat * z)) :: t) O K) : WO B call ro (⟨some d, none, .p (.iadS z x y), q, ex⟩ :: r) t O K := WO_iadS (d := some d) hx hi h0 h1 h
theorem D_idxS {s : List Nat} {k : IntKind} {m : Int} {c : Nat} (hx : gv t x = some (.str s)) (hi : gv t y = some (.int k m)) (h0 : 0 ≤ m) (h1 : s[m.toNat]? = some c) (h : WO B call ro r ((d, .int .u8 c) :: t) O K) : WO B call ro (⟨some d, none, .p (.idxS x y), q, ex⟩ :: r) t O K := WO_idxS (d := some d) hx hi h0 h1 h
theorem D_idxA {agg : Bool} {n z : Nat} {l : List AV} {k : IntKind} {m : Int} (hx : gv t x = some (.agg l)) (hi : gv t y = some (.int k m)) (h0 : 0 ≤ m) (h1 : m < n) (h : loadK agg z (m.toNat * z) l fun v => WO B call ro r ((d, v) :: t) O K) : WO B call ro (⟨some d, none, .p (.idxA agg n z x y), q, ex⟩ :: r) t O K := by
  obtain ⟨v, h2, h3⟩ := loadK_ok h
  obtain ⟨h4, h5⟩ := ldv_take h2
  exact WO_idxA (d := some d) hx hi h0 h1 h4 h5 h3
theorem D_idxAV {agg : Bool} {n z : Nat} {l : List AV} {k : IntKind} {m : Int} {v : AV} (hx : gv t x = some (.agg l)) (hi : gv t y = some (.int k m)) (h0 : 0 ≤ m) (h1 : m < n) (hl : ldv agg z (m.toNat * z) l = some v) (h : WO B call ro r ((d, v) :: t) O K) : WO B call ro (⟨some d, none, .p (.idxA agg n z x y), q, ex⟩ :: r) t O K :=
  WO_idxA (d := some d) hx hi h0 h1 (ldv_take hl).1 (ldv_take hl).2 h
theorem D_ext {n : Nat} {l : List AV} {v : AV} (hx : gv t x = some (.tup l)) (hl : l[n]? = some v) (h : WO B call ro r ((d, v) :: t) O K) : WO B call ro (⟨some d, none, .p (.ext n x), q, ex⟩ :: r) t O K :=
  WO_pop (d := some d) (fun tm ht => by simp only [pop, ht.gv hx, hl]) h
theorem D_len {b o len : Nat} {cap : Option Nat} {z : Nat} (hx : gv t x = some (.sl b o len cap z)) (h : WO B call ro r ((d, .int .i64 len) :: t) O K) : WO B call ro (⟨some d, none, .p (.len x), q, ex⟩ :: r) t O K :=
  WO_pop (d := some d) (fun tm ht => by simp only [pop, ht.gv hx]) h
theorem D_len_nil (hx : gv t x = some .nils) (h : WO B call ro r ((d, .int .i64 0) :: t) O K) : WO B call ro (⟨some d, none, .p (.len x), q, ex⟩ :: r) t O K :=
  WO_pop (d := some d) (fun tm ht => by simp only [pop, ht.gv hx]) h
theorem D_lenS {s : List Nat} (hx : gv t x = some (.str s)) (h : WO B call ro r ((d, .int .i64 s.length) :: t) O K) : WO B call ro (⟨some d, none, .p (.lenS x), q, ex⟩ :: r) t O K :=
  WO_pop (d := some d) (fun tm ht => by simp only [pop, ht.gv hx]) h
theorem D_lenc {n : Nat} (h : WO B call ro r ((d, .int .i64 n) :: t) O K) : WO B call ro (⟨some d, none, .p (.lenc n), q, ex⟩ :: r) t O K :=
  WO_pop (d := some d) (fun tm ht => by simp only [pop]) h
theorem D_cap {b o len c z : Nat} (hx : gv t x = some (.sl b o len (some c) z)) (h : WO B call ro r ((d, .int .i64 c) :: t) O K) : WO B call ro (⟨some d, none, .p (.cap x), q, ex⟩ :: r) t O K :=
  WO_pop (d := some d) (fun tm ht => by simp only [pop, ht.gv hx]) h
theorem D_cap_nil (hx : gv t x = some .nils) (h : WO B call ro r ((d, .int .i64 0) :: t) O K) : WO B call ro (⟨some d, none, .p (.cap x), q, ex⟩ :: r) t O K :=
  WO_pop (d := some d) (fun tm ht => by simp only [pop, ht.gv hx]) h
theorem D_box {v : AV} (hx : gv t x = some v) (h : ∀ b, WO B call ro r ((d, .ptr b 0) :: t) (⟨b, true, .cells [v]⟩ :: O) K) (hv : acells v = [v]) : WO B call ro (⟨some d, none, .h (.box x), q, []⟩ :: r) t O K :=
  WO_box (d := some d) hx (by rw [hv]; exact h)
theorem D_box_agg {l : List AV} (hx : gv t x = some (.agg l)) (h : ∀ b, WO B call ro r ((d, .ptr b 0) :: t) (⟨b, true, .cells l⟩ :: O) K) : WO B call ro (⟨some d, none, .h (.box x), q, []⟩ :: r) t O K :=
  WO_box (d := some d) hx h
theorem D_alloc {z : List AV} (h : ∀ b, WO B call ro r ((d, .ptr b 0) :: t) (⟨b, true, .cells z⟩ :: O) K) : WO B call ro (⟨some d, none, .h (.alloc z), q, []⟩ :: r) t O K := WO_alloc (d := some d) h
theorem D_bsl {z n : Nat} {zs : List AV} {ps : List (Nat × Nat × Opd)} (h1 : (z.beq 0 || !((n * z).ble 1000000)) = false) (h : ∀ b, fillK t zs ps fun l => cond (l.length.beq (n * z)) (WO B call ro r ((d, .sl b 0 n (some n) z) :: t) (⟨b, true, .cells l⟩ :: O) K) False) :
    WO B call ro (⟨some d, none, .h (.bsl z n zs ps), q, []⟩ :: r) t O K :=
  WO_mem (d := some d) fun tm H nx ht hk => by
    obtain ⟨l, e1, e2⟩ := fillK_ok (h nx)
    obtain ⟨e2, e3⟩ := of_condP e2
    rw [beq_dec, decide_eq_true_eq] at e2
    refine ⟨.sl nx 0 n (some n) z, H.set nx (.cells (put l 0 .e) l.length), nx + 1, ⟨nx, true, .cells l⟩ :: O, ?_, hk.cells l, e3⟩
    simp only [hop]
    rw [h1]
    simp only [cond_false, e1 tm ht, beq_dec, e2, decide_true, cond_true, newCells_eq]
theorem D_load {agg : Bool} {n b o : Nat} {l : List AV} (hx : gv t x = some (.ptr b o)) (hb : Has O b (.cells l)) (h : loadK agg n o l fun v => WO B call ro r ((d, v) :: t) O K) : WO B call ro (⟨some d, none, .h (.load agg n x), q, []⟩ :: r) t O K := by
  obtain ⟨v, h1, h2⟩ := loadK_ok h
  exact WO_load (d := some d) hx hb h1 h2
theorem D_loadG {agg : Bool} {n b o : Nat} {l : List AV} (hx : gv t x = some (.ptr b o)) (hb : Glob B b l) (h : loadK agg n o l fun v => WO B call ro r ((d, v) :: t) O K) : WO B call ro (⟨some d, none, .h (.load agg n x), q, []⟩ :: r) t O K := by
  obtain ⟨v, h1, h2⟩ := loadK_ok h
  exact WO_loadG (d := some d) hx hb h1 h2
theorem D_loadV {agg : Bool} {n b o : Nat} {l : List AV} {v : AV} (hx : gv t x = some (.ptr b o)) (hb : Has O b (.cells l)) (hv : ldv agg n o l = some v) (h : WO B call ro r ((d, v) :: t) O K) : WO B call ro (⟨some d, none, .h (.load agg n x), q, []⟩ :: r) t O K := WO_load (d := some d) hx hb hv h
theorem D_loadGV {agg : Bool} {n b o : Nat} {l : List AV} {v : AV} (hx : gv t x = some (.ptr b o)) (hb : Glob B b l) (hv : ldv agg n o l = some v) (h : WO B call ro r ((d, v) :: t) O K) : WO B call ro (⟨some d, none, .h (.load agg n x), q, []⟩ :: r) t O K := WO_loadG (d := some d) hx hb hv h
inductive At : List Ent → Nat → HB → (HB → List Ent) → Prop where
  | here {b c O} : At (⟨b, true, c⟩ :: O) b c (fun c' => ⟨b, true, c'⟩ :: O)
  | there {e b c O f} : At O b c f → At (e :: O) b c (fun c' => e :: f c')
theorem At.upd {O : List Ent} {b : Nat} {c : HB} {f : HB → List Ent} (h : At O b c f) (c' : HB) : Upd O b c c' (f c') := by
  induction h with
  | here => exact .here
  | there _ ih => exact .there ih
theorem D_store {n b o : Nat} {l : List AV} {u : AV} {f : HB → List Ent} (hx : gv t x = some (.ptr b o)) (hy : gv t y = some u) (ha : At O b (.cells l) f) (h1 : (acells u).length.beq n = true) (h2 : (acells u).all aone = true) (h : spliceK o l (acells u) fun l' => WO B call ro r t (f (.cells l')) K) :
    WO B call ro (⟨none, none, .h (.store n x y), false, []⟩ :: r) t O K := by
  obtain ⟨e1, e2⟩ := spliceK_ok h
  rw [beq_dec, decide_eq_true_eq] at h1
  exact WO_store (d := none) hx hy (ha.upd _) h1 h2 (by omega) e2
theorem D_storeV {b o : Nat} {l : List AV} {u : AV} {f : HB → List Ent} (hx : gv t x = some (.ptr b o)) (hy : gv t y = some u) (ha : At O b (.cells l) f) (h2 : acells u = [u] ∧ aone u = true) (h3 : o < l.length) (h : WO B call ro r t (f (.cells (l.set o u))) K) :
    WO B call ro (⟨none, none, .h (.store 1 x y), false, []⟩ :: r) t O K := WO_store1 (d := none) hx hy h2 (ha.upd _) h3 h
theorem D_call {f : FuncId} {xs : List Opd} {as : List AV} {I : List (Nat × HB)} {R : AV → List Ent → Prop} (hxs : gvs t xs = some as) (hs : SpecQ B call f as I R) (hI : Sub I O) (h : ∀ v N, R v N → WO B call ro r ((d, v) :: t) (N ++ O) K) : WO B call ro (⟨some d, none, .h (.call f xs), q, []⟩ :: r) t O K := WO_call (d := some d) hxs hs hI h
theorem D_callV {f : FuncId} {xs : List Opd} {as : List AV} {v : AV} (hxs : gvs t xs = some as) (hs : SpecQ B call f as [] fun u N => u = v ∧ N = []) (h : WO B call ro r ((d, v) :: t) O K) : WO B call ro (⟨some d, none, .h (.call f xs), q, []⟩ :: r) t O K :=
  WO_call (d := some d) hxs hs Sub.nil (by rintro _ _ ⟨rfl, rfl⟩; exact h)
theorem D_calldV {g : Opd} {f : FuncId} {first capt : List AV} {xs : List Opd} {as : List AV} {v : AV} (hg : gv t g = some (.fn (.func f) first capt)) (hxs : gvs t xs = some as) (hs : SpecQ B call f (first ++ as ++ capt) [] fun u N => u = v ∧ N = []) (h : WO B call ro r ((d, v) :: t) O K) :
    WO B call ro (⟨some d, none, .h (.calld g xs), q, []⟩ :: r) t O K := WO_calld (d := some d) hg hxs hs Sub.nil (by rintro _ _ ⟨rfl, rfl⟩; exact h)
theorem D_xrow {n : Nat} {xs : List Opd} {as : List AV} {v : AV} (hxs : gvs t xs = some as) (hv : xrow n as = some v) (h : WO B call ro r ((d, v) :: t) O K) : WO B call ro (⟨some d, none, .h (.xrow n xs), q, []⟩ :: r) t O K := WO_xrow (d := some d) hxs hv h
theorem G_do {j : J} {tg : Nat} {w : Bool} {dd : Option Nat} (hg : lk t tg = some (.bool w)) (h1 : WO B call ro (⟨dd, none, j, q, ex⟩ :: r) t O K) : WO B call ro (⟨dd, some (tg, w), j, q, ex⟩ :: r) t O K := WO_guard_do hg h1
theorem G_no {j : J} {tg : Nat} {w : Bool} (hg : lk t tg = some (.bool (!w))) (h2 : WO B call ro r ((d, .tup []) :: t) O K) : WO B call ro (⟨some d, some (tg, w), j, q, ex⟩ :: r) t O K := WO_guard_no (d := some d) hg h2
theorem G_no0 {j : J} {tg : Nat} {w : Bool} (hg : lk t tg = some (.bool (!w))) (h2 : WO B call ro r t O K) : WO B call ro (⟨none, some (tg, w), j, q, ex⟩ :: r) t O K := WO_guard_no (d := none) hg h2
theorem G_skip {j : J} {tg : Nat} {w : Bool} (hg : lk t tg = some (.tup [])) (h2 : WO B call ro r ((d, .tup []) :: t) O K) : WO B call ro (⟨some d, some (tg, w), j, q, ex⟩ :: r) t O K := WO_guard_skip (d := some d) hg h2
end
abbrev RV (v : AV) : AV → List Ent → Prop := fun u N => u = v ∧ N = []
section
variable {O O' : List Ent} {v x y z : AV} {t : Fr} {a b c d e f o o' n m : Nat} {g g' : Bool} {l l' : List AV}
theorem R_t (h1 : lk t a = some x) (hs : O.Sublist O') (he : x = v) : RetQ [.t a] O (RV v) .ret t O' := ⟨_, [], .t h1 .nil, hs, he, rfl⟩
theorem R_tt (h1 : lk t a = some x) (h2 : lk t b = some y) (hs : O.Sublist O') (he : .tup [x, y] = v) : RetQ [.t a, .t b] O (RV v) .ret t O' := ⟨_, [], .t h1 (.t h2 .nil), hs, he, rfl⟩
theorem R_c (h1 : lk t a = some (.ptr b o)) (hb : Has O' b (.cells l)) (hl : ldv g n o l = some x) (hs : O.Sublist O') (he : x = v) : RetQ [.cell a g n] O (RV v) .ret t O' := ⟨_, [], .cell h1 hb hl .nil, hs, he, rfl⟩
theorem R_ct (h1 : lk t a = some (.ptr b o)) (hb : Has O' b (.cells l)) (hl : ldv g n o l = some x) (h2 : lk t c = some y) (hs : O.Sublist O') (he : .tup [x, y] = v) : RetQ [.cell a g n, .t c] O (RV v) .ret t O' :=
  ⟨_, [], .cell h1 hb hl (.t h2 .nil), hs, he, rfl⟩
theorem R_cc (h1 : lk t a = some (.ptr b o)) (hb : Has O' b (.cells l)) (hl : ldv g n o l = some x) (h2 : lk t c = some (.ptr d o')) (hb2 : Has O' d (.cells l')) (hl2 : ldv g' m o' l' = some y) (hs : O.Sublist O') (he : .tup [x, y] = v) : RetQ [.cell a g n, .cell c g' m] O (RV v) .ret t O' :=
  ⟨_, [], .cell h1 hb hl (.cell h2 hb2 hl2 .nil), hs, he, rfl⟩
end
section
variable {t : Fr} {O : List Ent} {Q : Ex → Fr → List Ent → Prop} {a b c r : CC}
theorem C_reg {ops : List COp} (h : WO B call ro ops t O fun t O => W B call ro r t O Q) : W B call ro (.seq (.region ops) r) t O Q := W_seq (W_region h)
theorem W_eq {c c' : CC} (he : ∀ s, exec call ro c s = exec call ro c' s) (h : W B call ro c' t O Q) : W B call ro c t O Q := fun tm H nx ht hk => by
  rw [he]; exact h tm H nx ht hk
theorem C_assoc (h : W B call ro (.seq a (.seq b r)) t O Q) : W B call ro (.seq (.seq a b) r) t O Q := W_eq (fun s => by
  simp only [exec]
  cases exec call ro a s with
  | none => rfl
  | some x => obtain ⟨e, s1⟩ := x; cases e <;> rfl) h
theorem C_skip (h : W B call ro r t O Q) : W B call ro (.seq .skip r) t O Q := W_eq (fun _ => rfl) h
theorem C_ret (h : Q .ret t O) : W B call ro (.seq .ret r) t O Q := W_eq (c' := .ret) (fun _ => rfl) (W_ret h)
theorem C_exit {i : Nat} (h : Q (.exit i) t O) : W B call ro (.seq (.exit i) r) t O Q := W_eq (c' := .exit i) (fun _ => rfl) (W_exit h)
theorem cond_seq (x : Opd) (s : St) : exec call ro (.seq (.cond x a b) r) s = exec call ro (.cond x (.seq a r) (.seq b r)) s := by
  simp only [exec]
  cases getv s.1 x <;> try rfl
  rename_i p
  cases p <;> rfl
theorem C_if {x : Opd} {p : Bool} (hx : gv t x = some (.bool p)) (h1 : p = true → W B call ro (.seq a r) t O Q) (h2 : p = false → W B call ro (.seq b r) t O Q) : W B call ro (.seq (.cond x a b) r) t O Q :=
  W_eq (cond_seq x) (W_if hx h1 h2)
theorem C_if_dec {x : Opd} {p : Prop} [Decidable p] (hx : gv t x = some (.bool (decide p))) (h1 : p → W B call ro (.seq a r) t O Q) (h2 : ¬ p → W B call ro (.seq b r) t O Q) : W B call ro (.seq (.cond x a b) r) t O Q :=
  W_eq (cond_seq x) (W_if_dec hx h1 h2)
theorem C_if_t {x : Opd} (hx : gv t x = some (.bool true)) (h1 : W B call ro (.seq a r) t O Q) : W B call ro (.seq (.cond x a b) r) t O Q := W_eq (cond_seq x) (W_if_t hx h1)
theorem C_if_f {x : Opd} (hx : gv t x = some (.bool false)) (h1 : W B call ro (.seq b r) t O Q) : W B call ro (.seq (.cond x a b) r) t O Q := W_eq (cond_seq x) (W_if_f hx h1)
theorem C_block {i : Nat} (h : W B call ro b t O (blockC i (thenC B call ro r Q))) : W B call ro (.seq (.block i b) r) t O Q := W_seq (W_block h)
end
end W
end Go.Vm
