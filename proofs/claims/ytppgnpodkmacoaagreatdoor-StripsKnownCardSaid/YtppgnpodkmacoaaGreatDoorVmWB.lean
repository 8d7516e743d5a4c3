/-
  The rules for operations that only compute.
-/
import Derived.Test.YtppgnpodkmacoaaGreatDoorVmWA
set_option linter.unusedSimpArgs false
set_option linter.unusedVariables false

namespace Go.Vm
namespace W
variable {B : Base} {call : FuncId → List AV → Tr Blk → Nat → Nat → Out} {ro : Nat}
def inR (k : IntKind) (n : Int) : Prop := match k with
  | .i8 => -128 ≤ n ∧ n ≤ 127
  | .i16 => -32768 ≤ n ∧ n ≤ 32767
  | .i32 => -2147483648 ≤ n ∧ n ≤ 2147483647
  | .i64 => -9223372036854775808 ≤ n ∧ n ≤ 9223372036854775807
  | .u8 => 0 ≤ n ∧ n ≤ 255
  | .u16 => 0 ≤ n ∧ n ≤ 65535
  | .u32 => 0 ≤ n ∧ n ≤ 4294967295
  | .u64 => 0 ≤ n ∧ n ≤ 18446744073709551615
theorem wrap_in {k : IntKind} {n : Int} (h : inR k n) : k.wrap n = n := by
  by_cases h0 : 0 ≤ n
  · refine wrap_pos k n h0 ?_
    cases k <;> simp only [inR] at h <;> simp only [klim] <;> omega
  · refine wrap_neg k n ?_ (by omega) ?_
    · cases k <;> simp only [inR] at h <;> first | rfl | omega
    · cases k <;> simp only [inR] at h <;> simp only [klim] <;> omega
def abinS (op : BinOp) (a b : AV) : Option AV :=
  match a, b with
  | .int k x, .int k' y => bif keq k k' then (match op with
      | .add => some (.int k (k.wrap (x + y)))
      | .sub => some (.int k (k.wrap (x - y)))
      | .mul => some (.int k (k.wrap (x * y)))
      | .and => some (.int k (k.wrap (BitVec.ofInt k.bits x &&& BitVec.ofInt k.bits y).toNat))
      | .or => some (.int k (k.wrap (BitVec.ofInt k.bits x ||| BitVec.ofInt k.bits y).toNat))
      | .xor => some (.int k (k.wrap (BitVec.ofInt k.bits x ^^^ BitVec.ofInt k.bits y).toNat))
      | .andNot => some (.int k (k.wrap (BitVec.ofInt k.bits x &&& ~~~ BitVec.ofInt k.bits y).toNat))
      | .eql => some (.bool (decide (x = y)))
      | .neq => some (.bool (decide (x ≠ y)))
      | .lss => some (.bool (decide (x < y)))
      | .leq => some (.bool (decide (x ≤ y)))
      | .gtr => some (.bool (decide (y < x)))
      | .geq => some (.bool (decide (y ≤ x)))
      | _ => none) else none
  | .str s, .str t => match op with
      | .eql => some (.bool (decide (s = t)))
      | .neq => some (.bool (decide (s ≠ t)))
      | .lss => some (.bool (lless s t))
      | .gtr => some (.bool (!(lless s t || lbeq s t)))
      | .leq => some (.bool (lless s t || lbeq s t))
      | .geq => some (.bool (!lless s t))
      | _ => none
  | _, _ => none
theorem ile_not (x y : Int) : (!ile y x) = decide (x < y) := by
  rw [ile_eq, Bool.eq_iff_iff]; simp
theorem ieq_dec (x y : Int) : ieq x y = decide (x = y) := by
  rw [ieq_eq, Bool.eq_iff_iff]; simp
theorem lbeq_dec (x y : List Nat) : lbeq x y = decide (x = y) := by
  rw [Bool.eq_iff_iff, lbeq_iff]; simp
theorem abinS_ok {op : BinOp} {a b v : AV} (h : abinS op a b = some v) : abin op a b = some v := by
  unfold abinS at h
  split at h
  · rename_i k x k' y
    obtain ⟨hk, h⟩ := of_bif h
    cases op <;> simp only [reduceCtorEq] at h <;> simp only [abin, hk, cond_true, wrapQ_eq, ieq_dec, ile_eq] <;> rw [← h] <;>
      first
      | rfl
      | (congr 2; rw [Bool.eq_iff_iff]; simp)
  · cases op <;> simp only [reduceCtorEq] at h <;> simp only [abin, lbeq_dec] at h ⊢ <;> rw [← h] <;>
      first
      | rfl
      | (congr 2; rw [Bool.eq_iff_iff]; simp)
  · cases h
def ceqS : Nat → AV → AV → Option Bool
  | 1, .int k a, .int k' b => bif keq k k' then some (decide (a = b)) else none
  | 0, .bool a, .bool b => some (a == b)
  | 2, .str a, .str b => some (decide (a = b))
  | _, _, _ => none
def ceqsS : List Nat → List AV → List AV → Option Bool
  | [], [], [] => some true
  | k :: ks, a :: l, b :: m => match ceqS k a b, ceqsS ks l m with
    | some p, some q => some (p && q)
    | _, _ => none
  | _, _, _ => none
theorem ceqS_ok {k : Nat} {a b : AV} {p : Bool} (h : ceqS k a b = some p) : ceq k a b = some p := by
  unfold ceqS at h
  split at h
  · obtain ⟨hk, h⟩ := of_bif h
    simp only [ceq, hk, cond_true, ieq_dec]; exact h
  · exact h
  · simp only [ceq, lbeq_dec]; exact h
  · cases h
theorem ceqsS_ok : ∀ {ks : List Nat} {l m : List AV} {p : Bool}, ceqsS ks l m = some p → ceqs ks l m = some p
  | [], [], [], p, h => h
  | k :: ks, a :: l, b :: m, p, h => by
    simp only [ceqsS] at h
    split at h
    · rename_i x y hx hy
      simp only [ceqs, ceqS_ok hx]
      cases x with
      | true => simp only [Bool.true_and] at h; simp only [ceqsS_ok hy]; exact h
      | false => simpa using h
    · cases h
  | [], [], _ :: _, _, h => by cases h
  | [], _ :: _, _, _, h => by cases h
  | _ :: _, [], _, _, h => by cases h
  | _ :: _, _ :: _, [], _, h => by cases h
def aeqfS (agg : Bool) (ks : List Nat) (a b : AV) : Option Bool :=
  bif agg then (match a, b with
    | .agg l, .agg m => bif l.length.beq ks.length && m.length.beq ks.length then ceqsS ks l m else none
    | _, _ => none) else ceqsS ks [a] [b]
theorem aeqfS_ok {agg : Bool} {ks : List Nat} {a b : AV} {p : Bool} (h : aeqfS agg ks a b = some p) : aeqf agg ks a b = some p := by
  unfold aeqfS at h
  unfold aeqf
  cases agg with
  | false => exact ceqsS_ok h
  | true =>
    simp only [cond_true] at h ⊢
    split at h
    · obtain ⟨hk, h⟩ := of_bif h
      simp only [hk, cond_true]
      exact ceqsS_ok h
    · cases h
def aminS : AV → List AV → Option AV
  | x, [] => some x
  | .int k x, .int _ y :: r => aminS (.int k (min x y)) r
  | _, _ => none
def amaxS : AV → List AV → Option AV
  | x, [] => some x
  | .int k x, .int _ y :: r => amaxS (.int k (max x y)) r
  | _, _ => none
theorem aminS_ok : ∀ (l : List AV) (x : AV), aminS x l = amin x l
  | [], x => by cases x <;> rfl
  | a :: l, x => by
    cases x <;> cases a <;> try rfl
    rename_i k n k' m
    simp only [aminS, amin, aminS_ok l]
    congr 2
    rw [ile_eq]
    by_cases h : n ≤ m <;> simp [h] <;> omega
theorem amaxS_ok : ∀ (l : List AV) (x : AV), amaxS x l = amax x l
  | [], x => by cases x <;> rfl
  | a :: l, x => by
    cases x <;> cases a <;> try rfl
    rename_i k n k' m
    simp only [amaxS, amax, amaxS_ok l]
    congr 2
    rw [ile_eq]
    by_cases h : m ≤ n <;> simp [h] <;> omega
def popS (g : Opd → AV) : I → Option AV
  | .bin op x y => abinS op (g x) (g y)
  | .eqf n agg ks x y => match aeqfS agg ks (g x) (g y) with
    | some b => some (.bool (bif n then !b else b))
    | none => none
  | .eqn n kd x y => match aeqn kd (g x) (g y) with
    | some b => some (.bool (bif n then !b else b))
    | none => none
  | .neg x => match g x with | .int k n => some (.int k (k.wrap (-n))) | _ => none
  | .cvi k x => match g x with | .int _ n => some (.int k (k.wrap n)) | _ => none
  | .mins x xs => aminS (g x) (xs.map g)
  | .maxs x xs => amaxS (g x) (xs.map g)
  | i => pop g i
theorem popS_ok {g : Opd → AV} {i : I} {v : AV} (h : popS g i = some v) : pop g i = some v := by
  cases i <;> try exact h
  case bin op x y => exact abinS_ok h
  case eqf n agg ks x y =>
    simp only [popS] at h
    split at h
    · rename_i b hb
      simp only [pop, aeqfS_ok hb]
      rw [← h]; cases n <;> simp
    · cases h
  case eqn n kd x y =>
    simp only [popS] at h
    split at h
    · rename_i b hb
      simp only [pop, hb]
      rw [← h]; cases n <;> simp
    · cases h
  case neg x =>
    simp only [popS, pop] at h ⊢
    cases hx : g x <;> rw [hx] at h <;> first | (simp only [wrapQ_eq, Int.zero_sub]; exact h) | cases h
  case cvi k x =>
    simp only [popS, pop] at h ⊢
    cases hx : g x <;> rw [hx] at h <;> first | (simp only [wrapQ_eq]; exact h) | cases h
  case mins x xs => simp only [popS, aminS_ok] at h; exact h
  case maxs x xs => simp only [popS, amaxS_ok] at h; exact h
section
variable {t : Fr} {O : List Ent} {K : Fr → List Ent → Prop} {r : List COp} {d : Option Nat} {q : Bool} {ex : List Opd}
theorem WO_pop {i : I} {v : AV} (hv : ∀ tm, FA t tm → pop (getv tm) i = some v) (h : WO B call ro r (setF d v t) O K) : WO B call ro (⟨d, none, .p i, q, ex⟩ :: r) t O K :=
  WO_step fun tm H nx ht hk => ⟨v, H, nx, O, by simp only [runV, runJ, hv tm ht], hk, h⟩
def knows (t : Fr) (i : I) : Bool := i.opds.all fun x => (gv t x).isSome
theorem gd_eq {tm : Tr AV} (ht : FA t tm) {i : I} (hk : knows t i = true) : ∀ x ∈ i.opds, gd t x = getv tm x := by
  intro x hx
  have := List.all_eq_true.1 hk x hx
  obtain ⟨v, hv⟩ := Option.isSome_iff_exists.1 this
  rw [ht.gv hv, gd, hv]
  rfl
theorem WO_pure {i : I} {v : AV} (hk : knows t i = true) (hv : popS (gd t) i = some v) (h : WO B call ro r (setF d v t) O K) : WO B call ro (⟨d, none, .p i, q, ex⟩ :: r) t O K :=
  WO_pop (fun tm ht => by rw [← pop_congr i (gd_eq ht hk)]; exact popS_ok hv) h
theorem WO_add {x y : Opd} {k : IntKind} {a b : Int} (hx : gv t x = some (.int k a)) (hy : gv t y = some (.int k b)) (hr : inR k (a + b)) (h : WO B call ro r (setF d (.int k (a + b)) t) O K) :
    WO B call ro (⟨d, none, .p (.bin .add x y), q, ex⟩ :: r) t O K :=
  WO_pop (fun tm ht => by simp only [pop, ht.gv hx, ht.gv hy]; exact abinS_ok (by simp only [abinS, keq_iff.2 rfl, cond_true, wrap_in hr])) h
theorem WO_sub {x y : Opd} {k : IntKind} {a b : Int} (hx : gv t x = some (.int k a)) (hy : gv t y = some (.int k b)) (hr : inR k (a - b)) (h : WO B call ro r (setF d (.int k (a - b)) t) O K) :
    WO B call ro (⟨d, none, .p (.bin .sub x y), q, ex⟩ :: r) t O K :=
  WO_pop (fun tm ht => by simp only [pop, ht.gv hx, ht.gv hy]; exact abinS_ok (by simp only [abinS, keq_iff.2 rfl, cond_true, wrap_in hr])) h
theorem WO_mul {x y : Opd} {k : IntKind} {a b : Int} (hx : gv t x = some (.int k a)) (hy : gv t y = some (.int k b)) (hr : inR k (a * b)) (h : WO B call ro r (setF d (.int k (a * b)) t) O K) :
    WO B call ro (⟨d, none, .p (.bin .mul x y), q, ex⟩ :: r) t O K :=
  WO_pop (fun tm ht => by simp only [pop, ht.gv hx, ht.gv hy]; exact abinS_ok (by simp only [abinS, keq_iff.2 rfl, cond_true, wrap_in hr])) h
theorem WO_quo {x y : Opd} {k : IntKind} {a b : Int} (hx : gv t x = some (.int k a)) (hy : gv t y = some (.int k b)) (ha : 0 ≤ a) (hb : 0 < b) (hr : inR k (a / b)) (h : WO B call ro r (setF d (.int k (a / b)) t) O K) :
    WO B call ro (⟨d, none, .p (.bin .quo x y), q, ex⟩ :: r) t O K :=
  WO_pop (fun tm ht => by
    have e1 : ieq b 0 = false := by rw [ieq_dec]; simp; omega
    simp only [pop, ht.gv hx, ht.gv hy, abin, keq_iff.2 rfl, cond_true, e1, cond_false, wrapQ_eq, Int.tdiv_eq_ediv_of_nonneg ha, wrap_in hr]) h
theorem WO_tdiv {x y : Opd} {k : IntKind} {a b : Int} (hx : gv t x = some (.int k a)) (hy : gv t y = some (.int k b)) (hb : b ≠ 0) (hr : inR k (a.tdiv b)) (h : WO B call ro r (setF d (.int k (a.tdiv b)) t) O K) :
    WO B call ro (⟨d, none, .p (.bin .quo x y), q, ex⟩ :: r) t O K :=
  WO_pop (fun tm ht => by
    have e1 : ieq b 0 = false := by rw [ieq_dec]; simp; omega
    simp only [pop, ht.gv hx, ht.gv hy, abin, keq_iff.2 rfl, cond_true, e1, cond_false, wrapQ_eq, wrap_in hr]) h
theorem WO_rem {x y : Opd} {k : IntKind} {a b : Int} (hx : gv t x = some (.int k a)) (hy : gv t y = some (.int k b)) (ha : 0 ≤ a) (hb : 0 < b) (h : WO B call ro r (setF d (.int k (a % b)) t) O K) :
    WO B call ro (⟨d, none, .p (.bin .rem x y), q, ex⟩ :: r) t O K :=
  WO_pop (fun tm ht => by
    have e1 : ieq b 0 = false := by rw [ieq_dec]; simp; omega
    simp only [pop, ht.gv hx, ht.gv hy, abin, keq_iff.2 rfl, cond_true, e1, cond_false, Int.tmod_eq_emod_of_nonneg ha]) h
theorem WO_tmod {x y : Opd} {k : IntKind} {a b : Int} (hx : gv t x = some (.int k a)) (hy : gv t y = some (.int k b)) (hb : b ≠ 0) (h : WO B call ro r (setF d (.int k (a.tmod b)) t) O K) :
    WO B call ro (⟨d, none, .p (.bin .rem x y), q, ex⟩ :: r) t O K :=
  WO_pop (fun tm ht => by
    have e1 : ieq b 0 = false := by rw [ieq_dec]; simp; omega
    simp only [pop, ht.gv hx, ht.gv hy, abin, keq_iff.2 rfl, cond_true, e1, cond_false]) h
theorem WO_neg {x : Opd} {k : IntKind} {a : Int} (hx : gv t x = some (.int k a)) (hr : inR k (-a)) (h : WO B call ro r (setF d (.int k (-a)) t) O K) :
    WO B call ro (⟨d, none, .p (.neg x), q, ex⟩ :: r) t O K :=
  WO_pop (fun tm ht => by simp only [pop, ht.gv hx, wrapQ_eq, Int.zero_sub, wrap_in hr]) h
theorem WO_cvi {x : Opd} {k k' : IntKind} {a : Int} (hx : gv t x = some (.int k' a)) (hr : inR k a) (h : WO B call ro r (setF d (.int k a) t) O K) :
    WO B call ro (⟨d, none, .p (.cvi k x), q, ex⟩ :: r) t O K :=
  WO_pop (fun tm ht => by simp only [pop, ht.gv hx, wrapQ_eq, wrap_in hr]) h
theorem WO_cat {x y : Opd} {a b : List Nat} (hx : gv t x = some (.str a)) (hy : gv t y = some (.str b)) (hr : a.length + b.length ≤ 4000000000) (h : WO B call ro r (setF d (.str (a ++ b)) t) O K) :
    WO B call ro (⟨d, none, .p (.bin .add x y), q, ex⟩ :: r) t O K :=
  WO_pop (fun tm ht => by simp only [pop, ht.gv hx, ht.gv hy, abin, ble_dec, hr, decide_true, cond_true]) h
theorem asNat {n : Int} (h : 0 ≤ n) : n = Int.ofNat n.toNat := by
  cases n with
  | ofNat n => rfl
  | negSucc n => omega
theorem WO_iadA {n z : Nat} {x i : Opd} {b o : Nat} {k : IntKind} {m : Int} (hx : gv t x = some (.ptr b o)) (hi : gv t i = some (.int k m)) (h0 : 0 ≤ m) (h1 : m < n) (h : WO B call ro r (setF d (.ptr b (o + m.toNat * z)) t) O K) :
    WO B call ro (⟨d, none, .p (.iadA n z x i), q, ex⟩ :: r) t O K :=
  WO_pop (fun tm ht => by
    have e : n.ble m.toNat = false := by rw [ble_dec]; simp; omega
    rw [asNat h0] at hi
    simp only [pop, ht.gv hx, ht.gv hi, e, cond_false]) h
theorem WO_iadS {z : Nat} {x i : Opd} {b o len : Nat} {cap : Option Nat} {k : IntKind} {m : Int} (hx : gv t x = some (.sl b o len cap z)) (hi : gv t i = some (.int k m)) (h0 : 0 ≤ m) (h1 : m < len)
    (h : WO B call ro r (setF d (.ptr b (o + m.toNat * z)) t) O K) : WO B call ro (⟨d, none, .p (.iadS z x i), q, ex⟩ :: r) t O K :=
  WO_pop (fun tm ht => by
    have e : len.ble m.toNat = false := by rw [ble_dec]; simp; omega
    rw [asNat h0] at hi
    simp only [pop, ht.gv hx, ht.gv hi, e, Nat.beq_refl, Bool.not_true, Bool.false_or, cond_false]) h
theorem WO_idxS {x i : Opd} {s : List Nat} {k : IntKind} {m : Int} {c : Nat} (hx : gv t x = some (.str s)) (hi : gv t i = some (.int k m)) (h0 : 0 ≤ m) (h1 : s[m.toNat]? = some c)
    (h : WO B call ro r (setF d (.int .u8 c) t) O K) : WO B call ro (⟨d, none, .p (.idxS x i), q, ex⟩ :: r) t O K :=
  WO_pop (fun tm ht => by
    rw [asNat h0] at hi
    simp only [pop, ht.gv hx, ht.gv hi, h1]) h
theorem WO_idxA {agg : Bool} {n z : Nat} {x i : Opd} {l : List AV} {k : IntKind} {m : Int} {v : AV} (hx : gv t x = some (.agg l)) (hi : gv t i = some (.int k m)) (h0 : 0 ≤ m) (h1 : m < n) (hl : m.toNat * z + z ≤ l.length)
    (hv : mkv agg ((l.drop (m.toNat * z)).take z) = some v) (h : WO B call ro r (setF d v t) O K) : WO B call ro (⟨d, none, .p (.idxA agg n z x i), q, ex⟩ :: r) t O K :=
  WO_pop (fun tm ht => by
    have e : n.ble m.toNat = false := by rw [ble_dec]; simp; omega
    rw [asNat h0] at hi
    simp only [pop, ht.gv hx, ht.gv hi, e, ble_dec, hl, decide_true, Bool.not_true, Bool.or_false, cond_false, hv]) h
def bnd (t : Fr) : Option Opd → Int → Int → Prop
  | none, dflt, n => n = dflt
  | some x, _, n => ∃ k, gv t x = some (.int k n)
theorem bnd.of {x : Opd} {dflt n : Int} {k : IntKind} (h : gv t x = some (.int k n)) : bnd t (some x) dflt n := ⟨k, h⟩
theorem bnd.no {dflt : Int} : bnd t none dflt dflt := rfl
theorem bounds_of {tm : Tr AV} (ht : FA t tm) {len cap : Nat} {lo hi : Option Opd} {l h : Int} (hlo : bnd t lo 0 l) (hhi : bnd t hi len h) (h0 : 0 ≤ l) (h1 : l ≤ h) (h2 : h ≤ cap) :
    bounds len cap (lo.map (getv tm)) (hi.map (getv tm)) none = some (l.toNat, h.toNat, cap) := by
  have k2 : ∀ k, asN cap (.int k h) = some h.toNat := fun k => by
    rw [asNat (show 0 ≤ h by omega)]
    simp only [asN, ble_dec]
    rw [decide_eq_true (by simp; omega)]
    rfl
  have k1 : ∀ k, asN h.toNat (.int k l) = some l.toNat := fun k => by
    rw [asNat h0]
    simp only [asN, ble_dec]
    rw [decide_eq_true (by simp; omega)]
    rfl
  cases hi with
  | none =>
    simp only [bnd] at hhi
    subst hhi
    cases lo with
    | none =>
      simp only [bnd] at hlo
      subst hlo
      rfl
    | some y =>
      obtain ⟨k, hk⟩ := hlo
      have k1' : asN len (.int k l) = some l.toNat := k1 k
      unfold bounds
      simp only [Option.map_some, Option.map_none, ht.gv hk, k1']
      rfl
  | some x =>
    obtain ⟨k, hk⟩ := hhi
    cases lo with
    | none =>
      simp only [bnd] at hlo
      subst hlo
      unfold bounds
      simp only [Option.map_some, Option.map_none, ht.gv hk, k2]
      rfl
    | some y =>
      obtain ⟨k', hk'⟩ := hlo
      unfold bounds
      simp only [Option.map_some, ht.gv hk, ht.gv hk', k1, k2]
theorem WO_slS {z : Nat} {x : Opd} {lo hi : Option Opd} {b o len c : Nat} {l h : Int} (hx : gv t x = some (.sl b o len (some c) z)) (hlo : bnd t lo 0 l) (hhi : bnd t hi len h) (h0 : 0 ≤ l) (h1 : l ≤ h) (h2 : h ≤ c)
    (hK : WO B call ro r (setF d (.sl b (o + l.toNat * z) (h.toNat - l.toNat) (some (c - l.toNat)) z) t) O K) : WO B call ro (⟨d, none, .p (.slS z x lo hi none), q, ex⟩ :: r) t O K :=
  WO_pop (fun tm ht => by
    have := bounds_of ht hlo hhi h0 h1 h2
    simp only [pop, ht.gv hx, aslice, Nat.beq_refl, cond_true, Option.map_none, this]) hK
theorem WO_slN {z : Nat} {x : Opd} {lo hi : Option Opd} {b o len : Nat} {l h : Int} (hx : gv t x = some (.sl b o len none z)) (hlo : bnd t lo 0 l) (hhi : bnd t hi len h) (h0 : 0 ≤ l) (h1 : l ≤ h) (h2 : h ≤ len)
    (hK : WO B call ro r (setF d (.sl b (o + l.toNat * z) (h.toNat - l.toNat) none z) t) O K) : WO B call ro (⟨d, none, .p (.slS z x lo hi none), q, ex⟩ :: r) t O K :=
  WO_pop (fun tm ht => by
    have := bounds_of ht hlo hhi h0 h1 h2
    simp only [pop, ht.gv hx, aslice, Nat.beq_refl, cond_true, Option.map_none, this]) hK
theorem WO_slT {x : Opd} {lo hi : Option Opd} {s : List Nat} {l h : Int} (hx : gv t x = some (.str s)) (hlo : bnd t lo 0 l) (hhi : bnd t hi s.length h) (h0 : 0 ≤ l) (h1 : l ≤ h) (h2 : h ≤ s.length)
    (hK : WO B call ro r (setF d (.str ((s.drop l.toNat).take (h.toNat - l.toNat))) t) O K) : WO B call ro (⟨d, none, .p (.slT x lo hi), q, ex⟩ :: r) t O K :=
  WO_pop (fun tm ht => by
    have := bounds_of ht hlo hhi h0 h1 h2
    simp only [pop, ht.gv hx, this]) hK
theorem FA.same {tm : Tr AV} (ht : FA t tm) {n : Nat} {v : AV} (h : lk t n = some v) : FA ((n, v) :: t) tm := by
  intro m u hu
  simp only [lk, beq_dec] at hu
  by_cases hm : n = m
  · subst hm
    simp only [decide_true, cond_true, Option.some.injEq] at hu
    subst hu
    exact ht _ _ h
  · simp only [hm, decide_false, cond_false] at hu
    exact ht m u hu
theorem WO_guard_do {tg : Nat} {w : Bool} {j : J} (hg : lk t tg = some (.bool w)) (h1 : WO B call ro (⟨d, none, j, q, ex⟩ :: r) t O K) : WO B call ro (⟨d, some (tg, w), j, q, ex⟩ :: r) t O K := by
  intro tm H nx ht hk
  have hv := ht _ _ hg
  obtain ⟨tm', H', nx', t', O', e1, e2⟩ := h1 tm H nx ht hk
  refine ⟨tm', H', nx', t', O', ?_, e2⟩
  rw [← e1]
  have e3 : runV call ro ⟨d, some (tg, w), j, q, ex⟩ tm H nx = runV call ro ⟨d, none, j, q, ex⟩ tm H nx := by
    simp only [runV, hv, beq_self_eq_true, cond_true]
    rfl
  simp only [runOps, e3]
theorem WO_guard_no {tg : Nat} {w : Bool} {j : J} (hg : lk t tg = some (.bool (!w))) (h2 : WO B call ro r (setF d (.tup []) t) O K) : WO B call ro (⟨d, some (tg, w), j, q, ex⟩ :: r) t O K :=
  WO_step fun tm H nx ht hk => ⟨.tup [], H, nx, O, by
    have : ((!w) == w) = false := by cases w <;> rfl
    simp only [runV, ht _ _ hg, this, cond_false], hk, h2⟩
theorem WO_guard_skip {tg : Nat} {w : Bool} {j : J} (hg : lk t tg = some (.tup [])) (h2 : WO B call ro r (setF d (.tup []) t) O K) : WO B call ro (⟨d, some (tg, w), j, q, ex⟩ :: r) t O K :=
  WO_step fun tm H nx ht hk => ⟨.tup [], H, nx, O, by simp only [runV, ht _ _ hg], hk, h2⟩
theorem WO_know {ops : List COp} {n : Nat} {v : AV} (hg : lk t n = some v) (h : WO B call ro ops ((n, v) :: t) O K) : WO B call ro ops t O K := fun tm H nx ht hk => h tm H nx (ht.same hg) hk
theorem WO_guard {tg : Nat} {w x : Bool} {j : J} (hg : lk t tg = some (.bool x)) (h1 : x = true → WO B call ro (⟨d, some (tg, w), j, q, ex⟩ :: r) ((tg, .bool true) :: t) O K) (h2 : x = false → WO B call ro (⟨d, some (tg, w), j, q, ex⟩ :: r) ((tg, .bool false) :: t) O K) :
    WO B call ro (⟨d, some (tg, w), j, q, ex⟩ :: r) t O K := by
  cases x with
  | true => exact WO_know hg (h1 rfl)
  | false => exact WO_know hg (h2 rfl)
theorem WO_guard_dec {tg : Nat} {w : Bool} {p : Prop} [Decidable p] {j : J} (hg : lk t tg = some (.bool (decide p))) (h1 : p → WO B call ro (⟨d, some (tg, w), j, q, ex⟩ :: r) ((tg, .bool true) :: t) O K) (h2 : ¬ p → WO B call ro (⟨d, some (tg, w), j, q, ex⟩ :: r) ((tg, .bool false) :: t) O K) :
    WO B call ro (⟨d, some (tg, w), j, q, ex⟩ :: r) t O K := WO_guard hg (fun h => h1 (of_decide_eq_true h)) (fun h => h2 (of_decide_eq_false h))
end
end W
end Go.Vm
