/-
  Straight-line code of the machine, run by computation on what is known: the answer is what is known behind it, and what is left to be shown.
  Straight-line code by computation: memory, calls, and whole regions.
  Straight-line code by computation: that it says what the machine does.
  Small helps for the printed proofs.
-/
import Derived.Test.YtgncjbodicabnaaDoorVmWD
import Derived.Test.YtgncjbodicabnaaDoorVmWG
import Derived.KernelRfl
set_option linter.unusedSimpArgs false
set_option linter.unusedVariables false

namespace Go.Vm
namespace W
variable {B : Base} {call : FuncId → List AV → Tr Blk → Nat → Nat → Out} {ro : Nat}

/-- The guard under which a temporary was set. -/
abbrev Tg := Option (Nat × Bool)
abbrev SF := List (Nat × Tg × AV)

def tgE (a b : Nat × Bool) : Bool := Nat.beq a.1 b.1 && (bif a.2 then b.2 else !b.2)
def lkF (k : Nat) : Option (Tg × AV) → Option (Tg × AV)
  | none => none
  | some (none, u) => some (none, u)
  | some (some (tg, w), u) => bif Nat.beq tg k then none else some (some (tg, w), u)
def lkS : SF → Nat → Option (Tg × AV)
  | [], _ => none
  | (k, g, v) :: r, n => bif Nat.beq k n then some (g, v) else lkF k (lkS r n)
def gb (tm : Tr AV) : Tg → Bool
  | none => true
  | some (tg, w) => match getv tm (.t tg) with
    | .bool b => b == w
    | _ => false
def SA (t : SF) (tm : Tr AV) : Prop := ∀ n g v, lkS t n = some (g, v) → getv tm (.t n) = cond (gb tm g) v (.tup [])
def tgB (a b : Tg) : Bool := match a with
  | none => true
  | some x => match b with
    | none => false
    | some y => tgE x y
def gS (t : SF) (cur : Tg) : Opd → Option AV
  | .c v => some v
  | .t n => match lkS t n with
    | some (g, v) => bif tgB g cur then some v else none
    | none => none
theorem tgE_iff {a b : Nat × Bool} : tgE a b = true ↔ a = b := by
  obtain ⟨x, w⟩ := a; obtain ⟨y, u⟩ := b
  simp only [tgE, beq_dec, Prod.mk.injEq, Bool.and_eq_true, decide_eq_true_eq]
  cases w <;> cases u <;> simp
theorem tgB_ok {a b : Tg} (h : tgB a b = true) : a = none ∨ a = b := by
  cases a with
  | none => exact .inl rfl
  | some x => cases b with
    | none => cases h
    | some y => exact .inr (congrArg some (tgE_iff.1 h))
theorem gS_ok {t : SF} {tm : Tr AV} (ht : SA t tm) {cur : Tg} (hc : gb tm cur = true) {x : Opd} {v : AV} (h : gS t cur x = some v) : getv tm x = v := by
  cases x with
  | c u => exact Option.some.inj h
  | t n =>
    simp only [gS] at h
    split at h
    · rename_i g u hl
      have := ht n g u hl
      cases hb : tgB g cur with
      | false => rw [hb] at h; cases h
      | true =>
        rw [hb] at h
        obtain rfl := Option.some.inj h
        rcases tgB_ok hb with rfl | rfl
        · exact this
        · rw [this, hc]; rfl
    · cases h
/-- The guard as a number of bits. -/
def gx (t : SF) : Nat → Nat × Bool → Option Bool
  | 0, _ => none
  | f + 1, (tg, w) => match lkS t tg with
    | some (none, .bool b) => some (bif w then b else !b)
    | some (some g, .bool b) => match gx t f g with
      | some p => some (p && (bif w then b else !b))
      | none => none
    | _ => none
theorem gx_ok {t : SF} {tm : Tr AV} (ht : SA t tm) : ∀ {f : Nat} {g : Nat × Bool} {p : Bool}, gx t f g = some p → gb tm (some g) = p
  | 0, _, _, h => by cases h
  | f + 1, (tg, w), p, h => by
    simp only [gx] at h
    split at h
    · rename_i b hl
      have := ht _ _ _ hl
      obtain rfl := Option.some.inj h
      simp only [gb, this, cond_true]
      cases w <;> cases b <;> rfl
    · rename_i g b hl
      have := ht _ _ _ hl
      split at h
      · rename_i q hq
        have ih := gx_ok ht hq
        obtain rfl := Option.some.inj h
        rw [ih] at this
        simp only [gb, this]
        cases q <;> cases w <;> cases b <;> rfl
      · cases h
    · cases h

theorem SA.set {t : SF} {tm : Tr AV} (h : SA t tm) (d : Nat) (g : Tg) (v v' : AV) (hg : ∀ x, g = some x → x.1 ≠ d) (hv : v' = cond (gb tm g) v (.tup [])) : SA ((d, g, v) :: t) (tm.set d v') := by
  have hgb : ∀ (g : Tg), (∀ x, g = some x → x.1 ≠ d) → gb (tm.set d v') g = gb tm g := by
    intro g hg
    cases g with
    | none => rfl
    | some x =>
      obtain ⟨tg, w⟩ := x
      have : tg ≠ d := hg _ rfl
      simp only [gb, getv_set]
      rw [if_neg this]
  intro n g' u hu
  simp only [lkS, beq_dec] at hu
  rw [getv_set]
  by_cases hn : d = n
  · subst hn
    simp only [decide_true, cond_true, Option.some.injEq, Prod.mk.injEq] at hu
    obtain ⟨rfl, rfl⟩ := hu
    rw [if_pos rfl, hgb g hg, hv]
  · simp only [hn, decide_false, cond_false] at hu
    rw [if_neg (by omega)]
    have : lkS t n = some (g', u) ∧ ∀ x, g' = some x → x.1 ≠ d := by
      unfold lkF at hu
      split at hu
      · cases hu
      · rename_i w hl
        cases hu
        exact ⟨hl, fun x hx => by cases hx⟩
      · rename_i tg w u' hl
        rw [beq_dec] at hu
        by_cases e : tg = d
        · simp [e] at hu
        · simp only [e, decide_false, cond_false] at hu
          cases hu
          exact ⟨hl, fun x hx => by cases hx; exact e⟩
    rw [h n g' u this.1, hgb g' this.2]

def sf0 : Fr → SF
  | [] => []
  | (n, v) :: r => (n, none, v) :: sf0 r
theorem lkS_sf0 : ∀ {t : Fr} {n : Nat} {g : Tg} {v : AV}, lkS (sf0 t) n = some (g, v) → g = none ∧ lk t n = some v
  | [], _, _, _, h => by cases h
  | (k, u) :: r, n, g, v, h => by
    simp only [sf0, lkS] at h
    simp only [lk]
    cases hk : Nat.beq k n with
    | true => rw [hk] at h; simp only [cond_true, Option.some.injEq, Prod.mk.injEq] at h; exact ⟨h.1.symm, by rw [cond_true, h.2]⟩
    | false =>
      rw [hk] at h
      simp only [cond_false] at h ⊢
      cases hl : lkS (sf0 r) n with
      | none => rw [hl] at h; cases h
      | some x =>
        obtain ⟨g1, v1⟩ := x
        obtain ⟨rfl, h2⟩ := lkS_sf0 hl
        rw [hl] at h
        simp only [lkF, Option.some.injEq, Prod.mk.injEq] at h
        exact ⟨h.1.symm, by rw [h2, h.2]⟩
theorem SA_sf0 {t : Fr} {tm : Tr AV} (h : FA t tm) : SA (sf0 t) tm := by
  intro n g v hv
  obtain ⟨rfl, h2⟩ := lkS_sf0 hv
  exact h n v h2
def outS (t : SF) : List Nat → Option Fr
  | [] => some []
  | n :: l => match lkS t n with
    | some (none, v) => match outS t l with
      | some r => some ((n, v) :: r)
      | none => none
    | _ => none
theorem outS_ok {t : SF} {tm : Tr AV} (h : SA t tm) : ∀ {l : List Nat} {r : Fr}, outS t l = some r → FA r tm
  | [], r, e => by cases e; exact fun n v hv => by cases hv
  | n :: l, r, e => by
    simp only [outS] at e
    split at e
    · rename_i v hl
      split at e
      · rename_i r' hr
        cases e
        have ih := outS_ok h hr
        intro m u hu
        simp only [lk, beq_dec] at hu
        by_cases hm : n = m
        · subst hm
          simp only [decide_true, cond_true, Option.some.injEq] at hu
          subst hu
          exact h _ _ _ hl
        · simp only [hm, decide_false, cond_false] at hu
          exact ih _ _ hu
      · cases e
    · cases e

/-! ## Operations that only compute -/
abbrev PV := Option (Option Prop × AV)
def i1 (a : Option AV) (k : IntKind → Int → PV) : PV := match a with
  | some (.int d n) => k d n
  | _ => none
def i2 (a b : Option AV) (k : IntKind → Int → Int → PV) : PV := i1 a fun d x => i1 b fun d' y => bif keq d d' then k d x y else none
def b1 (a : Option AV) (k : Bool → PV) : PV := match a with
  | some (.bool b) => k b
  | _ => none
def eqB : List Nat → List AV → List AV → Option Bool
  | [], [], [] => some true
  | [d], [a], [b] => ceqS d a b
  | d :: ks, a :: l, b :: m => match ceqS d a b with
    | some p => match eqB ks l m with
      | some q => some (p && q)
      | none => none
    | none => none
  | _, _, _ => none
theorem eqB_ok : ∀ {ks : List Nat} {l m : List AV} {p : Bool}, eqB ks l m = some p → ceqsS ks l m = some p
  | [], [], [], p, h => h
  | [d], [a], [b], p, h => by
    simp only [eqB] at h
    simp only [ceqsS, h, Bool.and_true]
  | d :: d' :: ks, a :: l, b :: m, p, h => by
    simp only [eqB] at h
    split at h
    · rename_i x hx
      split at h
      · rename_i y hy
        have ih := eqB_ok hy
        rw [ceqsS, hx, ih]
        exact h
      · cases h
    · cases h
  | [d], a :: a' :: l, b :: m, _, h => by
    simp only [eqB] at h
    split at h <;> cases h
  | [d], [a], b :: b' :: m, _, h => by
    simp only [eqB] at h
    split at h <;> cases h
  | [], [], _ :: _, _, h => by cases h
  | [], _ :: _, _, _, h => by cases h
  | _ :: _, [], _, _, h => by simp [eqB] at h
  | _ :: _, _ :: _, [], _, h => by simp [eqB] at h
def bn (neg p : Bool) : Bool := bif neg then !p else p
def gvsS (g : Opd → Option AV) : List Opd → Option (List AV)
  | [] => some []
  | x :: l => match g x with
    | some v => match gvsS g l with
      | some r => some (v :: r)
      | none => none
    | none => none
def fillS (g : Opd → Option AV) : List (Nat × Nat × Opd) → Option (List (Nat × Nat × AV))
  | [] => some []
  | (o, s, x) :: l => match g x with
    | some v => match fillS g l with
      | some r => some ((o, s, v) :: r)
      | none => none
    | none => none
def srBin (op : BinOp) (w : Bool) (a b : Option AV) : PV := match op with
  | .add => match a with
    | some (.str s) => match b with
      | some (.str u) => some (some (s.length + u.length ≤ 4000000000), .str (s ++ u))
      | _ => none
    | _ => i2 a b fun d x y => bif w then some (none, .int d (d.wrap (x + y))) else some (some (inR d (x + y)), .int d (x + y))
  | .sub => i2 a b fun d x y => bif w then some (none, .int d (d.wrap (x - y))) else some (some (inR d (x - y)), .int d (x - y))
  | .mul => i2 a b fun d x y => bif w then some (none, .int d (d.wrap (x * y))) else some (some (inR d (x * y)), .int d (x * y))
  | .quo => i2 a b fun d x y => bif w then some (some (0 ≤ x ∧ 0 < y ∧ inR d (x / y)), .int d (x / y)) else some (some (y ≠ 0 ∧ inR d (x.tdiv y)), .int d (x.tdiv y))
  | .rem => i2 a b fun d x y => bif w then some (some (0 ≤ x ∧ 0 < y), .int d (x % y)) else some (some (y ≠ 0), .int d (x.tmod y))
  | .eql => match a with
    | some (.str s) => match b with
      | some (.str u) => some (none, .bool (decide (s = u)))
      | _ => none
    | _ => i2 a b fun _ x y => some (none, .bool (decide (x = y)))
  | .neq => match a with
    | some (.str s) => match b with
      | some (.str u) => some (none, .bool (decide (s ≠ u)))
      | _ => none
    | _ => i2 a b fun _ x y => some (none, .bool (decide (x ≠ y)))
  | .lss => i2 a b fun _ x y => some (none, .bool (decide (x < y)))
  | .leq => i2 a b fun _ x y => some (none, .bool (decide (x ≤ y)))
  | .gtr => i2 a b fun _ x y => some (none, .bool (decide (y < x)))
  | .geq => i2 a b fun _ x y => some (none, .bool (decide (y ≤ x)))
  | _ => none
/-- A bound of a slice. -/
def bi (g : Opd → Option AV) (x : Option Opd) (dflt : Int) : Option Int := match x with
  | none => some dflt
  | some x => match g x with
    | some (.int _ n) => some n
    | _ => none
def ok1 (v : AV) : PV := some (none, v)
def srP (g : Opd → Option AV) (w : Bool) : I → PV
  | .mov x => match g x with
    | some v => ok1 v
    | none => none
  | .pick c a b => b1 (g c) fun p => match (bif p then g a else g b) with
    | some v => ok1 v
    | none => none
  | .build z ps => match fillS g ps with
    | some l => match afill z l with
      | some r => ok1 (.agg r)
      | none => none
    | none => none
  | .nilck x => match g x with
    | some (.ptr b o) => ok1 (.ptr b o)
    | some (.fn (.func f) a b) => ok1 (.fn (.func f) a b)
    | _ => none
  | .bin op x y => srBin op w (g x) (g y)
  | .eqf n agg ks x y => bif agg then (match g x with
      | some (.agg l) => match g y with
        | some (.agg m) => bif l.length.beq ks.length && m.length.beq ks.length then (match eqB ks l m with
          | some p => ok1 (.bool (bn n p))
          | none => none) else none
        | _ => none
      | _ => none) else (match g x with
    | some a => match g y with
      | some b => match eqB ks [a] [b] with
        | some p => ok1 (.bool (bn n p))
        | none => none
      | none => none
    | none => none)
  | .eqn n kd x y => match g x with
    | some a => match g y with
      | some b => match aeqn kd a b with
        | some p => ok1 (.bool (bn n p))
        | none => none
      | none => none
    | none => none
  | .neg x => i1 (g x) fun d a => bif w then some (none, .int d (d.wrap (-a))) else some (some (inR d (-a)), .int d (-a))
  | .not x => b1 (g x) fun p => ok1 (.bool (!p))
  | .cvi k x => i1 (g x) fun _ a => bif w then some (none, .int k (k.wrap a)) else some (some (inR k a), .int k a)
  | .cvs x => match g x with
    | some (.str s) => ok1 (.str s)
    | _ => none
  | .mkif t x => match g x with
    | some v => ok1 (.ifc t v)
    | none => none
  | .mkfn f a b => match gvsS g a with
    | some l => match gvsS g b with
      | some m => ok1 (.fn f l m)
      | none => none
    | none => none
  | .fad off x => match g x with
    | some (.ptr b o) => ok1 (.ptr b (o + off))
    | _ => none
  | .fld agg size off x => match g x with
    | some (.agg l) => match ldv agg size off l with
      | some v => ok1 v
      | none => none
    | _ => none
  | .iadA n z x i => match g x with
    | some (.ptr b o) => i1 (g i) fun _ m => some (some (0 ≤ m ∧ m < n), .ptr b (o + m.toNat * z))
    | _ => none
  | .iadS z x i => match g x with
    | some (.sl b o len _ z') => bif z'.beq z then i1 (g i) fun _ m => some (some (0 ≤ m ∧ m < len), .ptr b (o + m.toNat * z)) else none
    | _ => none
  | .ext n x => match g x with
    | some (.tup l) => match l[n]? with
      | some v => ok1 v
      | none => none
    | _ => none
  | .len x => match g x with
    | some (.sl _ _ len _ _) => ok1 (.int .i64 len)
    | some .nils => ok1 (.int .i64 0)
    | _ => none
  | .lenS x => match g x with
    | some (.str s) => ok1 (.int .i64 s.length)
    | _ => none
  | .lenc n => ok1 (.int .i64 n)
  | .cap x => match g x with
    | some (.sl _ _ _ (some c) _) => ok1 (.int .i64 c)
    | some .nils => ok1 (.int .i64 0)
    | _ => none
  | .slS z x lo hi none => match g x with
    | some (.sl b o len cap z') => bif z'.beq z then (match bi g lo 0 with
      | some l => match bi g hi len with
        | some h => some (some (0 ≤ l ∧ l ≤ h ∧ h ≤ (cap.getD len : Nat)), .sl b (o + l.toNat * z) (h.toNat - l.toNat) (match cap with | some c => some (c - l.toNat) | none => none) z)
        | none => none
      | none => none) else none
    | _ => none
  | .slT x lo hi => match g x with
    | some (.str s) => match bi g lo 0 with
      | some l => match bi g hi s.length with
        | some h => some (some (0 ≤ l ∧ l ≤ h ∧ h ≤ (s.length : Nat)), .str ((s.drop l.toNat).take (h.toNat - l.toNat)))
        | none => none
      | none => none
    | _ => none
  | .idxS x i => match g x with
    | some (.str s) => i1 (g i) fun _ m => some (some (0 ≤ m ∧ m < (s.length : Nat)), .int .u8 ((s.getD m.toNat 0 : Nat) : Int))
    | _ => none
  | .mins x [y] => i2 (g x) (g y) fun d a b => ok1 (.int d (min a b))
  | .maxs x [y] => i2 (g x) (g y) fun d a b => ok1 (.int d (max a b))
  | _ => none

theorem i1_some {a : Option AV} {k : IntKind → Int → PV} {r : Option Prop × AV} (h : i1 a k = some r) : ∃ d n, a = some (.int d n) ∧ k d n = some r := by
  unfold i1 at h
  split at h
  · exact ⟨_, _, rfl, h⟩
  · cases h
theorem i2_some {a b : Option AV} {k : IntKind → Int → Int → PV} {r : Option Prop × AV} (h : i2 a b k = some r) : ∃ d x y, a = some (.int d x) ∧ b = some (.int d y) ∧ k d x y = some r := by
  obtain ⟨d, x, h1, h⟩ := i1_some h
  obtain ⟨d', y, h2, h⟩ := i1_some h
  cases hk : keq d d' with
  | false => rw [hk] at h; cases h
  | true =>
    rw [hk] at h
    obtain rfl := keq_iff.1 hk
    exact ⟨d, x, y, h1, h2, h⟩
theorem b1_some {a : Option AV} {k : Bool → PV} {r : Option Prop × AV} (h : b1 a k = some r) : ∃ p, a = some (.bool p) ∧ k p = some r := by
  unfold b1 at h
  split at h
  · exact ⟨_, rfl, h⟩
  · cases h
theorem ok1_eq {v : AV} {c : Option Prop} {u : AV} (h : ok1 v = some (c, u)) : u = v := by
  unfold ok1 at h; cases h; rfl
def holdsO : Option Prop → Prop
  | none => True
  | some c => c

section
variable {g : Opd → Option AV} {g' : Opd → AV} (hg : ∀ x v, g x = some v → g' x = v)
include hg
theorem gvsS_ok : ∀ {xs : List Opd} {l : List AV}, gvsS g xs = some l → xs.map g' = l
  | [], l, h => by cases h; rfl
  | x :: xs, l, h => by
    simp only [gvsS] at h
    split at h
    · rename_i v hv
      split at h
      · rename_i r hr
        cases h
        rw [List.map_cons, hg _ _ hv, gvsS_ok hr]
      · cases h
    · cases h
theorem fillS_ok : ∀ {ps : List (Nat × Nat × Opd)} {l : List (Nat × Nat × AV)}, fillS g ps = some l → (ps.map fun (o, s, x) => (o, s, g' x)) = l
  | [], l, h => by cases h; rfl
  | (o, s, x) :: ps, l, h => by
    simp only [fillS] at h
    split at h
    · rename_i v hv
      split at h
      · rename_i r hr
        cases h
        rw [List.map_cons, fillS_ok hr]; simp only [hg _ _ hv]
      · cases h
    · cases h
theorem bi_ok {len cap : Nat} {lo hi : Option Opd} {l h : Int} (hlo : bi g lo 0 = some l) (hhi : bi g hi len = some h) (h0 : 0 ≤ l) (h1 : l ≤ h) (h2 : h ≤ cap) :
    bounds len cap (lo.map g') (hi.map g') none = some (l.toNat, h.toNat, cap) := by
  have k2 : ∀ k, asN cap (.int k h) = some h.toNat := fun k => by
    rw [asNat (show 0 ≤ h by omega)]
    simp only [asN, ble_dec]
    rw [decide_eq_true (by simp; omega)]
    rfl
  have k1 : ∀ k, asN h.toNat (.int k l) = some l.toNat := fun k => by
    rw [asNat h0]
    simp only [asN, ble_dec]
    rw [decide_eq_true (by simp; omega)]
    rfl
  have key : ∀ {x : Opd} {d n : Int}, bi g (some x) d = some n → ∃ k, g' x = .int k n := by
    intro x d n hb
    simp only [bi] at hb
    split at hb <;> cases hb
    rename_i k _ hx
    exact ⟨_, hg _ _ hx⟩
  cases hi with
  | none =>
    simp only [bi, Option.some.injEq] at hhi
    subst hhi
    cases lo with
    | none =>
      simp only [bi, Option.some.injEq] at hlo
      subst hlo
      rfl
    | some y =>
      obtain ⟨k, hk⟩ := key hlo
      have k1' : asN len (.int k l) = some l.toNat := k1 k
      unfold bounds
      simp only [Option.map_some, Option.map_none, hk, k1']
      rfl
  | some x =>
    obtain ⟨k, hk⟩ := key hhi
    cases lo with
    | none =>
      simp only [bi, Option.some.injEq] at hlo
      subst hlo
      unfold bounds
      simp only [Option.map_some, Option.map_none, hk, k2]
      rfl
    | some y =>
      obtain ⟨k', hk'⟩ := key hlo
      unfold bounds
      simp only [Option.map_some, hk, hk', k1, k2]
omit hg in
theorem srBin_ok {op : BinOp} {w : Bool} {a b : AV} {c : Option Prop} {v : AV} (h : srBin op w (some a) (some b) = some (c, v)) (hc : holdsO c) : abin op a b = some v := by
  have key : ∀ {k : IntKind → Int → Int → PV}, i2 (some a) (some b) k = some (c, v) → (∀ d x y, a = .int d x → b = .int d y → k d x y = some (c, v) → abin op a b = some v) → abin op a b = some v := by
    intro k h hk
    obtain ⟨d, x, y, h1, h2, h3⟩ := i2_some h
    exact hk d x y (Option.some.inj h1) (Option.some.inj h2) h3
  have wr : ∀ {d : IntKind} {x y z : Int}, a = .int d x → b = .int d y → (abinS op (.int d x) (.int d y) = some (.int d (d.wrap z))) → (bif w then some (none, .int d (d.wrap z)) else some (some (inR d z), .int d z) : PV) = some (c, v) → abin op a b = some v := by
    intro d x y z ha hb hs hh
    subst ha; subst hb
    cases w with
    | true => simp only [cond_true, Option.some.injEq, Prod.mk.injEq] at hh; rw [← hh.2]; exact abinS_ok hs
    | false =>
      simp only [cond_false, Option.some.injEq, Prod.mk.injEq] at hh
      obtain ⟨rfl, rfl⟩ := hh
      rw [wrap_in hc] at hs
      exact abinS_ok hs
  have kk : ∀ d : IntKind, keq d d = true := fun d => keq_iff.2 rfl
  unfold srBin at h
  cases op <;> simp only at h <;> try (cases h; done)
  case add =>
    split at h
    · rename_i s hs
      split at h
      · rename_i u hu
        cases hs; cases hu
        simp only [Option.some.injEq, Prod.mk.injEq] at h
        obtain ⟨rfl, rfl⟩ := h
        have hc : s.length + u.length ≤ 4000000000 := hc
        simp only [abin, ble_dec, hc, decide_true, cond_true]
      · cases h
    · exact key h fun d x y ha hb hh => wr ha hb (by simp only [abinS, kk, cond_true]) hh
  case sub => exact key h fun d x y ha hb hh => wr ha hb (by simp only [abinS, kk, cond_true]) hh
  case mul => exact key h fun d x y ha hb hh => wr ha hb (by simp only [abinS, kk, cond_true]) hh
  case quo =>
    refine key h fun d x y ha hb hh => ?_
    subst ha; subst hb
    cases w with
    | true =>
      simp only [cond_true, Option.some.injEq, Prod.mk.injEq] at hh
      obtain ⟨rfl, rfl⟩ := hh
      obtain ⟨h0, h1, hr⟩ := hc
      have e1 : ieq y 0 = false := by rw [ieq_dec]; simp; omega
      simp only [abin, kk, cond_true, e1, cond_false, wrapQ_eq, Int.tdiv_eq_ediv_of_nonneg h0, wrap_in hr]
    | false =>
      simp only [cond_false, Option.some.injEq, Prod.mk.injEq] at hh
      obtain ⟨rfl, rfl⟩ := hh
      obtain ⟨h0, hr⟩ := hc
      have e1 : ieq y 0 = false := by rw [ieq_dec]; simp; omega
      simp only [abin, kk, cond_true, e1, cond_false, wrapQ_eq, wrap_in hr]
  case rem =>
    refine key h fun d x y ha hb hh => ?_
    subst ha; subst hb
    cases w with
    | true =>
      simp only [cond_true, Option.some.injEq, Prod.mk.injEq] at hh
      obtain ⟨rfl, rfl⟩ := hh
      obtain ⟨h0, h1⟩ := hc
      have e1 : ieq y 0 = false := by rw [ieq_dec]; simp; omega
      simp only [abin, kk, cond_true, e1, cond_false, Int.tmod_eq_emod_of_nonneg h0]
    | false =>
      simp only [cond_false, Option.some.injEq, Prod.mk.injEq] at hh
      obtain ⟨rfl, rfl⟩ := hh
      have hc : y ≠ 0 := hc
      have e1 : ieq y 0 = false := by rw [ieq_dec]; simp; omega
      simp only [abin, kk, cond_true, e1, cond_false]
  case eql =>
    split at h
    · split at h
      · rename_i h1 _ u h2
        cases h1; cases h2
        cases h
        exact abinS_ok rfl
      · cases h
    · refine key h fun d x y ha hb hh => ?_
      subst ha; subst hb; cases hh
      exact abinS_ok (by simp only [abinS, kk, cond_true])
  case neq =>
    split at h
    · split at h
      · rename_i h1 _ u h2
        cases h1; cases h2
        cases h
        exact abinS_ok rfl
      · cases h
    · refine key h fun d x y ha hb hh => ?_
      subst ha; subst hb; cases hh
      exact abinS_ok (by simp only [abinS, kk, cond_true])
  all_goals
    refine key h fun d x y ha hb hh => ?_
    subst ha; subst hb; cases hh
    exact abinS_ok (by simp only [abinS, kk, cond_true])

theorem srP_ok {w : Bool} {i : I} {c : Option Prop} {v : AV} (h : srP g w i = some (c, v)) (hc : holdsO c) : pop g' i = some v := by
  cases i <;> simp only [srP] at h <;> try (cases h; done)
  case mov x =>
    split at h
    · rename_i u hu; obtain rfl := ok1_eq h; simp only [pop, hg _ _ hu]
    · cases h
  case pick cc a b =>
    obtain ⟨p, h1, h⟩ := b1_some h
    split at h
    · rename_i u hu
      obtain rfl := ok1_eq h
      simp only [pop, hg _ _ h1]
      cases p with
      | true => simp only [hg _ _ hu]
      | false => simp only [hg _ _ hu]
    · cases h
  case build z ps =>
    split at h
    · rename_i l hl
      split at h
      · rename_i r hr
        obtain rfl := ok1_eq h
        simp only [pop]
        rw [fillS_ok hg hl, hr]; rfl
      · cases h
    · cases h
  case nilck x =>
    split at h
    · rename_i hu; obtain rfl := ok1_eq h; simp only [pop, hg _ _ hu]
    · rename_i hu; obtain rfl := ok1_eq h; simp only [pop, hg _ _ hu]
    · cases h
  case bin op x y =>
    cases hx : g x with
    | none => rw [hx] at h; unfold srBin at h; cases op <;> simp only [i2, i1] at h <;> cases h
    | some a => cases hy : g y with
      | none =>
        exfalso
        rw [hx, hy] at h
        unfold srBin at h
        cases op <;> simp only at h <;> try (cases h; done)
        case add => split at h; (simp at h); (obtain ⟨d, x, y, _, h2, _⟩ := i2_some h; cases h2)
        case eql => split at h; (simp at h); (obtain ⟨d, x, y, _, h2, _⟩ := i2_some h; cases h2)
        case neq => split at h; (simp at h); (obtain ⟨d, x, y, _, h2, _⟩ := i2_some h; cases h2)
        all_goals obtain ⟨d, x, y, _, h2, _⟩ := i2_some h; cases h2
      | some b =>
        rw [hx, hy] at h
        simp only [pop, hg _ _ hx, hg _ _ hy]
        exact srBin_ok h hc
  case eqf n agg ks x y =>
    refine popS_ok ?_
    cases agg with
    | true =>
      simp only [cond_true] at h
      split at h
      · rename_i l hl
        split at h
        · rename_i m hm
          cases hz : l.length.beq ks.length && m.length.beq ks.length with
          | false => rw [hz] at h; cases h
          | true =>
            rw [hz] at h
            simp only [cond_true] at h
            split at h <;> try (cases h; done)
            rename_i p hp
            obtain rfl := ok1_eq h
            simp only [popS, hg _ _ hl, hg _ _ hm, aeqfS, hz, cond_true, eqB_ok hp, bn]
        · cases h
      · cases h
    | false =>
      simp only [cond_false] at h
      split at h <;> try (cases h; done)
      rename_i a ha
      split at h <;> try (cases h; done)
      rename_i b hb
      split at h <;> try (cases h; done)
      rename_i p hp
      obtain rfl := ok1_eq h
      simp only [popS, hg _ _ ha, hg _ _ hb, aeqfS, cond_false, eqB_ok hp, bn]
  case eqn n kd x y =>
    split at h <;> try (cases h; done)
    rename_i a ha
    split at h <;> try (cases h; done)
    rename_i b hb
    split at h <;> try (cases h; done)
    rename_i p hp
    obtain rfl := ok1_eq h
    refine popS_ok ?_
    simp only [popS, hg _ _ ha, hg _ _ hb, hp, bn]
  case neg x =>
    obtain ⟨d, a, h1, h⟩ := i1_some h
    refine popS_ok ?_
    simp only [popS, hg _ _ h1]
    cases w <;> simp only [cond_true, cond_false, Option.some.injEq, Prod.mk.injEq] at h <;> obtain ⟨rfl, rfl⟩ := h
    · rw [wrap_in hc]
    · rfl
  case not x =>
    obtain ⟨p, h1, h⟩ := b1_some h
    obtain rfl := ok1_eq h
    simp only [pop, hg _ _ h1]
  case cvi k x =>
    obtain ⟨d, a, h1, h⟩ := i1_some h
    refine popS_ok ?_
    simp only [popS, hg _ _ h1]
    cases w <;> simp only [cond_true, cond_false, Option.some.injEq, Prod.mk.injEq] at h <;> obtain ⟨rfl, rfl⟩ := h
    · rw [wrap_in hc]
    · rfl
  case cvs x =>
    split at h
    · rename_i hu; obtain rfl := ok1_eq h; simp only [pop, hg _ _ hu]
    · cases h
  case mkif t x =>
    split at h
    · rename_i hu; obtain rfl := ok1_eq h; simp only [pop, hg _ _ hu]
    · cases h
  case mkfn f a b =>
    split at h <;> try (cases h; done)
    rename_i l hl
    split at h <;> try (cases h; done)
    rename_i m hm
    obtain rfl := ok1_eq h
    simp only [pop, gvsS_ok hg hl, gvsS_ok hg hm]
  case fad off x =>
    split at h
    · rename_i hu; obtain rfl := ok1_eq h; simp only [pop, hg _ _ hu]
    · cases h
  case fld agg size off x =>
    split at h <;> try (cases h; done)
    rename_i l hl
    split at h <;> try (cases h; done)
    rename_i u hu
    obtain rfl := ok1_eq h
    simp only [pop, hg _ _ hl]
    exact hu
  case iadA n z x i =>
    split at h <;> try (cases h; done)
    rename_i b o hb
    obtain ⟨d, m, h1, h⟩ := i1_some h
    simp only [Option.some.injEq, Prod.mk.injEq] at h
    obtain ⟨rfl, rfl⟩ := h
    obtain ⟨h0, h2⟩ := hc
    simp only [pop, hg _ _ hb, hg _ _ h1]
    cases m with
    | negSucc m => omega
    | ofNat m =>
      have : n.ble m = false := by rw [ble_dec]; simp; simp at h2; omega
      simp only [this, cond_false, Int.ofNat_eq_natCast, Int.toNat_natCast]
  case iadS z x i =>
    split at h <;> try (cases h; done)
    rename_i b o len cap z' hb
    cases hz : z'.beq z with
    | false => rw [hz] at h; cases h
    | true =>
      rw [hz] at h
      obtain ⟨d, m, h1, h⟩ := i1_some h
      simp only [Option.some.injEq, Prod.mk.injEq] at h
      obtain ⟨rfl, rfl⟩ := h
      obtain ⟨h0, h2⟩ := hc
      simp only [pop, hg _ _ hb, hg _ _ h1]
      cases m with
      | negSucc m => omega
      | ofNat m =>
        have : (!(z'.beq z) || len.ble m) = false := by rw [hz, ble_dec]; simp; simp at h2; omega
        simp only [this, cond_false, Int.ofNat_eq_natCast, Int.toNat_natCast]
  case slS z x lo hi mx =>
    match mx, h with
    | some _, h => cases h
    | none, h =>
      simp only at h
      split at h <;> try (cases h; done)
      rename_i b o len cap z' hx
      cases hz : z'.beq z with
      | false => rw [hz] at h; cases h
      | true =>
        rw [hz] at h
        simp only [cond_true] at h
        split at h <;> try (cases h; done)
        rename_i l hl
        split at h <;> try (cases h; done)
        rename_i k hk
        simp only [Option.some.injEq, Prod.mk.injEq] at h
        obtain ⟨rfl, rfl⟩ := h
        obtain ⟨c0, c1, c2⟩ := hc
        cases cap with
        | none =>
          have := bi_ok hg (cap := len) hl hk c0 c1 c2
          simp only [pop, hg _ _ hx, aslice, hz, cond_true, Option.map_none, this]
        | some c =>
          have := bi_ok hg (cap := c) hl hk c0 c1 c2
          simp only [pop, hg _ _ hx, aslice, hz, cond_true, Option.map_none, this]
  case slT x lo hi =>
    split at h <;> try (cases h; done)
    rename_i s hx
    split at h <;> try (cases h; done)
    rename_i l hl
    split at h <;> try (cases h; done)
    rename_i k hk
    simp only [Option.some.injEq, Prod.mk.injEq] at h
    obtain ⟨rfl, rfl⟩ := h
    obtain ⟨c0, c1, c2⟩ := hc
    have := bi_ok hg (cap := s.length) hl hk c0 c1 c2
    simp only [pop, hg _ _ hx, this]
  case idxS x i =>
    split at h <;> try (cases h; done)
    rename_i s hx
    obtain ⟨d, m, h1, h⟩ := i1_some h
    simp only [Option.some.injEq, Prod.mk.injEq] at h
    obtain ⟨rfl, rfl⟩ := h
    obtain ⟨h0, h2⟩ := hc
    simp only [pop, hg _ _ hx, hg _ _ h1]
    cases m with
    | negSucc m => omega
    | ofNat m =>
      have hm : m < s.length := by simp at h2; omega
      simp [List.getElem?_eq_getElem hm]
  case ext n x =>
    split at h <;> try (cases h; done)
    rename_i l hl
    split at h <;> try (cases h; done)
    rename_i u hu
    obtain rfl := ok1_eq h
    simp only [pop, hg _ _ hl, hu]
  case len x =>
    split at h
    · rename_i hu; obtain rfl := ok1_eq h; simp only [pop, hg _ _ hu]
    · rename_i hu; obtain rfl := ok1_eq h; simp only [pop, hg _ _ hu]
    · cases h
  case lenS x =>
    split at h
    · rename_i hu; obtain rfl := ok1_eq h; simp only [pop, hg _ _ hu]
    · cases h
  case lenc n => obtain rfl := ok1_eq h; rfl
  case cap x =>
    split at h
    · rename_i hu; obtain rfl := ok1_eq h; simp only [pop, hg _ _ hu]
    · rename_i hu; obtain rfl := ok1_eq h; simp only [pop, hg _ _ hu]
    · cases h
  case mins x xs =>
    refine popS_ok ?_
    match xs, h with
    | [y], h =>
      obtain ⟨d, a, b, h1, h2, h⟩ := i2_some h
      obtain rfl := ok1_eq h
      simp only [popS, List.map_cons, List.map_nil, hg _ _ h1, hg _ _ h2, aminS]
    | [], h => cases h
    | _ :: _ :: _, h => cases h
  case maxs x xs =>
    refine popS_ok ?_
    match xs, h with
    | [y], h =>
      obtain ⟨d, a, b, h1, h2, h⟩ := i2_some h
      obtain rfl := ok1_eq h
      simp only [popS, List.map_cons, List.map_nil, hg _ _ h1, hg _ _ h2, amaxS]
    | [], h => cases h
    | _ :: _ :: _, h => cases h
end
end W
end Go.Vm

namespace Go.Vm
namespace W
variable {B : Base} {call : FuncId → List AV → Tr Blk → Nat → Nat → Out} {ro : Nat}

/-- Where something is read: an entry, or what is known of the entries behind the first ones. -/
inductive Rd where
  | e (j : Nat)
  | t (k b : Nat) (l : List AV)

/-- What is told of an operation. -/
inductive Hn where
  | c
  | w
  | pk
  | told (v : AV)
  | ld (r : Rd)
  | ldt (r : Rd) (v : AV)
  | ldg (l : List AV) (v : AV)
  | st (j : Nat)
  | stt (j : Nat) (l : List AV)
  | mk (l : List AV)
  | ap (m : Nat) (rx ry : Rd) (l : List AV)
  | cl (v : AV)
  | cn (m : Nat) (rs : List Rd) (V : List Nat → AV) (N : List Nat → List Ent)
  | g (h : Hn)

/-- A call's answer with so many new blocks. -/
def RB (m : Nat) (V : List Nat → AV) (N : List Nat → List Ent) : AV → List Ent → Prop := fun v O => ∃ bs : List Nat, bs.length = m ∧ v = V bs ∧ O = N bs

structure Rs where
  c : Option Prop
  e : List (Nat × Nat)
  m : Nat
  v : List Nat → AV
  O : List Nat → List Ent

def atE : List Ent → Nat → Option Ent
  | [], _ => none
  | e :: _, 0 => some e
  | _ :: r, n + 1 => atE r n
def setE : List Ent → Nat → List AV → List Ent
  | [], _, _ => []
  | e :: r, 0, l => ⟨e.b, e.w, .cells l⟩ :: r
  | e :: r, n + 1, l => e :: setE r n l
def delE : List Ent → Nat → List Ent
  | [], _ => []
  | _ :: r, 0 => r
  | e :: r, n + 1 => e :: delE r n
theorem atE_has : ∀ {O : List Ent} {j : Nat} {e : Ent}, atE O j = some e → Has O e.b e.c
  | [], _, _, h => by cases h
  | e :: r, 0, e', h => by cases h; obtain ⟨b, w, c⟩ := e; exact .here
  | e :: r, n + 1, e', h => .there (atE_has h)
theorem setE_upd : ∀ {O : List Ent} {j : Nat} {e : Ent} {l : List AV}, atE O j = some e → e.w = true → Upd O e.b e.c (.cells l) (setE O j l)
  | [], _, _, _, h, _ => by cases h
  | e :: r, 0, e', l, h, hw => by cases h; obtain ⟨b, w, c⟩ := e; cases hw; exact .here
  | e :: r, n + 1, e', l, h, hw => .there (setE_upd h hw)
theorem delE_del : ∀ {O : List Ent} {j : Nat} {e : Ent}, atE O j = some e → e.w = true → Del O e.b e.c (delE O j)
  | [], _, _, h, _ => by cases h
  | e :: r, 0, e', h, hw => by cases h; obtain ⟨b, w, c⟩ := e; cases hw; exact .here
  | e :: r, n + 1, e', h, hw => .there (delE_del h hw)

def rdE (O : List Ent) : Rd → Option (Nat × List AV × Option Prop)
  | .e j => match atE O j with
    | some ⟨b, _, .cells l⟩ => some (b, l, none)
    | _ => none
  | .t k b l => some (b, l, some (Has (O.drop k) b (.cells l)))
def rdI (O : List Ent) : List Rd → Option (List (Nat × HB) × Prop)
  | [] => some ([], True)
  | r :: rs => match rdE O r with
    | some (b, l, c) => match rdI O rs with
      | some (I, P) => some ((b, .cells l) :: I, match c with | none => P | some c => c ∧ P)
      | none => none
    | none => none
def also (c : Option Prop) (P : Prop) : Prop := match c with
  | none => P
  | some c => c ∧ P
theorem also_ok {c : Option Prop} {P : Prop} (h : also c P) : (∀ q, c = some q → q) ∧ P := by
  cases c with
  | none => exact ⟨fun _ e => (by cases e), h⟩
  | some c => exact ⟨fun q e => Option.some.inj e ▸ h.1, h.2⟩
theorem Has.drop : ∀ {k : Nat} {O : List Ent} {b : Nat} {c : HB}, Has (O.drop k) b c → Has O b c
  | 0, _, _, _, h => h
  | _ + 1, [], _, _, h => by simpa using h
  | _ + 1, _ :: _, _, _, h => .there (Has.drop (by simpa using h))
theorem rdE_ok {O : List Ent} {r : Rd} {b : Nat} {l : List AV} {c : Option Prop} (h : rdE O r = some (b, l, c)) (hc : ∀ q, c = some q → q) : Has O b (.cells l) := by
  cases r with
  | e j =>
    simp only [rdE] at h
    split at h <;> cases h
    rename_i hj
    exact atE_has hj
  | t k b' l' =>
    cases h
    exact (hc _ rfl).drop
theorem rdI_ok {O : List Ent} : ∀ {rs : List Rd} {I : List (Nat × HB)} {P : Prop}, rdI O rs = some (I, P) → P → Sub I O
  | [], I, P, h, _ => by cases h; exact Sub.nil
  | r :: rs, I, P, h, hp => by
    simp only [rdI] at h
    split at h <;> try (cases h; done)
    rename_i b l c hr
    split at h <;> try (cases h; done)
    rename_i I' P' hI
    cases h
    cases c with
    | none => exact Sub.cons (rdE_ok hr fun _ h => by cases h) (rdI_ok hI hp)
    | some c =>
      have hp : c ∧ P' := hp
      exact Sub.cons (rdE_ok hr fun q e => by have := Option.some.inj e; subst this; exact hp.1) (rdI_ok hI hp.2)

/-- What is appended: the elements that lie in an entry, or none. -/
def srcE (O : List Ent) (z : Nat) (ry : Rd) : AV → Option (List (Nat × Nat) × Nat × List AV × Prop)
  | .sl b o k _ z' => bif z'.beq z then (match rdE O ry with
    | some (b', l, c) => some ([(b, b')], k, (l.drop o).take (k * z), also c (k ≠ 0 ∧ o + k * z ≤ l.length))
    | none => none) else none
  | _ => none

def srH (B : Base) (call : FuncId → List AV → Tr Blk → Nat → Nat → Out) (g : Opd → Option AV) (q : Bool) (O : List Ent) (h : Hn) : I → Option Rs
  | .box x => match g x with
    | some v => some ⟨none, [], 1, fun l => .ptr (l.headD 0) 0, fun l => ⟨l.headD 0, true, .cells (acells v)⟩ :: O⟩
    | none => none
  | .alloc z => some ⟨none, [], 1, fun l => .ptr (l.headD 0) 0, fun l => ⟨l.headD 0, true, .cells z⟩ :: O⟩
  | .bsl z n zs ps => match fillS g ps with
    | some l => match afill zs l with
      | some r => bif !(z.beq 0 || !((n * z).ble 1000000)) && r.length.beq (n * z) then some ⟨none, [], 1, fun l => .sl (l.headD 0) 0 n (some n) z, fun l => ⟨l.headD 0, true, .cells r⟩ :: O⟩ else none
      | none => none
    | none => none
  | .load agg n x => match g x with
    | some (.ptr b o) => match h with
      | .ld rd => match rdE O rd with
        | some (b', l, c) => match ldv agg n o l with
          | some v => some ⟨c, [(b, b')], 0, fun _ => v, fun _ => O⟩
          | none => none
        | none => none
      | .ldt rd v => match rdE O rd with
        | some (b', l, c) => some ⟨some (also c (ldv agg n o l = some v)), [(b, b')], 0, fun _ => v, fun _ => O⟩
        | none => none
      | .ldg l v => some ⟨some (Glob B b l ∧ ldv agg n o l = some v), [], 0, fun _ => v, fun _ => O⟩
      | _ => none
    | _ => none
  | .slA n z x lo hi none => match h with
    | .ld rd => match g x with
      | some (.ptr b o) => match rdE O rd with
        | some (b', l, c) => match bi g lo 0 with
          | some lo => match bi g hi n with
            | some hi => bif !(z.beq 0) then some ⟨some (also c (0 ≤ lo ∧ lo ≤ hi ∧ hi ≤ (n : Nat) ∧ o + n * z ≤ l.length)), [(b, b')], 0, fun _ => .sl b (o + lo.toNat * z) (hi.toNat - lo.toNat) (some (n - lo.toNat)) z, fun _ => O⟩ else none
            | none => none
          | none => none
        | none => none
      | _ => none
    | _ => none
  | .b2s x => match h with
    | .ldt rd (.str s) => match g x with
      | some (.sl b o len _ z) => match rdE O rd with
        | some (b', l, c) => bif z.beq 1 then some ⟨some (also c (o + len ≤ l.length ∧ u8s ((l.drop o).take len) = some s)), [(b, b')], 0, fun _ => .str s, fun _ => O⟩ else none
        | none => none
      | _ => none
    | _ => none
  | .store n x y => bif q then none else match g x with
    | some (.ptr b o) => match g y with
      | some u => bif (acells u).length.beq n && (acells u).all aone then (match h with
        | .st j => match atE O j with
          | some ⟨b', true, .cells l⟩ => bif (o + n).ble l.length then some ⟨none, [(b, b')], 0, fun _ => .tup [], fun _ => setE O j (splice l o (acells u))⟩ else none
          | _ => none
        | .stt j l' => match atE O j with
          | some ⟨b', true, .cells l⟩ => some ⟨some (o + n ≤ l.length ∧ splice l o (acells u) = l'), [(b, b')], 0, fun _ => .tup [], fun _ => setE O j l'⟩
          | _ => none
        | _ => none) else none
      | none => none
    | _ => none
  | .mksl z bytes zs l c => match h with
    | .mk new => match g l with
      | some (.int _ n) => match g c with
        | some (.int _ m) => bif bytes.ble 1000 && !(z.beq 0) && zs.length.beq z then
            some ⟨some (0 ≤ n ∧ n ≤ m ∧ m ≤ 1000000 ∧ (List.replicate m.toNat zs).flatten = new), [], 1, fun l => .sl (l.headD 0) 0 n.toNat (some m.toNat) z, fun l => ⟨l.headD 0, true, .cells new⟩ :: O⟩ else none
        | _ => none
      | _ => none
    | _ => none
  | .app z bytes x y => match h with
    | .ap mode rx ry l' => match g y with
      | some v => match srcE O z ry v with
        | some (es, k, new, cy) => bif bytes.ble 1000 && !(z.beq 0) then (match g x with
          | some .nils => some ⟨some (cy ∧ k ≤ 10000000 ∧ new.all aone = true ∧ new = l'), es, 1, fun l => .sl (l.headD 0) 0 k none z, fun l => ⟨l.headD 0, true, .cells l'⟩ :: O⟩
          | some (.sl b o len none z') => bif !q && z'.beq z && o.beq 0 && mode.beq 1 then (match rx with
            | .e jx => match atE O jx with
              | some ⟨b', true, .cells old⟩ => some ⟨some (cy ∧ old.length = len * z ∧ len + k ≤ 10000000 ∧ new.all aone = true ∧ old ++ new = l'), (b, b') :: es, 1, fun l => .sl (l.headD 0) 0 (len + k) none z, fun l => ⟨l.headD 0, true, .cells l'⟩ :: delE O jx⟩
              | _ => none
            | _ => none) else none
          | some (.sl b o len (some cp) z') => bif z'.beq z then (bif mode.beq 2 then (match rdE O rx with
              | some (b', old, c) => some ⟨some (also c (cy ∧ o + len * z ≤ old.length ∧ cp < len + k ∧ len + k ≤ 10000000 ∧ new.all aone = true ∧ (old.drop o).take (len * z) ++ new = l')), (b, b') :: es, 1, fun l => .sl (l.headD 0) 0 (len + k) none z, fun l => ⟨l.headD 0, true, .cells l'⟩ :: O⟩
              | none => none)
            else match rx with
              | .e jx => match atE O jx with
                | some ⟨b', w, .cells old⟩ => bif !q && w then some ⟨some (cy ∧ new.length = k * z ∧ len + k ≤ cp ∧ o + (len + k) * z ≤ old.length ∧ len + k ≤ 10000000 ∧ new.all aone = true ∧ splice old (o + len * z) new = l'), (b, b') :: es, 0, fun _ => .sl b o (len + k) (some cp) z, fun _ => setE O jx l'⟩ else none
                | _ => none
              | _ => none) else none
          | _ => none) else none
        | none => none
      | none => none
    | _ => none
  | .call f xs => match gvsS g xs with
    | some as => match h with
      | .cl v => some ⟨some (SpecQ B call f as [] fun u N => u = v ∧ N = []), [], 0, fun _ => v, fun _ => O⟩
      | .cn m rs V N => match rdI O rs with
        | some (I, P) => some ⟨some (SpecQ B call f as I (RB m V N) ∧ P), [], m, V, fun l => N l ++ O⟩
        | none => none
      | _ => none
    | none => none
  | .calld x xs => match g x with
    | some (.fn (.func f) a b) => match gvsS g xs with
      | some as => match h with
        | .cl v => some ⟨some (SpecQ B call f (a ++ as ++ b) [] fun u N => u = v ∧ N = []), [], 0, fun _ => v, fun _ => O⟩
        | .cn m rs V N => match rdI O rs with
          | some (I, P) => some ⟨some (SpecQ B call f (a ++ as ++ b) I (RB m V N) ∧ P), [], m, V, fun l => N l ++ O⟩
          | none => none
        | _ => none
      | none => none
    | _ => none
  | .xrow n xs => match h with
    | .told v => match gvsS g xs with
      | some as => some ⟨some (xrow n as = some v), [], 0, fun _ => v, fun _ => O⟩
      | none => none
    | _ => none
  | _ => none

def isW : Hn → Bool
  | .w => true
  | _ => false
def allK (g : Opd → Option AV) : List Opd → Bool
  | [] => true
  | x :: l => match g x with
    | some _ => allK g l
    | none => false
/-- A pick by a bit that is not known. -/
def side (t : SF) (cur : Tg) (cn : Nat) (w : Bool) : Opd → Option AV
  | .c v => some v
  | .t n => match lkS t n with
    | some (g, v) => bif tgB g cur || tgB g (some (cn, w)) then some v else none
    | none => none
def mix (p : Bool) (a b : AV) : Option AV := match a with
  | .bool x => match b with
    | .bool y => some (.bool (bif p then x else y))
    | _ => none
  | .int k x => match b with
    | .int k' y => bif keq k k' then some (.int k (bif p then x else y)) else none
    | _ => none
  | .str x => match b with
    | .str y => some (.str (bif p then x else y))
    | _ => none
  | _ => none
def pickK (p : Bool) (a b : Opd) (va vb : AV) : Option AV := match b with
  | .c (.bool false) => (match va with
    | .bool x => some (.bool (p && x))
    | _ => none)
  | _ => match a with
    | .c (.bool true) => (match vb with
      | .bool y => some (.bool (p || y))
      | _ => none)
    | _ => mix p va vb
def pkS (t : SF) (cur : Tg) : I → Option AV
  | .pick (.t cn) a b => match lkS t cn with
    | some (gc, .bool p) => bif tgB gc cur then (match side t cur cn true a with
      | some va => match side t cur cn false b with
        | some vb => pickK p a b va vb
        | none => none
      | none => none) else none
    | _ => none
  | _ => none
def pureR (O : List Ent) (c : Option Prop) (v : AV) : Rs := ⟨c, [], 0, fun _ => v, fun _ => O⟩
def srJ (B : Base) (call : FuncId → List AV → Tr Blk → Nat → Nat → Out) (t : SF) (cur : Tg) (q : Bool) (O : List Ent) (h : Hn) (ex : List Opd) : J → Option Rs
  | .p i => match h with
    | .pk => match pkS t cur i with
      | some v => some (pureR O none v)
      | none => none
    | .told v => bif allK (gS t cur) i.opds then some (pureR O (some (popS (fun x => (gS t cur x).getD (.tup [])) i = some v)) v) else none
    | h => match srP (gS t cur) (isW h) i with
      | some (c, v) => some (pureR O c v)
      | none => none
  | .h i => match ex with
    | [] => srH B call (gS t cur) q O h i
    | _ => none
def under (p : Bool) : Option Prop → Option Prop
  | none => none
  | some c => some (p = true → c)
def still : J → Hn → Bool
  | .p _, _ => true
  | .h (.load _ _ _), _ => true
  | .h (.call _ _), .cl _ => true
  | .h (.calld _ _), .cl _ => true
  | .h (.xrow _ _), _ => true
  | _, _ => false
def putF (d : Option Nat) (g : Tg) (v : AV) (t : SF) : SF := match d with
  | none => t
  | some d => (d, g, v) :: t
def nuL (ν : Nat → Nat) : Nat → Nat → List Nat
  | _, 0 => []
  | i, m + 1 => ν i :: nuL ν (i + 1) m
def andO : Option Prop → Prop → Prop
  | none, P => P
  | some c, P => c ∧ P

/-- One operation: what it asks, which blocks are to be alike, how many are new, and what is known behind it. -/
def srO (B : Base) (call : FuncId → List AV → Tr Blk → Nat → Nat → Out) (o : COp) (h : Hn) (t : SF) (O : List Ent) : Option (Option Prop × List (Nat × Nat) × Nat × (List Nat → SF) × (List Nat → List Ent)) :=
  match o.guard with
  | none => match srJ B call t none o.q O h o.ex o.j with
    | some r => some (r.c, r.e, r.m, fun l => putF o.dst none (r.v l) t, r.O)
    | none => none
  | some (tg, w) => match h with
    | .g h => match o.dst with
      | some d => bif Nat.beq tg d || !still o.j h then none else (match gx t 16 (tg, w) with
        | some p => match srJ B call t (some (tg, w)) o.q O h o.ex o.j with
          | some r => some (under p r.c, r.e, 0, fun _ => (d, some (tg, w), r.v []) :: t, fun _ => O)
          | none => none
        | none => none)
      | none => none
    | h => match lkS t tg with
      | some (none, .bool true) => bif w then (match srJ B call t none o.q O h o.ex o.j with
          | some r => some (r.c, r.e, r.m, fun l => putF o.dst none (r.v l) t, r.O)
          | none => none) else some (none, [], 0, fun _ => putF o.dst none (.tup []) t, fun _ => O)
      | some (none, .bool false) => bif w then some (none, [], 0, fun _ => putF o.dst none (.tup []) t, fun _ => O) else (match srJ B call t none o.q O h o.ex o.j with
          | some r => some (r.c, r.e, r.m, fun l => putF o.dst none (r.v l) t, r.O)
          | none => none)
      | some (none, .tup []) => some (none, [], 0, fun _ => putF o.dst none (.tup []) t, fun _ => O)
      | _ => none

def hdH : List Hn → Hn
  | [] => .c
  | h :: _ => h
def sr (B : Base) (call : FuncId → List AV → Tr Blk → Nat → Nat → Out) (ν : Nat → Nat) : List COp → List Hn → Nat → SF → List Ent → Option (Prop × List Nat × List Nat × SF × List Ent)
  | [], _, _, t, O => some (True, [], [], t, O)
  | o :: r, hs, i, t, O => match srO B call o (hdH hs) t O with
    | some (c, es, m, T, OO) => match sr B call ν r hs.tail (i + m) (T (nuL ν i m)) (OO (nuL ν i m)) with
      | some (P, L1, L2, t', O') => some (andO c P, es.map (·.1) ++ L1, es.map (·.2) ++ L2, t', O')
      | none => none
    | none => none
def dropE : List Nat → List Ent → List Ent
  | [], O => O
  | n :: r, O => dropE r (delE O n)
theorem delE_sub : ∀ {O : List Ent} {n : Nat}, (delE O n).Sublist O
  | [], _ => .refl _
  | _ :: _, 0 => .cons _ (.refl _)
  | _ :: _, _ + 1 => .cons_cons _ delE_sub
theorem dropE_sub : ∀ (l : List Nat) (O : List Ent), (dropE l O).Sublist O
  | [], O => List.Sublist.refl O
  | n :: r, O => (dropE_sub r (delE O n)).trans delE_sub
def srL (B : Base) (call : FuncId → List AV → Tr Blk → Nat → Nat → Out) (ν : Nat → Nat) (live dl : List Nat) (ops : List COp) (hs : List Hn) (t : Fr) (O : List Ent) : Option (Prop × List Nat × List Nat × Fr × List Ent) :=
  match sr B call ν ops hs 0 (sf0 t) O with
  | some (P, L1, L2, t', O') => match outS t' live with
    | some f => some (P, L1, L2, f, dropE dl O')
    | none => none
  | none => none
end W
end Go.Vm

namespace Go.Vm
namespace W
variable {B : Base} {call : FuncId → List AV → Tr Blk → Nat → Nat → Out} {ro : Nat}

theorem len1 {l : List Nat} (h : l.length = 1) : ∃ b, l = [b] := by
  match l, h with
  | [b], _ => exact ⟨b, rfl⟩

section
variable {g : Opd → Option AV} {tm : Tr AV} (hg : ∀ x v, g x = some v → getv tm x = v)
include hg
omit hg in
theorem new_ok {O : List Ent} {H : Tr Blk} {nx : Nat} (hk : HK B ro O H nx) {q : Bool} {i : I} {l : List AV} {f : Nat → AV} {c : Option Prop} {e : List (Nat × Nat)} (hi : ∀ rr, hop call rr (getv tm) H nx i = newCells l f H nx) {r : Rs} (hr : r = ⟨c, e, 1, fun l => f (l.headD 0), fun bs => ⟨bs.headD 0, true, .cells l⟩ :: O⟩) :
    ∃ bs : List Nat, bs.length = r.m ∧ ∃ H' nx', hop call (bif q then nx else ro) (getv tm) H nx i = some (r.v bs, H', nx') ∧ HK B ro (r.O bs) H' nx' := by
  subst hr
  exact ⟨[nx], rfl, _, _, by rw [hi, newCells_eq]; rfl, hk.cells l⟩
omit hg in
theorem still_ok {O : List Ent} {H : Tr Blk} {nx : Nat} (hk : HK B ro O H nx) {q : Bool} {i : I} {v : AV} {c : Option Prop} {e : List (Nat × Nat)} (hi : hop call (bif q then nx else ro) (getv tm) H nx i = some (v, H, nx)) {r : Rs} (hr : r = ⟨c, e, 0, fun _ => v, fun _ => O⟩) :
    ∃ bs : List Nat, bs.length = r.m ∧ ∃ H' nx', hop call (bif q then nx else ro) (getv tm) H nx i = some (r.v bs, H', nx') ∧ HK B ro (r.O bs) H' nx' := by
  subst hr
  exact ⟨[], rfl, _, _, hi, hk⟩

omit hg in
theorem srcE_ok {O : List Ent} {H : Tr Blk} {nx : Nat} (hk : HK B ro O H nx) {z : Nat} {ry : Rd} {v : AV} {es : List (Nat × Nat)} {k : Nat} {new : List AV} {cy : Prop} (h : srcE O z ry v = some (es, k, new, cy)) (he : ∀ e ∈ es, e.1 = e.2) (hc : cy) :
    srcLen v = some k ∧ src z H k v = some new ∧ k ≠ 0 := by
  unfold srcE at h
  split at h <;> try (cases h; done)
  rename_i b o k' cap z'
  cases hz : z'.beq z with
  | false => rw [hz] at h; cases h
  | true =>
    rw [hz] at h
    simp only [cond_true] at h
    split at h <;> try (cases h; done)
    rename_i b' l c hj
    simp only [Option.some.injEq, Prod.mk.injEq] at h
    obtain ⟨rfl, rfl, rfl, rfl⟩ := h
    obtain ⟨hc1, hc⟩ := also_ok hc
    have e : b = b' := he (b, b') (List.mem_singleton.2 rfl)
    subst e
    rw [beq_dec, decide_eq_true_eq] at hz
    subst hz
    obtain ⟨h0, h1⟩ := hc
    obtain ⟨h2, h3⟩ := (Src.sl (cap := cap) (rdE_ok hj hc1) h1).get hk h0
    exact ⟨h2, h3, h0⟩

theorem srH_ok {q : Bool} {O : List Ent} {h : Hn} {i : I} {r : Rs} (hr : srH B call g q O h i = some r) (hc : holdsO r.c) (he : ∀ e ∈ r.e, e.1 = e.2) {H : Tr Blk} {nx : Nat} (hk : HK B ro O H nx) :
    ∃ bs : List Nat, bs.length = r.m ∧ ∃ H' nx', hop call (bif q then nx else ro) (getv tm) H nx i = some (r.v bs, H', nx') ∧ HK B ro (r.O bs) H' nx' := by
  have ecall : ∀ {f : FuncId} {as : List AV} {I : List (Nat × HB)} {R : AV → List Ent → Prop}, SpecQ B call f as I R → Sub I O → ∃ v N H' nx', call f as H nx (bif q then nx else ro) = some (v, H', nx') ∧ HK B ro (N ++ O) H' nx' ∧ R v N :=
    fun hs hI => hs.use (q := q) hI hk
  cases i <;> simp only [srH] at hr <;> try (cases hr; done)
  case box x =>
    split at hr <;> try (cases hr; done)
    rename_i v hv
    exact new_ok hk (f := fun b => .ptr b 0) (fun rr => by simp only [hop, hg _ _ hv]) (Option.some.inj hr).symm
  case alloc z => exact new_ok hk (f := fun b => .ptr b 0) (fun rr => by simp only [hop]) (Option.some.inj hr).symm
  case bsl z n zs ps =>
    split at hr <;> try (cases hr; done)
    rename_i l hl
    split at hr <;> try (cases hr; done)
    rename_i m hm
    cases hz : !(z.beq 0 || !((n * z).ble 1000000)) && m.length.beq (n * z) with
    | false => rw [hz] at hr; cases hr
    | true =>
      rw [hz] at hr
      rw [Bool.and_eq_true] at hz
      refine new_ok hk (f := fun b => .sl b 0 n (some n) z) (fun rr => ?_) (Option.some.inj hr).symm
      have e1 : (z.beq 0 || !((n * z).ble 1000000)) = false := by
        have := hz.1
        cases h : (z.beq 0 || !((n * z).ble 1000000)) with
        | false => rfl
        | true => rw [h] at this; cases this
      have e2 := fillS_ok hg hl
      simp only [hop, e1, cond_false, e2, hm, hz.2, cond_true]
  case load agg n x =>
    split at hr <;> try (cases hr; done)
    rename_i b o hb
    split at hr <;> try (cases hr; done)
    · split at hr <;> try (cases hr; done)
      rename_i b' l c hj
      split at hr <;> try (cases hr; done)
      rename_i v hv
      have hr := (Option.some.inj hr).symm
      have e : b = b' := by subst hr; exact he (b, b') (List.mem_singleton.2 rfl)
      subst e
      exact still_ok hk (hop_load (hg _ _ hb) (hk.at (rdE_ok hj fun q hq => by subst hr; subst hq; exact hc)).2 hv) hr
    · rename_i rd v
      split at hr <;> try (cases hr; done)
      rename_i b' l c hj
      have hr := (Option.some.inj hr).symm
      have e : b = b' := by subst hr; exact he (b, b') (List.mem_singleton.2 rfl)
      subst e
      have hv : also c (ldv agg n o l = some v) := by subst hr; exact hc
      obtain ⟨hc1, hv⟩ := also_ok hv
      exact still_ok hk (hop_load (hg _ _ hb) (hk.at (rdE_ok hj hc1)).2 hv) hr
    · rename_i l v
      have hr := (Option.some.inj hr).symm
      have hv : Glob B b l ∧ ldv agg n o l = some v := by subst hr; exact hc
      exact still_ok hk (hop_load (hg _ _ hb) (hv.1.2.congr (hk.base b hv.1.1)) hv.2) hr
  case slA n z x lo hi mx =>
    match mx, hr with
    | some _, hr => cases hr
    | none, hr =>
      simp only at hr
      split at hr <;> try (cases hr; done)
      rename_i rd
      split at hr <;> try (cases hr; done)
      rename_i b o hx
      split at hr <;> try (cases hr; done)
      rename_i b' l c hj
      split at hr <;> try (cases hr; done)
      rename_i lo' hlo
      split at hr <;> try (cases hr; done)
      rename_i hi' hhi
      cases hz : !(z.beq 0) with
      | false => rw [hz] at hr; cases hr
      | true =>
        rw [hz] at hr
        have hr := (Option.some.inj hr).symm
        have e : b = b' := by subst hr; exact he (b, b') (List.mem_singleton.2 rfl)
        subst e
        have hh : also c (0 ≤ lo' ∧ lo' ≤ hi' ∧ hi' ≤ (n : Nat) ∧ o + n * z ≤ l.length) := by subst hr; exact hc
        obtain ⟨hc1, q0, q1, q2, q3⟩ := also_ok hh
        obtain ⟨tc, k1, k2⟩ := (hk.at (rdE_ok hj hc1)).2
        have := bi_ok hg (cap := n) hlo hhi q0 q1 q2
        have hz' : z.beq 0 = false := by cases h : z.beq 0 with | false => rfl | true => rw [h] at hz; cases hz
        have e : (z.beq 0 || !((o + n * z).ble l.length)) = false := by rw [hz', ble_dec]; simp [q3]
        exact still_ok hk (by simp only [hop, hg _ _ hx, k1, e, cond_false, Option.map_none, this]) hr
  case b2s x =>
    split at hr <;> try (cases hr; done)
    rename_i rd s
    split at hr <;> try (cases hr; done)
    rename_i b o len cap z hx
    split at hr <;> try (cases hr; done)
    rename_i b' l c hj
    cases hz : z.beq 1 with
    | false => rw [hz] at hr; cases hr
    | true =>
      rw [hz] at hr
      rw [beq_dec, decide_eq_true_eq] at hz
      subst hz
      have hr := (Option.some.inj hr).symm
      have e : b = b' := by subst hr; exact he (b, b') (List.mem_singleton.2 rfl)
      subst e
      have hh : also c (o + len ≤ l.length ∧ u8s ((l.drop o).take len) = some s) := by subst hr; exact hc
      obtain ⟨hc1, hl, hs⟩ := also_ok hh
      obtain ⟨tc, b3, b4⟩ := (hk.at (rdE_ok hj hc1)).2
      exact still_ok hk (by simp only [hop, hg _ _ hx, b3, Nat.beq_refl, ble_dec, hl, decide_true, Bool.and_true, cond_true, take_at (H := H) (b := 0) b4 _ _ hl, hs, forceNs_eq]) hr
  case store n x y =>
    cases q with
    | true => cases hr
    | false =>
      simp only [cond_false] at hr
      split at hr <;> try (cases hr; done)
      rename_i b o hb
      split at hr <;> try (cases hr; done)
      rename_i u hu
      cases hz : (acells u).length.beq n && (acells u).all aone with
      | false => rw [hz] at hr; cases hr
      | true =>
        rw [hz] at hr
        rw [Bool.and_eq_true, beq_dec, decide_eq_true_eq] at hz
        simp only [cond_true] at hr
        have key : ∀ {j : Nat} {l l' : List AV} {c : Option Prop}, atE O j = some ⟨b, true, .cells l⟩ → o + n ≤ l.length → splice l o (acells u) = l' → r = ⟨c, [(b, b)], 0, fun _ => .tup [], fun _ => setE O j l'⟩ →
            ∃ bs : List Nat, bs.length = r.m ∧ ∃ H' nx', hop call (bif false then nx else ro) (getv tm) H nx (.store n x y) = some (r.v bs, H', nx') ∧ HK B ro (r.O bs) H' nx' := by
          intro j l l' c hj hlt hs hr
          subst hr; subst hs
          have hu' := setE_upd (l := splice l o (acells u)) hj rfl
          obtain ⟨b1, b2, b3⟩ := hk.ent _ hu'.keep.2.1
          obtain ⟨H', e1, cc, e2, e3⟩ := hop_store (call := call) (nx := nx) (rr := bif false then nx else ro) (hg _ _ hb) (hg _ _ hu) b3 (b2 rfl) hz.1 hz.2 hlt
          refine ⟨[], rfl, H', nx, e1, ?_⟩
          rw [e2]
          exact hk.upd hu' _ (At_put e3 (by rw [hz.1]; exact hlt))
        split at hr <;> try (cases hr; done)
        · split at hr <;> try (cases hr; done)
          rename_i b' l hj
          cases hlt : (o + n).ble l.length with
          | false => rw [hlt] at hr; cases hr
          | true =>
            rw [hlt] at hr
            rw [ble_dec, decide_eq_true_eq] at hlt
            have hr := (Option.some.inj hr).symm
            have e : b = b' := by subst hr; exact he (b, b') (List.mem_singleton.2 rfl)
            subst e
            exact key hj hlt rfl hr
        · rename_i j l'
          split at hr <;> try (cases hr; done)
          rename_i b' l hj
          have hr := (Option.some.inj hr).symm
          have e : b = b' := by subst hr; exact he (b, b') (List.mem_singleton.2 rfl)
          subst e
          have hh : o + n ≤ l.length ∧ splice l o (acells u) = l' := by subst hr; exact hc
          exact key hj hh.1 hh.2 hr
  case mksl z bytes zs l c =>
    split at hr <;> try (cases hr; done)
    rename_i new
    split at hr <;> try (cases hr; done)
    rename_i k1 n hl
    split at hr <;> try (cases hr; done)
    rename_i k2 m hc'
    cases hz : bytes.ble 1000 && !(z.beq 0) && zs.length.beq z with
    | false => rw [hz] at hr; cases hr
    | true =>
      rw [hz] at hr
      have hr := (Option.some.inj hr).symm
      have hh : 0 ≤ n ∧ n ≤ m ∧ m ≤ 1000000 ∧ (List.replicate m.toNat zs).flatten = new := by subst hr; exact hc
      obtain ⟨h0, h1, h2, h3⟩ := hh
      subst h3
      refine new_ok hk (f := fun b => .sl b 0 n.toNat (some m.toNat) z) (fun rr => ?_) hr
      have hl' := hg _ _ hl
      have hc2 := hg _ _ hc'
      rw [asNat h0] at hl'
      rw [asNat (show 0 ≤ m by omega)] at hc2
      simp only [Bool.and_eq_true] at hz
      have e : (n.toNat.ble m.toNat && m.toNat.ble 1000000 && bytes.ble 1000 && !(z.beq 0) && zs.length.beq z) = true := by
        simp only [Bool.and_eq_true]
        exact ⟨⟨⟨⟨by rw [ble_dec]; simp; omega, by rw [ble_dec]; simp; omega⟩, hz.1.1⟩, hz.1.2⟩, hz.2⟩
      simp only [hop, hl', hc2, e, cond_true]
  case app z bytes x y =>
    split at hr <;> try (cases hr; done)
    rename_i mode rx ry l'
    split at hr <;> try (cases hr; done)
    rename_i v hv
    split at hr <;> try (cases hr; done)
    rename_i es k new cy hsrc
    cases hz : bytes.ble 1000 && !(z.beq 0) with
    | false => rw [hz] at hr; cases hr
    | true =>
      rw [hz] at hr
      rw [Bool.and_eq_true, ble_dec, decide_eq_true_eq] at hz
      have hz2 : z ≠ 0 := by
        have := hz.2
        rw [beq_dec] at this
        simpa using this
      simp only [cond_true] at hr
      have hsub : es ⊆ r.e → cy → srcLen (getv tm y) = some k ∧ src z H k (getv tm y) = some new ∧ k ≠ 0 := fun hs hcy => by
        rw [hg _ _ hv]
        exact srcE_ok hk hsrc (fun e h => he e (hs h)) hcy
      split at hr <;> try (cases hr; done)
      · rename_i hx
        have hr := (Option.some.inj hr).symm
        have hh : cy ∧ k ≤ 10000000 ∧ new.all aone = true ∧ new = l' := by subst hr; exact hc
        obtain ⟨q1, q2, q3, q4⟩ := hh
        subst q4
        obtain ⟨k1, k2, k3⟩ := hsub (by subst hr; exact fun _ h => h) q1
        refine new_ok hk (f := fun b => .sl b 0 k none z) (fun rr => ?_) hr
        rw [hop_app (k := k) (len := 0) k1 (by rw [hg _ _ hx]; rfl) k2 ⟨⟨by omega, hz.1⟩, hz2⟩ q3, hg _ _ hx]
        have : k.beq 0 = false := by rw [beq_dec]; simp [k3]
        simp only [appendTo, this, cond_false]
      · rename_i b o len z' hx
        cases hm : !q && z'.beq z && o.beq 0 && mode.beq 1 with
        | false => rw [hm] at hr; cases hr
        | true =>
          rw [hm] at hr
          simp only [Bool.and_eq_true, beq_dec, decide_eq_true_eq, Bool.not_eq_true'] at hm
          obtain ⟨⟨⟨hq, rfl⟩, rfl⟩, _⟩ := hm
          subst hq
          simp only [cond_true] at hr
          split at hr <;> try (cases hr; done)
          rename_i jx
          split at hr <;> try (cases hr; done)
          rename_i b' old hj
          have hr := (Option.some.inj hr).symm
          have e : b = b' := by subst hr; exact he (b, b') (List.mem_cons_self ..)
          subst e
          have hh : cy ∧ old.length = len * z' ∧ len + k ≤ 10000000 ∧ new.all aone = true ∧ old ++ new = l' := by subst hr; exact hc
          obtain ⟨q1, hold, q2, h5, q4⟩ := hh
          subst q4
          obtain ⟨k1, k2, h0⟩ := hsub (by subst hr; exact fun _ h => List.mem_cons_of_mem _ h) q1
          have hD := delE_del hj rfl
          obtain ⟨b1, b2, b3⟩ := hk.ent _ hD.keep.2
          have b2 := b2 rfl
          obtain ⟨c, b3, b4⟩ := b3
          simp only at b1 b2 b3 b4
          have e0 : k.beq 0 = false := by rw [beq_dec]; simp [h0]
          have hzz : 0 < k * z' := Nat.mul_pos (by omega) (by omega)
          have e1 : (0 + (len + k) * z').ble old.length = false := by rw [ble_dec, hold, Nat.add_mul]; simp; omega
          have e2 : src z' H len (.sl b 0 len none z') = some old := by
            have : 0 + len * z' ≤ old.length := by omega
            simp only [src, Nat.beq_refl, ble_dec, Nat.le_refl, decide_true, Bool.and_true, cond_true, b3, this, take_at (H := H) (b := 0) b4 _ _ this]
            rw [List.drop_zero, ← hold, List.take_length]
          subst hr
          refine ⟨[nx], rfl, _, _, ?_, (hk.del hD).cells (old ++ new)⟩
          rw [hop_app (k := k) (len := len) k1 (by rw [hg _ _ hx]; rfl) k2 ⟨⟨by omega, hz.1⟩, hz2⟩ h5, hg _ _ hx]
          simp only [appendTo, Nat.beq_refl, Bool.not_true, cond_false, e0, b3, e1, e2, ble_dec, b2, decide_true, cond_true, Tr.delK_eq, newCells_eq]
          rfl
      · rename_i b o len cp z' hx
        cases hm : z'.beq z with
        | false => rw [hm] at hr; cases hr
        | true =>
          rw [hm] at hr
          rw [beq_dec, decide_eq_true_eq] at hm
          subst hm
          simp only [cond_true] at hr
          cases hmode : mode.beq 2 with
          | true =>
            rw [hmode] at hr
            simp only [cond_true] at hr
            split at hr <;> try (cases hr; done)
            rename_i b' old c hj
            have hr := (Option.some.inj hr).symm
            have e : b = b' := by subst hr; exact he (b, b') (List.mem_cons_self ..)
            subst e
            have hh : also c (cy ∧ o + len * z' ≤ old.length ∧ cp < len + k ∧ len + k ≤ 10000000 ∧ new.all aone = true ∧ (old.drop o).take (len * z') ++ new = l') := by subst hr; exact hc
            obtain ⟨hc1, hh⟩ := also_ok hh
            obtain ⟨q1, hold, hcp, q2, h5, q4⟩ := hh
            subst q4
            obtain ⟨k1, k2, h0⟩ := hsub (by subst hr; exact fun _ h => List.mem_cons_of_mem _ h) q1
            refine new_ok hk (f := fun b => .sl b 0 (len + k) none z') (fun rr => ?_) hr
            obtain ⟨c, b3, b4⟩ := (hk.at (rdE_ok hj hc1)).2
            have e0 : k.beq 0 = false := by rw [beq_dec]; simp [h0]
            have e1 : (len + k).ble cp = false := by rw [ble_dec]; simp; omega
            have e2 : src z' H len (.sl b o len (some cp) z') = some ((old.drop o).take (len * z')) := by
              simp only [src, Nat.beq_refl, ble_dec, Nat.le_refl, decide_true, Bool.and_true, cond_true, b3, hold, take_at (H := H) (b := 0) b4 _ _ hold]
            rw [hop_app (k := k) (len := len) k1 (by rw [hg _ _ hx]; rfl) k2 ⟨⟨by omega, hz.1⟩, hz2⟩ h5, hg _ _ hx]
            simp only [appendTo, Nat.beq_refl, Bool.not_true, cond_false, e0, b3, e1, e2]
          | false =>
            rw [hmode] at hr
            simp only [cond_false] at hr
            split at hr <;> try (cases hr; done)
            rename_i jx
            split at hr <;> try (cases hr; done)
            rename_i b' w old hj
            cases hw : !q && w with
            | false => rw [hw] at hr; cases hr
            | true =>
              rw [hw] at hr
              simp only [Bool.and_eq_true, Bool.not_eq_true'] at hw
              obtain ⟨rfl, rfl⟩ := hw
              have hr := (Option.some.inj hr).symm
              have e : b = b' := by subst hr; exact he (b, b') (List.mem_cons_self ..)
              subst e
              have hh : cy ∧ new.length = k * z' ∧ len + k ≤ cp ∧ o + (len + k) * z' ≤ old.length ∧ len + k ≤ 10000000 ∧ new.all aone = true ∧ splice old (o + len * z') new = l' := by subst hr; exact hc
              obtain ⟨q1, hnew, hcp, hl, q2, h5, q4⟩ := hh
              subst q4
              obtain ⟨k1, k2, h0⟩ := hsub (by subst hr; exact fun _ h => List.mem_cons_of_mem _ h) q1
              have hu := setE_upd (l := splice old (o + len * z') new) hj rfl
              obtain ⟨b1, b2, b3⟩ := hk.ent _ hu.keep.2.1
              have b2 := b2 rfl
              obtain ⟨c, b3, b4⟩ := b3
              simp only at b1 b2 b3 b4
              have e0 : k.beq 0 = false := by rw [beq_dec]; simp [h0]
              subst hr
              refine ⟨[], rfl, _, _, ?_, hk.upd hu _ (At_put b4 (by rw [hnew, Nat.add_mul] at *; omega))⟩
              rw [hop_app (k := k) (len := len) k1 (by rw [hg _ _ hx]; rfl) k2 ⟨⟨by omega, hz.1⟩, hz2⟩ h5, hg _ _ hx]
              simp only [appendTo, Nat.beq_refl, Bool.not_true, cond_false, e0, b3, ble_dec, hcp, hl, b2, decide_true, Bool.and_true, cond_true, putK_eq, setB_eq]
  case call f xs =>
    split at hr <;> try (cases hr; done)
    rename_i as has
    have hx := gvsS_ok hg has
    split at hr <;> try (cases hr; done)
    · rename_i v0
      have hr := (Option.some.inj hr).symm
      have hs : SpecQ B call f as [] fun u N => u = v0 ∧ N = [] := by subst hr; exact hc
      obtain ⟨v, N, H', nx', h1, h2, rfl, rfl⟩ := ecall hs Sub.nil
      subst hr
      exact ⟨[], rfl, H', nx', by simp only [hop, forceL_eq, hx, h1], h2⟩
    · rename_i m rs V N
      split at hr <;> try (cases hr; done)
      rename_i I P hI
      have hr := (Option.some.inj hr).symm
      have hs : SpecQ B call f as I (RB m V N) ∧ P := by subst hr; exact hc
      obtain ⟨v, N', H', nx', h1, h2, bs, e1, rfl, rfl⟩ := ecall hs.1 (rdI_ok hI hs.2)
      subst hr
      exact ⟨bs, e1, H', nx', by simp only [hop, forceL_eq, hx, h1], h2⟩
  case calld x xs =>
    split at hr <;> try (cases hr; done)
    rename_i f a b hx'
    split at hr <;> try (cases hr; done)
    rename_i as has
    have hx := gvsS_ok hg has
    split at hr <;> try (cases hr; done)
    · rename_i v0
      have hr := (Option.some.inj hr).symm
      have hs : SpecQ B call f (a ++ as ++ b) [] fun u N => u = v0 ∧ N = [] := by subst hr; exact hc
      obtain ⟨v, N, H', nx', h1, h2, rfl, rfl⟩ := ecall hs Sub.nil
      subst hr
      exact ⟨[], rfl, H', nx', by simp only [hop, forceL_eq, hg _ _ hx', hx, h1], h2⟩
    · rename_i m rs V N
      split at hr <;> try (cases hr; done)
      rename_i I P hI
      have hr := (Option.some.inj hr).symm
      have hs : SpecQ B call f (a ++ as ++ b) I (RB m V N) ∧ P := by subst hr; exact hc
      obtain ⟨v, N', H', nx', h1, h2, bs, e1, rfl, rfl⟩ := ecall hs.1 (rdI_ok hI hs.2)
      subst hr
      exact ⟨bs, e1, H', nx', by simp only [hop, forceL_eq, hg _ _ hx', hx, h1], h2⟩
  case xrow n xs =>
    split at hr <;> try (cases hr; done)
    rename_i v
    split at hr <;> try (cases hr; done)
    rename_i as has
    have hr := (Option.some.inj hr).symm
    have hs : xrow n as = some v := by subst hr; exact hc
    exact still_ok hk (by simp only [hop, gvsS_ok hg has, hs]) hr
end

theorem allK_ok {g : Opd → Option AV} : ∀ {l : List Opd}, allK g l = true → ∀ x ∈ l, ∃ v, g x = some v
  | [], _, x, h => by cases h
  | y :: l, hl, x, h => by
    simp only [allK] at hl
    split at hl
    · rename_i v hv
      rcases List.mem_cons.1 h with rfl | h
      · exact ⟨v, hv⟩
      · exact allK_ok hl x h
    · cases hl
theorem side_ok {t : SF} {tm : Tr AV} (ht : SA t tm) {cur : Tg} (hc : gb tm cur = true) {cn : Nat} {w : Bool} (hw : gb tm (some (cn, w)) = true) {x : Opd} {v : AV} (h : side t cur cn w x = some v) : getv tm x = v := by
  cases x with
  | c u => exact Option.some.inj h
  | t n =>
    simp only [side] at h
    split at h <;> try (cases h; done)
    rename_i g u hl
    have := ht n g u hl
    cases hb : tgB g cur || tgB g (some (cn, w)) with
    | false => rw [hb] at h; cases h
    | true =>
      rw [hb] at h
      obtain rfl := Option.some.inj h
      rw [Bool.or_eq_true] at hb
      have : gb tm g = true := by
        rcases hb with hb | hb
        · rcases tgB_ok hb with rfl | rfl
          · rfl
          · exact hc
        · rcases tgB_ok hb with rfl | rfl
          · rfl
          · exact hw
      rw [ht n g _ hl, this]; rfl
theorem mix_ok {p : Bool} {a b v : AV} (h : mix p a b = some v) : v = bif p then a else b := by
  unfold mix at h
  split at h <;> try (cases h; done)
  · split at h <;> try (cases h; done)
    cases h; cases p <;> rfl
  · split at h <;> try (cases h; done)
    rename_i k x _ k' y
    cases hk : keq k k' with
    | false => rw [hk] at h; cases h
    | true =>
      rw [hk] at h
      obtain rfl := keq_iff.1 hk
      cases h; cases p <;> rfl
  · split at h <;> try (cases h; done)
    cases h; cases p <;> rfl
theorem pkS_ok {t : SF} {tm : Tr AV} (ht : SA t tm) {cur : Tg} (hc : gb tm cur = true) {i : I} {v : AV} (h : pkS t cur i = some v) : pop (getv tm) i = some v := by
  unfold pkS at h
  split at h <;> try (cases h; done)
  rename_i cn a b
  split at h <;> try (cases h; done)
  rename_i gc p hl
  cases hb : tgB gc cur with
  | false => rw [hb] at h; cases h
  | true =>
    rw [hb] at h
    simp only [cond_true] at h
    have h1 := gS_ok ht hc (x := .t cn) (v := .bool p) (by simp only [gS, hl, hb, cond_true])
    split at h <;> try (cases h; done)
    rename_i va ha
    split at h <;> try (cases h; done)
    rename_i vb hb2
    have hv : v = bif p then va else vb := by
      unfold pickK at h
      split at h
      · split at h <;> try (cases h; done)
        cases h
        cases hb2
        cases p
        · rfl
        · simp
      · split at h
        · split at h <;> try (cases h; done)
          cases h
          cases ha
          cases p
          · simp
          · rfl
        · exact mix_ok h
    have g1 : ∀ w, gb tm (some (cn, w)) = (p == w) := fun w => by simp only [gb, h1]
    simp only [pop, h1]
    cases p with
    | true =>
      subst hv
      simp only [cond_true]
      rw [side_ok ht hc (by rw [g1]; rfl) ha]
    | false =>
      subst hv
      simp only [cond_false]
      rw [side_ok ht hc (by rw [g1]; rfl) hb2]

/-- One operation without its guard. -/
theorem srJ_ok {t : SF} {tm : Tr AV} (ht : SA t tm) {cur : Tg} (hcur : gb tm cur = true) {o : COp} {O : List Ent} {h : Hn} {r : Rs} (hr : srJ B call t cur o.q O h o.ex o.j = some r) (hc : holdsO r.c) (he : ∀ e ∈ r.e, e.1 = e.2) {H : Tr Blk} {nx : Nat} (hk : HK B ro O H nx) :
    ∃ bs : List Nat, bs.length = r.m ∧ ∃ H' nx', runJ call ro o tm H nx = some (r.v bs, H', nx') ∧ HK B ro (r.O bs) H' nx' := by
  have hg : ∀ x v, gS t cur x = some v → getv tm x = v := fun x v h => gS_ok ht hcur h
  unfold srJ at hr
  unfold runJ
  split at hr
  · rename_i i hi
    rw [hi]
    have key : ∀ {c : Option Prop} {v : AV}, pop (getv tm) i = some v → r = pureR O c v → ∃ bs : List Nat, bs.length = r.m ∧ ∃ H' nx', (match pop (getv tm) i with | some v => some (v, H, nx) | none => none) = some (r.v bs, H', nx') ∧ HK B ro (r.O bs) H' nx' := by
      intro c v hv hr
      subst hr
      exact ⟨[], rfl, H, nx, by rw [hv]; rfl, hk⟩
    split at hr
    · split at hr <;> try (cases hr; done)
      rename_i v hv
      exact key (pkS_ok ht hcur hv) (Option.some.inj hr).symm
    · rename_i v
      cases ha : allK (gS t cur) i.opds with
      | false => rw [ha] at hr; cases hr
      | true =>
        rw [ha] at hr
        have hr := (Option.some.inj hr).symm
        refine key ?_ hr
        have hs : popS (fun x => (gS t cur x).getD (.tup [])) i = some v := by subst hr; exact hc
        rw [← popS_ok hs]
        refine (pop_congr i fun x hx => ?_).symm
        obtain ⟨u, hu⟩ := allK_ok ha x hx
        rw [hu, hg _ _ hu]; rfl
    · split at hr <;> try (cases hr; done)
      rename_i c v hv
      have hr := (Option.some.inj hr).symm
      exact key (srP_ok hg hv (by subst hr; exact hc)) hr
  · rename_i i hi
    rw [hi]
    split at hr <;> try (cases hr; done)
    rename_i hex
    rw [hex]
    exact srH_ok hg hr hc he hk
theorem srJ_still {t : SF} {cur : Tg} {q : Bool} {O : List Ent} {h : Hn} {ex : List Opd} {j : J} {r : Rs} (hr : srJ B call t cur q O h ex j = some r) (hs : still j h = true) : r.m = 0 ∧ r.O [] = O := by
  unfold srJ at hr
  split at hr
  · split at hr
    · split at hr <;> cases hr; exact ⟨rfl, rfl⟩
    · rename_i i _ v
      cases ha : allK (gS t cur) i.opds <;> rw [ha] at hr <;> cases hr
      exact ⟨rfl, rfl⟩
    · split at hr <;> cases hr; exact ⟨rfl, rfl⟩
  · split at hr <;> try (cases hr; done)
    rename_i i _
    cases i <;> try (cases hs; done)
    case load =>
      simp only [srH] at hr
      split at hr <;> try (cases hr; done)
      split at hr <;> try (cases hr; done)
      · split at hr <;> try (cases hr; done)
        split at hr <;> cases hr; exact ⟨rfl, rfl⟩
      · split at hr <;> cases hr; exact ⟨rfl, rfl⟩
      · cases hr; exact ⟨rfl, rfl⟩
    case call =>
      cases h <;> try (cases hs; done)
      simp only [srH] at hr
      split at hr <;> cases hr; exact ⟨rfl, rfl⟩
    case calld =>
      cases h <;> try (cases hs; done)
      simp only [srH] at hr
      split at hr <;> try (cases hr; done)
      split at hr <;> cases hr; exact ⟨rfl, rfl⟩
    case xrow =>
      simp only [srH] at hr
      split at hr <;> try (cases hr; done)
      split at hr <;> cases hr; exact ⟨rfl, rfl⟩

theorem SA.put {t : SF} {tm : Tr AV} (h : SA t tm) (d : Option Nat) (v : AV) : SA (putF d none v t) (setO d v tm) := by
  cases d with
  | none => exact h
  | some d => exact h.set d none v v (fun _ h => by cases h) rfl

theorem srO_ok {o : COp} {h : Hn} {t : SF} {O : List Ent} {c : Option Prop} {es : List (Nat × Nat)} {m : Nat} {T : List Nat → SF} {OO : List Nat → List Ent} (hr : srO B call o h t O = some (c, es, m, T, OO)) (hc : holdsO c) (he : ∀ e ∈ es, e.1 = e.2)
    {tm : Tr AV} (ht : SA t tm) {H : Tr Blk} {nx : Nat} (hk : HK B ro O H nx) :
    ∃ bs : List Nat, bs.length = m ∧ ∃ v H' nx', runV call ro o tm H nx = some (v, H', nx') ∧ SA (T bs) (setO o.dst v tm) ∧ HK B ro (OO bs) H' nx' := by
  have plain : ∀ {r : Rs}, srJ B call t none o.q O h o.ex o.j = some r → holdsO r.c → (∀ e ∈ r.e, e.1 = e.2) → ∃ bs : List Nat, bs.length = r.m ∧ ∃ v H' nx', runJ call ro o tm H nx = some (v, H', nx') ∧ SA (putF o.dst none (r.v bs) t) (setO o.dst v tm) ∧ HK B ro (r.O bs) H' nx' := by
    intro r h1 h2 h3
    obtain ⟨bs, e1, H', nx', e2, e3⟩ := srJ_ok (call := call) ht (cur := none) rfl h1 h2 h3 hk
    exact ⟨bs, e1, _, H', nx', e2, ht.put _ _, e3⟩
  have skip : ∃ bs : List Nat, bs.length = 0 ∧ ∃ v H' nx', (some (AV.tup [], H, nx) : Out) = some (v, H', nx') ∧ SA (putF o.dst none (.tup []) t) (setO o.dst v tm) ∧ HK B ro O H' nx' :=
    ⟨[], rfl, _, H, nx, rfl, ht.put _ _, hk⟩
  unfold srO at hr
  unfold runV
  split at hr
  · rename_i hgd
    rw [hgd]
    split at hr <;> try (cases hr; done)
    rename_i r hr1
    simp only [Option.some.injEq, Prod.mk.injEq] at hr
    obtain ⟨rfl, rfl, rfl, rfl, rfl⟩ := hr
    exact plain hr1 hc he
  · rename_i tg w hgd
    rw [hgd]
    split at hr
    · rename_i h'
      split at hr <;> try (cases hr; done)
      rename_i d hd
      cases hz : Nat.beq tg d || !still o.j h' with
      | true => rw [hz] at hr; cases hr
      | false =>
        rw [hz] at hr
        simp only [cond_false] at hr
        rw [Bool.or_eq_false_iff, beq_dec, decide_eq_false_iff_not, Bool.not_eq_false'] at hz
        split at hr <;> try (cases hr; done)
        rename_i p hp
        split at hr <;> try (cases hr; done)
        rename_i r hr1
        simp only [Option.some.injEq, Prod.mk.injEq] at hr
        obtain ⟨rfl, rfl, rfl, rfl, rfl⟩ := hr
        have hgp := gx_ok ht hp
        obtain ⟨m0, O0⟩ := srJ_still hr1 hz.2
        cases p with
        | true =>
          have hc' : holdsO r.c := by
            cases hrc : r.c with
            | none => trivial
            | some c => rw [hrc] at hc; exact hc rfl
          obtain ⟨bs, e1, H', nx', e2, e3⟩ := srJ_ok (call := call) ht hgp hr1 hc' he hk
          rw [m0, List.length_eq_zero_iff] at e1
          subst e1
          rw [O0] at e3
          refine ⟨[], rfl, r.v [], H', nx', ?_, ?_, e3⟩
          · simp only [gb] at hgp
            split at hgp
            · rename_i b hb
              simp only [hb, hgp, cond_true]
              exact e2
            · cases hgp
          · rw [hd]
            exact ht.set d (some (tg, w)) (r.v []) (r.v []) (fun x hx => by cases hx; exact hz.1) (by rw [hgp]; rfl)
        | false =>
          refine ⟨[], rfl, .tup [], H, nx, ?_, ?_, hk⟩
          · simp only [gb] at hgp
            split at hgp
            · rename_i b hb
              simp only [hb, hgp, cond_false]
            · rename_i hb
              dsimp only
              split
              · rename_i b hb2
                exact absurd hb2 (hb b)
              · rfl
          · rw [hd]
            exact ht.set d (some (tg, w)) (r.v []) (.tup []) (fun x hx => by cases hx; exact hz.1) (by rw [hgp]; rfl)
    · split at hr <;> try (cases hr; done)
      · rename_i hl
        have hv := ht _ _ _ hl
        simp only [gb, cond_true] at hv
        simp only [hv]
        cases w with
        | true =>
          simp only [cond_true] at hr
          split at hr <;> try (cases hr; done)
          rename_i r hr1
          simp only [Option.some.injEq, Prod.mk.injEq] at hr
          obtain ⟨rfl, rfl, rfl, rfl, rfl⟩ := hr
          exact plain hr1 hc he
        | false =>
          simp only [cond_false, Option.some.injEq, Prod.mk.injEq] at hr
          obtain ⟨rfl, rfl, rfl, rfl, rfl⟩ := hr
          exact skip
      · rename_i hl
        have hv := ht _ _ _ hl
        simp only [gb, cond_true] at hv
        simp only [hv]
        cases w with
        | false =>
          simp only [cond_false] at hr
          split at hr <;> try (cases hr; done)
          rename_i r hr1
          simp only [Option.some.injEq, Prod.mk.injEq] at hr
          obtain ⟨rfl, rfl, rfl, rfl, rfl⟩ := hr
          exact plain hr1 hc he
        | true =>
          simp only [cond_true, Option.some.injEq, Prod.mk.injEq] at hr
          obtain ⟨rfl, rfl, rfl, rfl, rfl⟩ := hr
          exact skip
      · rename_i hl
        have hv := ht _ _ _ hl
        simp only [gb, cond_true] at hv
        simp only [hv]
        simp only [Option.some.injEq, Prod.mk.injEq] at hr
        obtain ⟨rfl, rfl, rfl, rfl, rfl⟩ := hr
        exact skip

theorem nuL_agree {ν ν' : Nat → Nat} : ∀ {m i : Nat}, (∀ k, k < i + m → ν' k = ν k) → nuL ν' i m = nuL ν i m
  | 0, _, _ => rfl
  | m + 1, i, h => by
    simp only [nuL, h i (by omega)]
    rw [nuL_agree fun k hk => h k (by omega)]
theorem nuL_of {ν : Nat → Nat} : ∀ {bs : List Nat} {i : Nat}, (∀ k, k < bs.length → ν (i + k) = bs[k]?.getD 0) → nuL ν i bs.length = bs
  | [], _, _ => rfl
  | b :: bs, i, h => by
    have h0 : ν i = b := by simpa using h 0 (by simp)
    have h1 := nuL_of (ν := ν) (bs := bs) (i := i + 1) fun k hk => by
      have := h (k + 1) (by simpa using hk)
      rw [show i + (k + 1) = i + 1 + k by omega] at this
      simpa using this
    simp only [List.length_cons, nuL, h0, h1]
theorem holds_and {c : Option Prop} {P : Prop} (h : andO c P) : holdsO c ∧ P := by
  cases c with
  | none => exact ⟨trivial, h⟩
  | some c => exact h

theorem sr_ok (R : (Nat → Nat) → SF → List Ent → Prop) : ∀ (ops : List COp) (hs : List Hn) (i : Nat) (t : SF) (O : List Ent) (ν : Nat → Nat) (tm : Tr AV) (H : Tr Blk) (nx : Nat), SA t tm → HK B ro O H nx →
    (∀ ν', (∀ k, k < i → ν' k = ν k) → ∃ P L t' O', sr B call ν' ops hs i t O = some (P, L, L, t', O') ∧ P ∧ R ν' t' O') →
    ∃ tm' H' nx' ν' t' O', runOps call ro ops (tm, H, nx) = some (tm', H', nx') ∧ SA t' tm' ∧ HK B ro O' H' nx' ∧ R ν' t' O'
  | [], hs, i, t, O, ν, tm, H, nx, ht, hk, h => by
    obtain ⟨P, L, t', O', h1, h2, h3⟩ := h ν fun _ _ => rfl
    simp only [sr, Option.some.injEq, Prod.mk.injEq] at h1
    obtain ⟨_, _, _, rfl, rfl⟩ := h1
    exact ⟨tm, H, nx, ν, t, O, rfl, ht, hk, h3⟩
  | o :: r, hs, i, t, O, ν, tm, H, nx, ht, hk, h => by
    have h0 := h ν fun _ _ => rfl
    cases hso : srO B call o (hdH hs) t O with
    | none =>
      obtain ⟨P, L, t', O', h1, _⟩ := h0
      simp only [sr, hso] at h1
      cases h1
    | some x =>
      obtain ⟨c, es, m, T, OO⟩ := x
      have step : ∀ ν', (∀ k, k < i → ν' k = ν k) → holdsO c ∧ (∀ e ∈ es, e.1 = e.2) ∧ ∃ P L t' O', sr B call ν' r hs.tail (i + m) (T (nuL ν' i m)) (OO (nuL ν' i m)) = some (P, L, L, t', O') ∧ P ∧ R ν' t' O' := by
        intro ν' hν
        obtain ⟨P, L, t', O', h1, h2, h3⟩ := h ν' hν
        simp only [sr, hso] at h1
        split at h1 <;> try (cases h1; done)
        rename_i P1 L1 L2 t1 O1 hs1
        simp only [Option.some.injEq, Prod.mk.injEq] at h1
        obtain ⟨rfl, e1, e2, rfl, rfl⟩ := h1
        obtain ⟨c1, c2⟩ := holds_and h2
        have e3 := e1.trans e2.symm
        obtain ⟨q1, q2⟩ := List.append_inj e3 (by simp)
        refine ⟨c1, fun e he => ?_, P1, L1, t1, O1, by rw [hs1, q2], c2, h3⟩
        obtain ⟨k, hk, rfl⟩ := List.mem_iff_getElem.1 he
        have := congrArg (fun l => l[k]?) q1
        simpa [hk] using this
      obtain ⟨c1, c2, _⟩ := step ν fun _ _ => rfl
      obtain ⟨bs, hl, v, H1, nx1, r1, r2, r3⟩ := srO_ok (ro := ro) hso c1 c2 ht hk
      let ν1 : Nat → Nat := fun k => if k < i then ν k else bs[k - i]?.getD 0
      have hν1 : ∀ k, k < i → ν1 k = ν k := fun k hk => if_pos hk
      have hnu : nuL ν1 i m = bs := by
        rw [← hl]
        refine nuL_of fun k _ => ?_
        show (if i + k < i then _ else _) = _
        rw [if_neg (by omega), show i + k - i = k by omega]
      rw [← hnu] at r2 r3
      obtain ⟨tm', H', nx', ν', t', O', g1, g2⟩ := sr_ok R r hs.tail (i + m) _ _ ν1 _ H1 nx1 r2 r3 fun ν' hν' => by
        obtain ⟨_, _, P, L, t', O', q1, q2⟩ := step ν' fun k hk => by rw [hν' k (by omega), hν1 k hk]
        rw [nuL_agree hν'] at q1
        exact ⟨P, L, t', O', q1, q2⟩
      refine ⟨tm', H', nx', ν', t', O', ?_, g2⟩
      simp only [runOps, r1]
      rw [← g1]
      cases o.dst with
      | none => rfl
      | some d => simp only [forceA_eq, Tr.setK_eq]; rfl

/-- Straight-line code by computation. -/
theorem WO_sr {ops : List COp} {t : Fr} {O : List Ent} {K : Fr → List Ent → Prop} (live dl : List Nat) (hs : List Hn) {P : (Nat → Nat) → Prop} {L : (Nat → Nat) → List Nat} {t' : (Nat → Nat) → Fr} {O' : (Nat → Nat) → List Ent}
    (h : ∀ ν, srL B call ν live dl ops hs t O = some (P ν, L ν, L ν, t' ν, O' ν)) (hp : ∀ ν, P ν) (hK : ∀ ν, K (t' ν) (O' ν)) : WO B call ro ops t O K := by
  intro tm H nx ht hk
  obtain ⟨tm', H', nx', ν', t1, O1, r1, r2, r3, r4, r5⟩ := sr_ok (B := B) (call := call) (ro := ro) (fun ν t1 O1 => outS t1 live = some (t' ν) ∧ dropE dl O1 = O' ν) ops hs 0 (sf0 t) O (fun _ => 0) tm H nx (SA_sf0 ht) hk fun ν' _ => by
    have e := h ν'
    unfold srL at e
    split at e <;> try (cases e; done)
    rename_i P1 L1 L2 t2 O2 hs2
    split at e <;> try (cases e; done)
    rename_i f hf
    simp only [Option.some.injEq, Prod.mk.injEq] at e
    obtain ⟨e1, e2, e3, e4, e5⟩ := e
    exact ⟨_, L ν', t2, O2, by rw [hs2, e2, e3], by rw [e1]; exact hp ν', by rw [hf, e4], e5⟩
  exact ⟨tm', H', nx', t' ν', O' ν', r1, outS_ok r2 r4, r3.sub (by rw [← r5]; exact dropE_sub _ _), hK ν'⟩

theorem WO_app2 {a b : List COp} {t : Fr} {O : List Ent} {K : Fr → List Ent → Prop} (h : WO B call ro a t O fun t O => WO B call ro b t O K) : WO B call ro (a ++ b) t O K := by
  intro tm H nx ht hk
  obtain ⟨tm1, H1, nx1, t1, O1, h1, h2, h3, h4⟩ := h tm H nx ht hk
  obtain ⟨tm2, H2, nx2, t2, O2, h5, h6⟩ := h4 tm1 H1 nx1 h2 h3
  refine ⟨tm2, H2, nx2, t2, O2, ?_, h6⟩
  have : ∀ (a : List COp) (s s' : St), runOps call ro a s = some s' → runOps call ro (a ++ b) s = runOps call ro b s' := by
    intro a
    induction a with
    | nil => intro s s' h; simp only [runOps, Option.some.injEq] at h; subst h; rfl
    | cons o r ih =>
      intro s s' h
      obtain ⟨tm, H, nx⟩ := s
      simp only [List.cons_append, runOps] at h ⊢
      split at h <;> try (cases h; done)
      split at h
      · exact ih _ _ h
      · simp only [forceA_eq, Tr.setK_eq] at h ⊢
        exact ih _ _ h
  rw [this a _ _ h1, h5]

section
variable {ops : List COp} {r : CC} {t : Fr} {O : List Ent} {Q : Ex → Fr → List Ent → Prop} {P : (Nat → Nat) → Prop} {L : (Nat → Nat) → List Nat} {t' : (Nat → Nat) → Fr} {O' : (Nat → Nat) → List Ent}
/-- A whole region, and what follows. -/
theorem X_reg (live dl : List Nat) (hs : List Hn) (P : (Nat → Nat) → Prop) (L : (Nat → Nat) → List Nat) (t' : (Nat → Nat) → Fr) (O' : (Nat → Nat) → List Ent)
    (h : ∀ ν, srL B call ν live dl ops hs t O = some (P ν, L ν, L ν, t' ν, O' ν)) (hp : ∀ ν, P ν) (hK : ∀ ν, W B call ro r (t' ν) (O' ν) Q) : W B call ro (.seq (.region ops) r) t O Q :=
  C_reg (WO_sr live dl hs h hp hK)
/-- A whole region at the end. -/
theorem X_end (live dl : List Nat) (hs : List Hn) (P : (Nat → Nat) → Prop) (L : (Nat → Nat) → List Nat) (t' : (Nat → Nat) → Fr) (O' : (Nat → Nat) → List Ent)
    (h : ∀ ν, srL B call ν live dl ops hs t O = some (P ν, L ν, L ν, t' ν, O' ν)) (hp : ∀ ν, P ν) (hK : ∀ ν, Q .normal (t' ν) (O' ν)) : W B call ro (.region ops) t O Q :=
  W_region (WO_sr live dl hs h hp hK)
/-- The first operations of a region. -/
theorem X_some (n : Nat) (live dl : List Nat) (hs : List Hn) (P : (Nat → Nat) → Prop) (L : (Nat → Nat) → List Nat) (t' : (Nat → Nat) → Fr) (O' : (Nat → Nat) → List Ent)
    (h : ∀ ν, srL B call ν live dl (ops.take n) hs t O = some (P ν, L ν, L ν, t' ν, O' ν)) (hp : ∀ ν, P ν) {K : Fr → List Ent → Prop} (hK : ∀ ν, WO B call ro (ops.drop n) (t' ν) (O' ν) K) : WO B call ro ops t O K := by
  rw [← List.take_append_drop n ops]
  exact WO_app2 (WO_sr live dl hs h hp hK)
end
end W
end Go.Vm

namespace Go.Vm
namespace W
variable {B : Base} {call : FuncId → List AV → Tr Blk → Nat → Nat → Out} {ro : Nat} {t : Fr} {O : List Ent} {Q : Ex → Fr → List Ent → Prop} {K : Fr → List Ent → Prop}
theorem again_of {σ : Type} {T : σ → Fr} {G : σ → List Ent} {I : σ → Prop} {m : σ → Nat} {n : Nat} (s : σ) (h1 : weakF (T s) t) (h2 : (G s).Sublist O) (h3 : I s) (h4 : m s < n) : again T G I m n Q .normal t O := ⟨s, h1, h2, h3, h4⟩
theorem blockC_ret {i : Nat} (h : Q .ret t O) : blockC i Q .ret t O := h
theorem thenC_ret {c : CC} (h : Q .ret t O) : thenC B call ro c Q .ret t O := h
theorem again_ret {σ : Type} {T : σ → Fr} {G : σ → List Ent} {I : σ → Prop} {m : σ → Nat} {n : Nat} (h : Q .ret t O) : again T G I m n Q .ret t O := h
theorem xp_t {p : Bool} (h : p = true) : some (AV.bool p) = some (AV.bool true) := by rw [h]
theorem xp_f {p : Bool} (h : p = false) : some (AV.bool p) = some (AV.bool false) := by rw [h]
theorem X_all {ops : List COp} (live dl : List Nat) (hs : List Hn) (P : (Nat → Nat) → Prop) (L : (Nat → Nat) → List Nat) (t' : (Nat → Nat) → Fr) (O' : (Nat → Nat) → List Ent)
    (h : ∀ ν, srL B call ν live dl ops hs t O = some (P ν, L ν, L ν, t' ν, O' ν)) (hp : ∀ ν, P ν) (hK : ∀ ν, K (t' ν) (O' ν)) : WO B call ro ops t O K := WO_sr live dl hs h hp hK
theorem flat1 {n : Nat} {v : AV} : (List.replicate n [v]).flatten = List.replicate n v := by
  induction n with
  | zero => rfl
  | succ n ih => rw [List.replicate_succ, List.flatten_cons, ih]; rfl

/-! Cells of lists -/
theorem ldv1 {o : Nat} {l : List AV} {v : AV} (h : l[o]? = some v) : ldv false 1 o l = some v := ldv_one h
theorem ldI {k : IntKind} {L : List Int} {o : Nat} {m : Int} (h : o = m.toNat) (h0 : 0 ≤ m) (h1 : m < L.length) : ldv false 1 o (L.map (AV.int k)) = some (.int k (L.getD m.toNat 0)) := by
  subst h
  refine ldv1 ?_
  have : m.toNat < L.length := by omega
  rw [List.getElem?_map, List.getElem?_eq_getElem this, List.getD_eq_getElem?_getD, List.getElem?_eq_getElem this]
  rfl

/-! Functions that write -/
theorem SpecW_of {f : FuncId} {c : CFn} {as : List AV} {I : List Ent} {R : AV → List Ent → Prop} (hlen : as.length.ble c.nt = true)
    {cl : FuncId → List AV → Tr Blk → Nat → Nat → Out} (hcl : ∀ H nx ro, cl f as H nx ro = callFn call ro c as H nx)
    (h : ∀ ro O, W B call ro c.body (frGo 0 as) (I ++ O) (RetQ c.res O R)) : SpecW B cl f as I R := by
  intro ro O H nx hk
  obtain ⟨e, tm', H', nx', t', O', h1, h2, h3, h4⟩ := h ro O (put as 0 .e) H nx (FA.args as) hk
  have key : (∃ vs N, ResV t' O' c.res vs ∧ (N ++ O).Sublist O' ∧ R (pack vs) N) → (∀ i, e ≠ .exit i) → ∃ v N H' nx', cl f as H nx ro = some (v, H', nx') ∧ HK B ro (N ++ O) H' nx' ∧ R v N := by
    rintro ⟨vs, N, r1, r2, r3⟩ hne
    refine ⟨pack vs, N, H', nx', ?_, h3.sub r2, r3⟩
    rw [hcl]
    unfold callFn
    rw [hlen, cond_true, putK_eq]
    simp only [h1]
    have hrs := resvs_of h2 h3 r1
    cases e with
    | exit i => exact absurd rfl (hne i)
    | normal =>
      simp only [hrs]
      match vs with
      | [] => rfl
      | [v] => rfl
      | _ :: _ :: _ => rfl
    | ret =>
      simp only [hrs]
      match vs with
      | [] => rfl
      | [v] => rfl
      | _ :: _ :: _ => rfl
  cases e with
  | exit i => exact h4.elim
  | normal => exact key h4 (fun i h => by cases h)
  | ret => exact key h4 (fun i h => by cases h)
theorem SpecW_run {memo : Memo} {prog : Tr CFn} {n : Nat} {f : FuncId} {c : CFn} {as : List AV} {I : List Ent} {R : AV → List Ent → Prop} (hf : prog.get f = some c) (hmm : memo f as = none) (hlen : as.length.ble c.nt = true)
    (h : ∀ ro O, W B (runM B memo prog n) ro c.body (frGo 0 as) (I ++ O) (RetQ c.res O R)) : SpecW B (runM B memo prog (n + 1)) f as I R :=
  SpecW_of (call := runM B memo prog n) hlen (fun H nx ro => by simp only [runM, hmm, hf]) h
theorem u8s_cons {a : Int} {l : List AV} {r : List Nat} (h0 : 0 ≤ a) (h1 : a ≤ 255) (h : u8s l = some r) : u8s (.int .u8 a :: l) = some (a.toNat :: r) := by
  rw [asNat h0]
  have : a.toNat.ble 255 = true := by rw [ble_dec]; simp; omega
  simp only [u8s, this, cond_true, h, Int.ofNat_eq_natCast, Int.toNat_natCast]
theorem u8s_nil : u8s [] = some [] := rfl
end W
end Go.Vm

