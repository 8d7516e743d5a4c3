/-
  The machine once more, written for the kernel: recursors, numbers worked out as they come, no pairs handed about. Each piece is shown to be the machine's own.
-/
import Derived.Test.YtgncjbodicabnaaDoorVmZF
set_option linter.unusedSimpArgs false
set_option linter.unusedVariables false

namespace Go.Vm
noncomputable section
namespace Quick

/-- A number, worked out. -/
def fN {β : Type} (n : Nat) (k : Nat → β) : β := Nat.rec (motive := fun _ => β) (k Nat.zero) (fun m _ => k (Nat.succ m)) n
theorem fN_eq {β : Type} (n : Nat) (k : Nat → β) : fN n k = k n := by cases n <;> rfl

def iff {β : Type} (b : Bool) (x y : β) : β := Bool.rec (motive := fun _ => β) y x b
theorem iff_eq {β : Type} (b : Bool) (x y : β) : iff b x y = bif b then x else y := by cases b <;> rfl

/-! ## Tables: a place's number is its path and a one above -/
def gt1 {α : Type} (t : Tr α) : Nat → Option α := Tr.rec (motive := fun _ => Nat → Option α) (fun _ => none)
  (fun _ v _ gl gr i => iff (Nat.beq i (nat_lit 1)) v (iff (Nat.beq (Nat.mod i (nat_lit 2)) (nat_lit 0)) (gl (Nat.div i (nat_lit 2))) (gr (Nat.div i (nat_lit 2))))) t
def st1 {α β : Type} (x : α) (f : Nat) : Tr α → Nat → (Tr α → β) → β := Nat.rec (motive := fun _ => Tr α → Nat → (Tr α → β) → β) (fun t _ k => k t)
  (fun _ ih t i k => Tr.rec (motive := fun _ => β)
    (iff (Nat.beq i (nat_lit 1)) (k (.n .e (some x) .e)) (iff (Nat.beq (Nat.mod i (nat_lit 2)) (nat_lit 0)) (ih .e (Nat.div i (nat_lit 2)) fun l => k (.n l none .e)) (ih .e (Nat.div i (nat_lit 2)) fun r => k (.n .e none r))))
    (fun l v r _ _ => iff (Nat.beq i (nat_lit 1)) (k (.n l (some x) r)) (iff (Nat.beq (Nat.mod i (nat_lit 2)) (nat_lit 0)) (ih l (Nat.div i (nat_lit 2)) fun l => k (.n l v r)) (ih r (Nat.div i (nat_lit 2)) fun r => k (.n l v r)))) t) f

theorem bq (x y : Nat) : Nat.beq x y = decide (x = y) := beq_dec x y

theorem gt1_eq {α : Type} : ∀ (t : Tr α) (i : Nat), gt1 t (i + 1) = t.get i
  | .e, _ => rfl
  | .n l v r, i => by
    show iff (Nat.beq (i + 1) 1) v (iff (Nat.beq (Nat.mod (i + 1) 2) 0) (gt1 l (Nat.div (i + 1) 2)) (gt1 r (Nat.div (i + 1) 2))) = _
    simp only [iff_eq, bq, Tr.get]
    by_cases h0 : i = 0
    · subst h0; simp
    · have e0 : ¬ (i + 1 = 1) := by omega
      simp only [h0, e0, decide_false, cond_false]
      by_cases h1 : i % 2 = 1
      · have e1 : Nat.mod (i + 1) 2 = 0 := by show (i + 1) % 2 = 0; omega
        simp only [h1, e1, decide_true, cond_true]
        rw [← gt1_eq l]
        congr 1
        show (i + 1) / 2 = _
        omega
      · have e1 : ¬ Nat.mod (i + 1) 2 = 0 := by show ¬ (i + 1) % 2 = 0; omega
        simp only [h1, e1, decide_false, cond_false]
        rw [← gt1_eq r]
        congr 1
        show (i + 1) / 2 = _
        omega

theorem st1_eq {α β : Type} (x : α) : ∀ (f : Nat) (t : Tr α) (i : Nat) (k : Tr α → β), st1 x f t (i + 1) k = Tr.setK x f t i k
  | 0, _, _, _ => rfl
  | f + 1, t, i, k => by
    have go : ∀ (a b c a' b' c' : β), a = a' → (i % 2 = 1 → b = b') → (i ≠ 0 → ¬ i % 2 = 1 → c = c') →
        iff (Nat.beq (i + 1) 1) a (iff (Nat.beq (Nat.mod (i + 1) 2) 0) b c) = (bif i.beq 0 then a' else bif (i % 2).beq 1 then b' else c') := by
      intro a b c a' b' c' h1 h2 h3
      simp only [iff_eq, bq]
      by_cases h0 : i = 0
      · subst h0; simp [h1]
      · have e0 : ¬ (i + 1 = 1) := by omega
        simp only [h0, e0, decide_false, cond_false]
        by_cases hp : i % 2 = 1
        · have e1 : Nat.mod (i + 1) 2 = 0 := by show (i + 1) % 2 = 0; omega
          simp [hp, e1, h2 hp]
        · have e1 : ¬ Nat.mod (i + 1) 2 = 0 := by show ¬ (i + 1) % 2 = 0; omega
          simp [hp, e1, h3 h0 hp]
    have d1 : i % 2 = 1 → Nat.div (i + 1) 2 = (i - 1) / 2 + 1 := by intro h; show (i + 1) / 2 = _; omega
    have d2 : i ≠ 0 → ¬ i % 2 = 1 → Nat.div (i + 1) 2 = (i - 1) / 2 + 1 := by intro h h'; show (i + 1) / 2 = _; omega
    cases t with
    | e =>
      rw [Tr.setK]
      refine go _ _ _ _ _ _ rfl (fun h => ?_) (fun h h' => ?_)
      · exact (congrArg (fun j => st1 x f .e j _) (d1 h)).trans (st1_eq x f _ _ _)
      · exact (congrArg (fun j => st1 x f .e j _) (d2 h h')).trans (st1_eq x f _ _ _)
    | n l v r =>
      rw [Tr.setK]
      refine go _ _ _ _ _ _ rfl (fun h => ?_) (fun h h' => ?_)
      · exact (congrArg (fun j => st1 x f l j _) (d1 h)).trans (st1_eq x f _ _ _)
      · exact (congrArg (fun j => st1 x f r j _) (d2 h h')).trans (st1_eq x f _ _ _)

def get {α : Type} (t : Tr α) (i : Nat) : Option α := gt1 t (Nat.succ i)
def setK {α β : Type} (x : α) (t : Tr α) (i : Nat) (k : Tr α → β) : β := st1 x (Nat.succ i) t (Nat.succ i) k
theorem get_eq {α : Type} (t : Tr α) (i : Nat) : get t i = t.get i := gt1_eq t i
theorem setK_eq {α β : Type} (x : α) (t : Tr α) (i : Nat) (k : Tr α → β) : setK x t i k = Tr.setK x (i + 1) t i k := st1_eq x _ t i k

def opt {α β : Type} (o : Option α) (n : β) (s : α → β) : β := Option.rec (motive := fun _ => β) n s o
theorem opt_eq {α β : Type} (o : Option α) (n : β) (s : α → β) : opt o n s = (match o with | none => n | some x => s x) := by cases o <;> rfl

/-! ## Values -/
def gv (tm : Tr AV) (x : Opd) : AV := Opd.rec (motive := fun _ => AV) (fun n => opt (get tm n) (.tup []) fun v => v) (fun v => v) x
theorem gv_eq (tm : Tr AV) (x : Opd) : gv tm x = getv tm x := by
  cases x with
  | t n => show opt (get tm n) _ _ = _; rw [get_eq, opt_eq, getv]; cases tm.get n <;> rfl
  | c v => rfl
theorem gv_fun (tm : Tr AV) : gv tm = getv tm := funext (gv_eq tm)

def fI {β : Type} (n : Int) (k : Int → β) : β := Int.rec (motive := fun _ => β) (fun n => fN n fun n => k (.ofNat n)) (fun n => fN n fun n => k (.negSucc n)) n
theorem fI_eq {β : Type} (n : Int) (k : Int → β) : fI n k = k n := by cases n <;> simp only [fI, fN_eq]

def fA {β : Type} (v : AV) (k : AV → β) : β := AV.casesOn (motive_1 := fun _ => β) v
  (fun b => iff b (k (.bool true)) (k (.bool false))) (fun d n => fI n fun n => k (.int d n)) (fun s => forceNs s fun s => k (.str s)) (fun b o => fN b fun b => fN o fun o => k (.ptr b o)) (k .nilp)
  (fun b o len cap z => fN b fun b => fN o fun o => fN len fun len => opt cap (k (.sl b o len none z)) fun c => fN c fun c => k (.sl b o len (some c) z))
  (k .nils) (fun f a b => k (.fn f a b)) (k .nilf) (fun t v => k (.ifc t v)) (k .nili) (fun l => k (.agg l)) (fun l => k (.tup l))
theorem fA_eq {β : Type} (v : AV) (k : AV → β) : fA v k = k v := by
  cases v <;> try rfl
  case bool b => cases b <;> rfl
  case int d n => exact fI_eq n fun n => k (.int d n)
  case str s => exact forceNs_eq s _ fun s => k (.str s)
  case ptr b o => simp only [fA, fN_eq]
  case sl b o len cap z => cases cap <;> simp only [fA, fN_eq, opt]

def onInt {β : Type} (v : AV) (e : β) (k : IntKind → Int → β) : β := AV.casesOn (motive_1 := fun _ => β) v (fun _ => e) k (fun _ => e) (fun _ _ => e) e (fun _ _ _ _ _ => e) e (fun _ _ _ => e) e (fun _ _ => e) e (fun _ => e) (fun _ => e)
def onPtr {β : Type} (v : AV) (e : β) (k : Nat → Nat → β) : β := AV.casesOn (motive_1 := fun _ => β) v (fun _ => e) (fun _ _ => e) (fun _ => e) k e (fun _ _ _ _ _ => e) e (fun _ _ _ => e) e (fun _ _ => e) e (fun _ => e) (fun _ => e)
def onBool {β : Type} (v : AV) (e : β) (k : Bool → β) : β := AV.casesOn (motive_1 := fun _ => β) v k (fun _ _ => e) (fun _ => e) (fun _ _ => e) e (fun _ _ _ _ _ => e) e (fun _ _ _ => e) e (fun _ _ => e) e (fun _ => e) (fun _ => e)

end Quick
end
end Go.Vm

