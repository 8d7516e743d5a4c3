/-
  The machine for the kernel: what each operation that only computes does to values; the answer is a Bool.
-/
import Derived.Test.YtgncjbodicabnaaDoorVmZS
set_option linter.unusedSimpArgs false
set_option linter.unusedVariables false

namespace Go.Vm
noncomputable section
namespace Swift
open Quick (fN fN_eq fI fI_eq fL fL_eq fA fA_eq fD fD_eq nth nth_eq iff iff_eq opt opt_eq eqI eqI_eq leI leI_eq addK addK_eq subK subK_eq wrapK wrapK_eq kx kx_eq kk ln ln_eq orE orE_eq)

abbrev KV := AV → Bool

def eInt (v : AV) (k : IntKind → Int → Bool) : Bool := AV.rec (motive_1 := fun _ => (IntKind → Int → Bool) → Bool) (motive_2 := fun _ => Bool)
  (fun _ _ => false) (fun d n k => k d n) (fun _ _ => false) (fun _ _ _ => false) (fun _ => false) (fun _ _ _ _ _ _ => false) (fun _ => false) (fun _ _ _ _ _ _ => false) (fun _ => false) (fun _ _ _ _ => false) (fun _ => false) (fun _ _ _ => false) (fun _ _ _ => false) false (fun _ _ _ _ => false) v k
def eIntE (v : AV) (k : IntKind → Int → Bool) (e : Bool) : Bool := AV.rec (motive_1 := fun _ => (IntKind → Int → Bool) → Bool → Bool) (motive_2 := fun _ => Bool)
  (fun _ _ e => e) (fun d n k _ => k d n) (fun _ _ e => e) (fun _ _ _ e => e) (fun _ e => e) (fun _ _ _ _ _ _ e => e) (fun _ e => e) (fun _ _ _ _ _ _ e => e) (fun _ e => e) (fun _ _ _ _ e => e) (fun _ e => e) (fun _ _ _ e => e) (fun _ _ _ e => e) false (fun _ _ _ _ => false) v k e
def ePtr (v : AV) (k : Nat → Nat → Bool) : Bool := AV.rec (motive_1 := fun _ => (Nat → Nat → Bool) → Bool) (motive_2 := fun _ => Bool)
  (fun _ _ => false) (fun _ _ _ => false) (fun _ _ => false) (fun b o k => k b o) (fun _ => false) (fun _ _ _ _ _ _ => false) (fun _ => false) (fun _ _ _ _ _ _ => false) (fun _ => false) (fun _ _ _ _ => false) (fun _ => false) (fun _ _ _ => false) (fun _ _ _ => false) false (fun _ _ _ _ => false) v k
def eBool (v : AV) (k : Bool → Bool) : Bool := AV.rec (motive_1 := fun _ => (Bool → Bool) → Bool) (motive_2 := fun _ => Bool)
  (fun b k => k b) (fun _ _ _ => false) (fun _ _ => false) (fun _ _ _ => false) (fun _ => false) (fun _ _ _ _ _ _ => false) (fun _ => false) (fun _ _ _ _ _ _ => false) (fun _ => false) (fun _ _ _ _ => false) (fun _ => false) (fun _ _ _ => false) (fun _ _ _ => false) false (fun _ _ _ _ => false) v k
def eStr (v : AV) (k : List Nat → Bool) : Bool := AV.rec (motive_1 := fun _ => (List Nat → Bool) → Bool) (motive_2 := fun _ => Bool)
  (fun _ _ => false) (fun _ _ _ => false) (fun s k => k s) (fun _ _ _ => false) (fun _ => false) (fun _ _ _ _ _ _ => false) (fun _ => false) (fun _ _ _ _ _ _ => false) (fun _ => false) (fun _ _ _ _ => false) (fun _ => false) (fun _ _ _ => false) (fun _ _ _ => false) false (fun _ _ _ _ => false) v k
def eSl (v : AV) (k : Nat → Nat → Nat → Option Nat → Nat → Bool) (n : Bool) : Bool := AV.rec (motive_1 := fun _ => (Nat → Nat → Nat → Option Nat → Nat → Bool) → Bool → Bool) (motive_2 := fun _ => Bool)
  (fun _ _ _ => false) (fun _ _ _ _ => false) (fun _ _ _ => false) (fun _ _ _ _ => false) (fun _ _ => false) (fun b o l c z k _ => k b o l c z) (fun _ n => n) (fun _ _ _ _ _ _ _ => false) (fun _ _ => false) (fun _ _ _ _ _ => false) (fun _ _ => false) (fun _ _ _ _ => false) (fun _ _ _ _ => false) false (fun _ _ _ _ => false) v k n
def eTup (v : AV) (k : List AV → Bool) : Bool := AV.rec (motive_1 := fun _ => (List AV → Bool) → Bool) (motive_2 := fun _ => Bool)
  (fun _ _ => false) (fun _ _ _ => false) (fun _ _ => false) (fun _ _ _ => false) (fun _ => false) (fun _ _ _ _ _ _ => false) (fun _ => false) (fun _ _ _ _ _ _ => false) (fun _ => false) (fun _ _ _ _ => false) (fun _ => false) (fun _ _ _ => false) (fun l _ k => k l) false (fun _ _ _ _ => false) v k
def eB (b : Bool) (x y : Bool) : Bool := Bool.rec (motive := fun _ => Bool) y x b
theorem eB_eq (b x y : Bool) : eB b x y = bif b then x else y := by cases b <;> rfl
def eNat (n : Int) (k : Nat → Bool) : Bool := Int.rec (motive := fun _ => (Nat → Bool) → Bool) (fun n k => k n) (fun _ _ => false) n k

/-- A binary operation: two numbers of one kind, or else the slow way. -/
def two (op : BinOp) (f : IntKind → Int → Int → KV → Bool) (x y : AV) (k : KV) : Bool :=
  eIntE x (fun d n => eIntE y (fun d' m => eB (Nat.beq (kx d) (kx d')) (f d n m k) false) (orE false k (abin op x y))) (orE false k (abin op x y))
def fAdd (d : IntKind) (n m : Int) (k : KV) : Bool := addK n m fun s => wrapK d s fun s => k (.int d s)
def fSub (d : IntKind) (n m : Int) (k : KV) : Bool := subK n m fun s => wrapK d s fun s => k (.int d s)
def fEql (_ : IntKind) (n m : Int) (k : KV) : Bool := eB (Quick.eqI n m) (k (.bool true)) (k (.bool false))
def fNeq (_ : IntKind) (n m : Int) (k : KV) : Bool := eB (Quick.eqI n m) (k (.bool false)) (k (.bool true))
def fLss (_ : IntKind) (n m : Int) (k : KV) : Bool := eB (leI m n) (k (.bool false)) (k (.bool true))
def fLeq (_ : IntKind) (n m : Int) (k : KV) : Bool := eB (leI n m) (k (.bool true)) (k (.bool false))
def fGtr (_ : IntKind) (n m : Int) (k : KV) : Bool := eB (leI n m) (k (.bool false)) (k (.bool true))
def fGeq (_ : IntKind) (n m : Int) (k : KV) : Bool := eB (leI m n) (k (.bool true)) (k (.bool false))
def vAdd := two .add fAdd
def vSub := two .sub fSub
def vEql := two .eql fEql
def vNeq := two .neq fNeq
def vLss := two .lss fLss
def vLeq := two .leq fLeq
def vGtr := two .gtr fGtr
def vGeq := two .geq fGeq
def vBin (op : BinOp) (x y : AV) (k : KV) : Bool := orE false k (abin op x y)

theorem two_eq {op : BinOp} (h1 : op ≠ .shl) (h2 : op ≠ .shr) {f : IntKind → Int → Int → KV → Bool} (k : KV) (hf : ∀ d n m, f d n m k = match abin op (.int d n) (.int d m) with | some v => k v | none => false) (x y : AV) :
    two op f x y k = (match abin op x y with | some v => k v | none => false) := by
  have hx := orE_eq false k (abin op x y)
  cases x with
  | int d n => cases y with
    | int d' m =>
      show eB (Nat.beq (kx d) (kx d')) (f d n m k) false = _
      rw [eB_eq, kx_eq]
      cases hk : keq d d' with
      | true =>
        obtain rfl := keq_iff.1 hk
        exact hf d n m
      | false => cases op <;> simp only [abin, hk, cond_false] <;> first | (exact absurd rfl h1) | (exact absurd rfl h2) | skip
    | _ => exact hx
  | _ => exact hx

/-- What a function of the values does is what the operation does. -/
def binOf (op : BinOp) : AV → AV → KV → Bool := match op with
  | .add => vAdd | .sub => vSub | .eql => vEql | .neq => vNeq | .lss => vLss | .leq => vLeq | .gtr => vGtr | .geq => vGeq | op => vBin op

theorem binOf_eq (op : BinOp) (x y : AV) (k : KV) : binOf op x y k = (match abin op x y with | some v => k v | none => false) := by
  cases op
  case add => exact two_eq (by simp) (by simp) k (fun d n m => by simp only [fAdd, addK_eq, wrapK_eq, abin, kk, cond_true]) x y
  case sub => exact two_eq (by simp) (by simp) k (fun d n m => by simp only [fSub, subK_eq, wrapK_eq, abin, kk, cond_true]) x y
  case eql => exact two_eq (by simp) (by simp) k (fun d n m => by simp only [fEql, eB_eq, eqI_eq, abin, kk, cond_true]; cases ieq n m <;> rfl) x y
  case neq => exact two_eq (by simp) (by simp) k (fun d n m => by simp only [fNeq, eB_eq, eqI_eq, abin, kk, cond_true]; cases ieq n m <;> rfl) x y
  case lss => exact two_eq (by simp) (by simp) k (fun d n m => by simp only [fLss, eB_eq, leI_eq, abin, kk, cond_true]; cases ile m n <;> rfl) x y
  case leq => exact two_eq (by simp) (by simp) k (fun d n m => by simp only [fLeq, eB_eq, leI_eq, abin, kk, cond_true]; cases ile n m <;> rfl) x y
  case gtr => exact two_eq (by simp) (by simp) k (fun d n m => by simp only [fGtr, eB_eq, leI_eq, abin, kk, cond_true]; cases ile n m <;> rfl) x y
  case geq => exact two_eq (by simp) (by simp) k (fun d n m => by simp only [fGeq, eB_eq, leI_eq, abin, kk, cond_true]; cases ile m n <;> rfl) x y
  all_goals exact orE_eq false k _
end Swift
end
end Go.Vm

