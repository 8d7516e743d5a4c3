/-
  The machine for the kernel: its code.
-/
import Derived.Test.YtgncjbodicabnaaDoorVmZU
import Derived.Test.YtgncjbodicabnaaDoorVmZH
set_option linter.unusedSimpArgs false
set_option linter.unusedVariables false

namespace Go.Vm
noncomputable section
namespace Swift
open Quick (fN fN_eq opt opt_eq orO orO_eq fA fA_eq)

abbrev Cl := FuncId → List AV → Tr Blk → Nat → Nat → KM → Bool
abbrev KN (φ : Type) := φ → Tr Blk → Nat → Bool
abbrev Ops (φ : Type) := φ → Tr Blk → Nat → Nat → Cl → KN φ → Bool
abbrev Op (φ : Type) := Ops φ → Ops φ

section
variable {φ : Type}
def gK (v : AV) : Gt φ := fun _ => v
def pN : Pt φ := fun _ t k => k t
def o1 (f : AV → KV → Bool) (x : Gt φ) (d : Pt φ) : Op φ := fun r t H nx ro cl k => f (x t) fun v => d v t fun t => r t H nx ro cl k
def o2 (f : AV → AV → KV → Bool) (x y : Gt φ) (d : Pt φ) : Op φ := fun r t H nx ro cl k => f (x t) (y t) fun v => d v t fun t => r t H nx ro cl k
def m1 (f : AV → Tr Blk → Nat → KM → Bool) (x : Gt φ) (d : Pt φ) : Op φ := fun r t H nx ro cl k => f (x t) H nx fun v H nx => d v t fun t => r t H nx ro cl k
def oAlloc (l : List AV) (d : Pt φ) : Op φ := fun r t H nx ro cl k => wNew l H nx fun v H nx => d v t fun t => r t H nx ro cl k
def oStore (n : Nat) (x y : Gt φ) : Op φ := fun r t H nx ro cl k => wStore n ro (x t) (y t) H nx fun _ H nx => r t H nx ro cl k
def args (xs : List (Gt φ)) : φ → (List AV → Bool) → Bool := List.rec (motive := fun _ => φ → (List AV → Bool) → Bool) (fun _ k => k []) (fun x _ ih t k => fA (x t) fun a => ih t fun l => k (a :: l)) xs
def oCall (f : FuncId) (xs : List (Gt φ)) (d : Pt φ) : Op φ := fun r t H nx ro cl k => args xs t fun as => cl f as H nx ro fun v H nx => d v t fun t => r t H nx ro cl k
def oCallQ (f : FuncId) (xs : List (Gt φ)) (d : Pt φ) : Op φ := fun r t H nx ro cl k => args xs t fun as => cl f as H nx nx fun v H nx => d v t fun t => r t H nx ro cl k
def fnK (f : Fn) (k : FuncId → Bool) : Bool := match f with | .func g => k g | _ => false
def eFn (v : AV) (k : FuncId → List AV → List AV → Bool) : Bool := AV.rec (motive_1 := fun _ => (FuncId → List AV → List AV → Bool) → Bool) (motive_2 := fun _ => Bool)
  (fun _ _ => false) (fun _ _ _ => false) (fun _ _ => false) (fun _ _ _ => false) (fun _ => false) (fun _ _ _ _ _ _ => false) (fun _ => false) (fun f a b _ _ k => fnK f fun f => k f a b) (fun _ => false) (fun _ _ _ _ => false) (fun _ => false) (fun _ _ _ => false) (fun _ _ _ => false) false (fun _ _ _ _ => false) v k
def oCallD (g : Gt φ) (xs : List (Gt φ)) (d : Pt φ) : Op φ := fun r t H nx ro cl k => eFn (g t) fun f a b => args xs t fun as => cl f (a ++ as ++ b) H nx ro fun v H nx => d v t fun t => r t H nx ro cl k
def oCallDQ (g : Gt φ) (xs : List (Gt φ)) (d : Pt φ) : Op φ := fun r t H nx ro cl k => eFn (g t) fun f a b => args xs t fun as => cl f (a ++ as ++ b) H nx nx fun v H nx => d v t fun t => r t H nx ro cl k
def noCall : FuncId → List AV → Tr Blk → Nat → Nat → Out := fun _ _ _ _ _ => none
def slowJ (g : Opd → AV) (c : COp) (H : Tr Blk) (nx ro : Nat) : Out := match c.j with
  | .p i => match pop g i with | some v => some (v, H, nx) | none => none
  | .h i => bif c.ex.isEmpty || exOk g i c.ex then hop noCall (bif c.q then nx else ro) g H nx i else none
def oSlow (G : Opd → Gt φ) (c : COp) (d : Pt φ) : Op φ := fun r t H nx ro cl k => orO false (fun v H nx => d v t fun t => r t H nx ro cl k) (slowJ (fun x => G x t) c H nx ro)
def eBoolE (v : AV) (k : Bool → Bool) (e : Bool) : Bool := AV.rec (motive_1 := fun _ => (Bool → Bool) → Bool → Bool) (motive_2 := fun _ => Bool)
  (fun b k _ => k b) (fun _ _ _ e => e) (fun _ _ e => e) (fun _ _ _ e => e) (fun _ e => e) (fun _ _ _ _ _ _ e => e) (fun _ e => e) (fun _ _ _ _ _ _ e => e) (fun _ e => e) (fun _ _ _ _ e => e) (fun _ e => e) (fun _ _ _ e => e) (fun _ _ _ e => e) false (fun _ _ _ _ => false) v k e
def oGuard (x : Gt φ) (w : Bool) (d : Pt φ) (o : Op φ) : Op φ := fun r t H nx ro cl k =>
  eBoolE (x t) (fun b => eB (eB w b (eB b false true)) (o r t H nx ro cl k) (d (.tup []) t fun t => r t H nx ro cl k)) (d (.tup []) t fun t => r t H nx ro cl k)
def oFail : Op φ := fun _ _ _ _ _ _ _ => false
def oEnd : Ops φ := fun t H nx _ _ k => k t H nx

variable (F : FK φ)
def FK.gt : Opd → Gt φ
  | .t n => F.g n
  | .c v => gK v
def FK.dst : Option Nat → Pt φ
  | none => pN
  | some n => F.s n

def denP (i : I) (d : Pt φ) : Option (Op φ) := match i with
  | .mov x => some (o1 vMov (F.gt x) d)
  | .bin op x y => some (o2 (binOf op) (F.gt x) (F.gt y) d)
  | .not x => some (o1 vNot (F.gt x) d)
  | .cvi k x => some (o1 (vCvi k) (F.gt x) d)
  | .fad 0 x => some (o1 vFad0 (F.gt x) d)
  | .fad n x => some (o1 (vFad n) (F.gt x) d)
  | .iadA n z x i => some (o2 (vIadA n z) (F.gt x) (F.gt i) d)
  | .iadS z x i => some (o2 (vIadS z) (F.gt x) (F.gt i) d)
  | .idxS x i => some (o2 vIdxS (F.gt x) (F.gt i) d)
  | .ext n x => some (o1 (vExt n) (F.gt x) d)
  | .lenS x => some (o1 vLenS (F.gt x) d)
  | .len x => some (o1 vLen (F.gt x) d)
  | .mkif n x => some (o1 (vMkif n) (F.gt x) d)
  | .eqf n a ks x y => some (o2 (vEqf n a ks) (F.gt x) (F.gt y) d)
  | .eqn n a x y => some (o2 (vEqn n a) (F.gt x) (F.gt y) d)
  | _ => none

def denH (q : Bool) (i : I) (d : Pt φ) : Option (Op φ) := match i with
  | .load false 1 x => some (m1 wLoad1 (F.gt x) d)
  | .load true n x => some (m1 (wLoadN n) (F.gt x) d)
  | .box x => some (m1 wBox (F.gt x) d)
  | .alloc l => some (oAlloc l d)
  | .call f xs => some (bif q then oCallQ f (xs.map F.gt) d else oCall f (xs.map F.gt) d)
  | .calld g xs => some (bif q then oCallDQ (F.gt g) (xs.map F.gt) d else oCallD (F.gt g) (xs.map F.gt) d)
  | _ => none

def denJ (c : COp) : Op φ := match c.j with
  | .p i => (denP F i (F.dst c.dst)).getD (oSlow F.gt c (F.dst c.dst))
  | .h i => match c.ex with
    | [] => (denH F c.q i (F.dst c.dst)).getD (match i, c.q, c.dst with
      | .store n x y, false, none => oStore n (F.gt x) (F.gt y)
      | _, _, _ => oSlow F.gt c (F.dst c.dst))
    | _ => oSlow F.gt c (F.dst c.dst)

def den1 (c : COp) : Op φ := bif c.uses.all (fun n => n.blt F.cap) && (inB c.dst F.cap && c.ex.all (fun x => inB x.tmp? F.cap)) then (match c.guard with
  | none => denJ F c
  | some (t, w) => oGuard (F.g t) w (F.dst c.dst) (denJ F c)) else oFail

def denOps : List COp → Ops φ
  | [] => oEnd
  | c :: l => den1 F c (denOps l)

/-- The frame and the table. -/
def FR (t : φ) (tm : Tr AV) : Prop := ∀ n, n < F.cap → F.dec t n = getv tm (.t n)
def ClOK (cl : Cl) (call : FuncId → List AV → Tr Blk → Nat → Nat → Out) : Prop := ∀ f as H nx ro k, cl f as H nx ro k = true → outM (call f as H nx ro) k = true

variable {F}
theorem FR.get {t : φ} {tm : Tr AV} (h : FR F t tm) {n : Nat} (hn : n < F.cap) : F.g n t = getv tm (.t n) := by rw [F.g_ok n t hn, h n hn]
theorem FR.gt {t : φ} {tm : Tr AV} (h : FR F t tm) {x : Opd} (hx : ∀ n, x = .t n → n < F.cap) : F.gt x t = getv tm x := by
  cases x with
  | t n => exact h.get (hx n rfl)
  | c v => rfl
theorem FR.put {t : φ} {tm : Tr AV} (h : FR F t tm) {d : Option Nat} (hd : inB d F.cap = true) (v : AV) (k : φ → Bool) (hk : F.dst d v t k = true) : ∃ t', k t' = true ∧ FR F t' (setO d v tm) := by
  cases d with
  | none => exact ⟨t, hk, h⟩
  | some n =>
    have hn : n < F.cap := by simpa [inB] using hd
    obtain ⟨t', e1, e2⟩ := F.s_ok n v t k hn
    refine ⟨t', ?_, fun m hm => ?_⟩
    · rw [← e1]; exact hk
    · rw [e2 m hm]
      simp only [setO, getv_set]
      split
      · rfl
      · exact h m hm
end
end Swift
end
end Go.Vm

