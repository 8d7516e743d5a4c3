/-
  The machine for the kernel: code, functions, runs.
-/
import Derived.Test.YtgncjbodicabnaaDoorVmZX
set_option linter.unusedSimpArgs false
set_option linter.unusedVariables false

namespace Go.Vm
noncomputable section
namespace Swift
open Quick (fN fN_eq opt opt_eq orO orO_eq fA fA_eq)

abbrev Co (φ : Type) := φ → Tr Blk → Nat → Nat → Cl → KN φ → (Nat → KN φ) → Bool

section
variable {φ : Type}
def cSkip : Co φ := fun t H nx _ _ kn _ => kn t H nx
def cReg (o : Ops φ) : Co φ := fun t H nx ro cl kn _ => o t H nx ro cl kn
def cSeq (a b : Co φ) : Co φ := fun t H nx ro cl kn kx => a t H nx ro cl (fun t H nx => b t H nx ro cl kn kx) kx
def cIf (x : Gt φ) (a b : Co φ) : Co φ := fun t H nx ro cl kn kx => eBool (x t) fun c => eB c (a t H nx ro cl kn kx) (b t H nx ro cl kn kx)
def cBlock (id : Nat) (b : Co φ) : Co φ := fun t H nx ro cl kn kx => b t H nx ro cl kn fun i t H nx => eB (Nat.beq i id) (kn t H nx) (kx i t H nx)
def cLoopN (b : Co φ) (n : Nat) : Co φ := Nat.rec (motive := fun _ => Co φ) (fun _ _ _ _ _ _ _ => false) (fun _ ih t H nx ro cl kn kx => b t H nx ro cl (fun t H nx => ih t H nx ro cl kn kx) kx) n
def cLoop (b : Co φ) : Co φ := cLoopN b fuel
def cExit (i : Nat) : Co φ := fun t H nx _ _ _ kx => kx i t H nx
def cBad : Co φ := fun _ _ _ _ _ _ _ => false

variable (F : FK φ)
def denC : CC → Co φ
  | .skip => cSkip
  | .region l => cReg (denOps F l)
  | .seq a b => cSeq (denC a) (denC b)
  | .cond (.t n) a b => bif n.blt F.cap then cIf (F.g n) (denC a) (denC b) else cBad
  | .cond (.c v) a b => cIf (gK v) (denC a) (denC b)
  | .block id b => cBlock (id + 1) (denC b)
  | .loop b => cLoop (denC b)
  | .exit id => cExit (id + 1)
  | .ret => cExit 0
  | .bad => cBad

/-- Where an exit goes. -/
def to (kn : KN φ) (kx : Nat → KN φ) : Ex → KN φ
  | .normal => kn
  | .exit i => kx (i + 1)
  | .ret => kx 0

def CSIM (F : FK φ) (f : Nat → (FuncId → List AV → Tr Blk → Nat → Nat → Out) → St → Option (Ex × St)) (o : Co φ) : Prop := ∀ (t : φ) (tm : Tr AV) (H : Tr Blk) (nx ro : Nat) (cl : Cl) (call : FuncId → List AV → Tr Blk → Nat → Nat → Out) (kn : KN φ) (kx : Nat → KN φ),
  FR F t tm → ClOK cl call → o t H nx ro cl kn kx = true → ∃ x tm' H' nx' t', f ro call (tm, H, nx) = some (x, tm', H', nx') ∧ FR F t' tm' ∧ to kn kx x t' H' nx' = true

variable {F}
theorem loop_sim {c : CC} {b : Co φ} (hb : CSIM F (fun ro call => exec call ro c) b) : ∀ n, CSIM F (fun ro call => iter (exec call ro c) n) (cLoopN b n)
  | 0 => by
    intro t tm H nx ro cl call kn kx hr hcl hk
    cases hk
  | n + 1 => by
    intro t tm H nx ro cl call kn kx hr hcl hk
    obtain ⟨x, tm1, H1, nx1, t1, h1, h2, h3⟩ := hb t tm H nx ro cl call _ kx hr hcl hk
    simp only at h1
    cases x with
    | normal =>
      obtain ⟨x', tm2, H2, nx2, t2, h4, h5⟩ := loop_sim hb n t1 tm1 H1 nx1 ro cl call kn kx h2 hcl h3
      refine ⟨x', tm2, H2, nx2, t2, ?_, h5⟩
      simp only [iter, h1]
      exact h4
    | exit i => exact ⟨.exit i, tm1, H1, nx1, t1, by simp only [iter, h1], h2, h3⟩
    | ret => exact ⟨.ret, tm1, H1, nx1, t1, by simp only [iter, h1], h2, h3⟩

theorem denC_sim : ∀ c : CC, CSIM F (fun ro call => exec call ro c) (denC F c)
  | .skip => fun t tm H nx ro cl call kn kx hr hcl hk => ⟨.normal, tm, H, nx, t, rfl, hr, hk⟩
  | .exit id => fun t tm H nx ro cl call kn kx hr hcl hk => ⟨.exit id, tm, H, nx, t, rfl, hr, hk⟩
  | .ret => fun t tm H nx ro cl call kn kx hr hcl hk => ⟨.ret, tm, H, nx, t, rfl, hr, hk⟩
  | .bad => fun t tm H nx ro cl call kn kx hr hcl hk => by cases hk
  | .region l => fun t tm H nx ro cl call kn kx hr hcl hk => by
    obtain ⟨tm', H', nx', t', h1, h2⟩ := denOps_sim l t tm H nx ro cl call kn hr hcl hk
    exact ⟨.normal, tm', H', nx', t', by simp only [exec, h1], h2⟩
  | .seq a b => fun t tm H nx ro cl call kn kx hr hcl hk => by
    obtain ⟨x, tm1, H1, nx1, t1, h1, h2, h3⟩ := denC_sim a t tm H nx ro cl call _ kx hr hcl hk
    simp only at h1
    cases x with
    | normal =>
      obtain ⟨x', tm2, H2, nx2, t2, h4, h5⟩ := denC_sim b t1 tm1 H1 nx1 ro cl call kn kx h2 hcl h3
      refine ⟨x', tm2, H2, nx2, t2, ?_, h5⟩
      simp only [exec, h1]
      exact h4
    | exit i => exact ⟨.exit i, tm1, H1, nx1, t1, by simp only [exec, h1], h2, h3⟩
    | ret => exact ⟨.ret, tm1, H1, nx1, t1, by simp only [exec, h1], h2, h3⟩
  | .cond y a b => fun t tm H nx ro cl call kn kx hr hcl hk => by
    have key : ∀ x : Gt φ, x t = getv tm y → cIf x (denC F a) (denC F b) t H nx ro cl kn kx = true → ∃ x tm' H' nx' t', exec call ro (.cond y a b) (tm, H, nx) = some (x, tm', H', nx') ∧ FR F t' tm' ∧ to kn kx x t' H' nx' = true := by
      intro x hx hk
      unfold cIf at hk
      rw [hx] at hk
      cases hq : getv tm y <;> rw [hq] at hk <;> try (cases hk; done)
      rename_i c
      change eB c _ _ = true at hk
      rw [eB_eq] at hk
      simp only [exec, hq]
      cases c with
      | true => exact denC_sim a t tm H nx ro cl call kn kx hr hcl hk
      | false => exact denC_sim b t tm H nx ro cl call kn kx hr hcl hk
    cases y with
    | c v => exact key _ rfl hk
    | t n =>
      simp only [denC] at hk
      cases hn : n.blt F.cap with
      | false => rw [hn] at hk; cases hk
      | true =>
        rw [hn] at hk
        exact key _ (hr.get (by simpa using hn)) hk
  | .block id b => fun t tm H nx ro cl call kn kx hr hcl hk => by
    obtain ⟨x, tm1, H1, nx1, t1, h1, h2, h3⟩ := denC_sim b t tm H nx ro cl call kn _ hr hcl hk
    simp only at h1
    cases x with
    | normal => exact ⟨.normal, tm1, H1, nx1, t1, by simp only [exec, h1], h2, h3⟩
    | ret =>
      refine ⟨.ret, tm1, H1, nx1, t1, by simp only [exec, h1], h2, ?_⟩
      change eB (Nat.beq 0 (id + 1)) (kn t1 H1 nx1) (kx 0 t1 H1 nx1) = true at h3
      rw [eB_eq] at h3
      exact h3
    | exit i =>
      change eB (Nat.beq (i + 1) (id + 1)) (kn t1 H1 nx1) (kx (i + 1) t1 H1 nx1) = true at h3
      rw [eB_eq, beq_dec] at h3
      by_cases hi : i = id
      · subst hi
        simp only [decide_true, cond_true] at h3
        exact ⟨.normal, tm1, H1, nx1, t1, by simp [exec, h1, beq_dec], h2, h3⟩
      · have : decide (i + 1 = id + 1) = false := by simp [hi]
        rw [this] at h3
        exact ⟨.exit i, tm1, H1, nx1, t1, by simp [exec, h1, beq_dec, hi], h2, h3⟩
  | .loop b => fun t tm H nx ro cl call kn kx hr hcl hk => by
    exact loop_sim (denC_sim b) fuel t tm H nx ro cl call kn kx hr hcl hk
end
end Swift
end
end Go.Vm

