/-
  The machine with some calls told beforehand; calls of a law, from the machine's run to the model's.
-/
import Derived.Test.YtppgnpodkmacoaaGreatDoorVmWI
set_option linter.unusedSimpArgs false
set_option linter.unusedVariables false

namespace Go.Vm
namespace W
open Classical
variable {P : Program} {gl : List Nat} {B : Base}
structure Quiet (w w' : World) : Prop where
  os : w'.os = w.os
  tape : w'.tape = w.tape
  output : w'.output = w.output
  size : w.heap.size ≤ w'.heap.size
  keep : ∀ x, x < w.heap.size → w'.heap[x]? = w.heap[x]?
theorem Quiet.step {ρ : RM} {H : Tr Blk} {nx ro : Nat} {w w' : World} (q : Quiet w w') : Step ρ H nx ro w ρ H nx w' :=
  ⟨q.os, q.tape, q.output, q.size, Nat.le_refl _, fun _ _ => rfl, fun x hx _ => q.keep x hx, fun b l h h' => by omega, fun _ h => .inr h, fun _ _ _ => rfl⟩
theorem Quiet.hr {ρ : RM} {H : Tr Blk} {w w' : World} (q : Quiet w w') (h : HR ρ H w) : HR ρ H w' :=
  ⟨fun b k l hb hl => (h.blk b k l hb hl).mono (RM.Le.refl _) (q.keep _ (h.blk b k l hb hl).lt), h.inj⟩
abbrev Memo := FuncId → List AV → Option (Tr Blk → Nat → Out)
def MemoOK (P : Program) (gl : List Nat) (B : Base) (memo : Memo) : Prop :=
  ∀ f as g, memo f as = some g → ∀ H nx v H' nx', g H nx = some (v, H', nx') → (∀ b, b < B.nx0 → H.get b = B.H0.get b) → (∀ ro, Syn H nx ro H' nx') ∧
    ∀ (ro : Nat) (ρ : RM) (w : World) (args : Array Value), HR ρ H w → Free ρ nx nx' → ro ≤ nx → GLok gl ρ → WF H nx → VRs ρ as args.toList →
    (∃ fn, P.funcs[f]? = some fn ∧ (fn.name == "runtime.NumGoroutine") = false ∧ fn.body.isSome = true) ∧ Calls P f args w (fun en w' => ∃ v', en = .returned v' ∧ Ends ρ H nx ro w v H' nx' v' w')
noncomputable def runM (B : Base) (memo : Memo) (prog : Tr CFn) : Nat → FuncId → List AV → Tr Blk → Nat → Nat → Out
  | 0, _, _, _, _, _ => none
  | n + 1, f, as, H, nx, ro => match memo f as with
    | some g => if ∀ b, b < B.nx0 → H.get b = B.H0.get b then g H nx else none
    | none => match prog.get f with
      | none => none
      | some c => callFn (runM B memo prog n) ro c as H nx
theorem runM_ok {memo : Memo} (hmemo : MemoOK P gl B memo) (hm : P.follows .mixedOrders = true) {prog : Tr CFn} (hp : ProgOK P gl prog) : ∀ n, CallOK P gl (runM B memo prog n) ∧ SynOK (runM B memo prog n)
  | 0 => ⟨fun f as H nx ro v H' nx' h => by simp [runM] at h, fun f as H nx ro v H' nx' h => by simp [runM] at h⟩
  | n + 1 => by
    obtain ⟨ih1, ih2⟩ := runM_ok hmemo hm hp n
    have sy : SynOK (runM B memo prog (n + 1)) := by
      intro f as H nx ro v H' nx' h
      simp only [runM] at h
      split at h
      · rename_i g hg
        split at h
        · rename_i hb
          exact (hmemo f as g hg H nx v H' nx' h hb).1 ro
        · cases h
      · split at h
        · cases h
        · exact callFn_syn ih2 h
    refine ⟨fun f as H nx ro v H' nx' h => ⟨(sy _ _ _ _ _ _ _ _ h).up, fun ρ w args hr hf hro hgl hwf ha => ?_⟩, sy⟩
    simp only [runM] at h
    split at h
    · rename_i g hg
      split at h
      · rename_i hb
        exact (hmemo f as g hg H nx v H' nx' h hb).2 ro ρ w args hr hf hro hgl hwf ha
      · cases h
    · split at h
      · cases h
      · rename_i c hc
        obtain ⟨fn, h1, h2⟩ := hp f c hc
        exact callFn_sound ih1 ih2 hm h1 h2 h hro hr hf hgl hwf ha
def low (n : Nat) : AV → Bool
  | .bool _ | .int _ _ | .str _ | .nilp | .nils | .nilf | .nili => true
  | .ptr b _ => b.blt n
  | .ifc _ v => low n v
  | _ => false
def cut (ρ : RM) (n : Nat) : RM := fun b => if b < n then ρ b else none
theorem low_VR {ρ ρ' : RM} {n : Nat} (he : ∀ b, b < n → ρ' b = ρ b) : ∀ {a : AV} {v : Value}, low n a = true → VR ρ a v → VR ρ' a v := by
  intro a
  induction a using AV.rec (motive_2 := fun _ => True) with
  | ptr b o =>
    intro v h hv
    simp only [VR] at hv ⊢
    obtain ⟨l, h1, h2⟩ := hv
    exact ⟨l, by rw [he b (by simpa [low] using h)]; exact h1, h2⟩
  | ifc t x ih =>
    intro v h hv
    simp only [VR] at hv ⊢
    obtain ⟨y, h1, h2⟩ := hv
    exact ⟨y, h1, ih (by simpa [low] using h) h2⟩
  | bool => intro v h hv; simpa only [VR] using hv
  | int => intro v h hv; simpa only [VR] using hv
  | str => intro v h hv; simpa only [VR] using hv
  | nilp => intro v h hv; simpa only [VR] using hv
  | nils => intro v h hv; simpa only [VR] using hv
  | nilf => intro v h hv; simpa only [VR] using hv
  | nili => intro v h hv; simpa only [VR] using hv
  | sl => intro v h hv; cases h
  | fn => intro v h hv; cases h
  | agg => intro v h hv; cases h
  | tup => intro v h hv; cases h
  | nil => trivial
  | cons => trivial
def lowB (n : Nat) : Option Blk → Bool
  | none => true
  | some (.cells c m) => (List.range m).all fun i => match c.get i with | some a => low n a | none => false
  | some (.iter _ _) => true
def closed (B : Base) : Bool := (List.range B.nx0).all fun b => lowB B.nx0 (B.H0.get b)
theorem HR_cut {ρ : RM} {H : Tr Blk} {w : World} (hc : closed B = true) (hb : ∀ b, b < B.nx0 → H.get b = B.H0.get b) (hr : HR ρ H w) : HR (cut ρ B.nx0) B.H0 w := by
  refine ⟨fun b k l hk hl => ?_, fun b b' l l' h1 h2 e1 e2 e => ?_⟩
  · unfold cut at hl
    split at hl
    · rename_i hlt
      have h1 := hr.blk b k l (by rw [hb b hlt]; exact hk) hl
      have h2 := List.all_eq_true.1 hc b (List.mem_range.2 hlt)
      rw [hk] at h2
      cases k with
      | cells c n =>
        obtain ⟨cs, elem, fr, g1, g2, g3, g4, g5⟩ := h1
        refine ⟨cs, elem, fr, g1, g2, g3, g4, fun i hi => ?_⟩
        obtain ⟨a, v, q1, q2, q3⟩ := g5 i hi
        have h3 := List.all_eq_true.1 h2 i (List.mem_range.2 hi)
        simp only [q1] at h3
        exact ⟨a, v, q1, q2, low_VR (n := B.nx0) (fun b hb => by unfold cut; rw [if_pos hb]) h3 q3⟩
      | iter s p => exact h1
    · cases hl
  · unfold cut at e1 e2
    split at e1
    · rename_i g1
      split at e2
      · rename_i g2
        exact hr.inj b b' l l' (by rw [hb b g1]; exact h1) (by rw [hb b' g2]; exact h2) e1 e2 e
      · cases e2
    · cases e1
theorem memo_run (hc : closed B = true) (hwf : WF B.H0 B.nx0) {call : FuncId → List AV → Tr Blk → Nat → Nat → Out} (hcall : CallOK P gl call) (hgn : ∀ g, gl.contains g = true → g < B.nx0) {f : FuncId} {v : AV} (hv : low 0 v = true)
    (h : ∃ H' nx', call f [] B.H0 B.nx0 B.nx0 = some (v, H', nx')) (ρ : RM) (H : Tr Blk) (w : World) (args : Array Value) (hr : HR ρ H w) (hgl : GLok gl ρ) (hb : ∀ b, b < B.nx0 → H.get b = B.H0.get b) (ha : VRs ρ [] args.toList) :
    (∃ fn, P.funcs[f]? = some fn ∧ (fn.name == "runtime.NumGoroutine") = false ∧ fn.body.isSome = true) ∧ Calls P f args w (fun en w' => ∃ v', en = .returned v' ∧ VR ρ v v' ∧ Quiet w w') := by
  obtain ⟨H', nx', h⟩ := h
  obtain ⟨_, key⟩ := hcall _ _ _ _ _ _ _ _ h
  have ha' : VRs (cut ρ B.nx0) [] args.toList := by simpa only [VRs] using ha
  obtain ⟨e1, e2⟩ := key (cut ρ B.nx0) w args (HR_cut hc hb hr) (fun b h1 _ => by unfold cut; rw [if_neg (by omega)]) (Nat.le_refl _)
    (fun g hg => by obtain ⟨l, k1, k2⟩ := hgl g hg; exact ⟨l, by unfold cut; rw [if_pos (hgn g hg)]; exact k1, k2⟩) hwf ha'
  refine ⟨e1, e2.mono ?_⟩
  rintro en w' ⟨v', rfl, ρ', st, _, hv'⟩
  refine ⟨v', rfl, low_VR (n := 0) (fun b hb => by omega) hv hv', st.os, st.tape, st.output, st.size, fun x hx => st.keep x hx fun b l hbl _ _ => ?_⟩
  unfold cut at hbl
  split at hbl
  · assumption
  · cases hbl
end W
end Go.Vm
