/-
  A closed call that the kernel runs.
-/
import Derived.Test.YtgncjbodicabnaaDoorVmZZ
import Derived.Test.YtgncjbodicabnaaDoorVmWG
set_option linter.unusedSimpArgs false
set_option linter.unusedVariables false

namespace Go.Vm
namespace W
open Swift
/-- The shallow code's functions, one by one. -/
def AllU (prog : Tr CFn) : List (Nat × Fu) → Prop
  | [] => True
  | x :: r => (∃ c, prog.get x.1 = some c ∧ denA c = x.2) ∧ AllU prog r
def ofU : List (Nat × Fu) → Tr Fu
  | [] => .e
  | x :: r => (ofU r).set x.1 x.2
theorem ofU_sim {prog : Tr CFn} : ∀ {l : List (Nat × Fu)}, AllU prog l → ∀ f u, (ofU l).get f = some u → ∃ c, prog.get f = some c ∧ u = denA c
  | [], _ => fun f c h => by simp [ofU, Tr.get] at h
  | x :: r, ⟨⟨c, h1, h2⟩, h3⟩ => fun f u h => by
    simp only [ofU, Tr.get_set] at h
    split at h
    · rename_i e
      cases h
      rw [e]; exact ⟨c, h1, h2.symm⟩
    · exact ofU_sim h3 f u h
noncomputable def isT : KM := fun v _ _ => eBool v fun b => b
theorem isT_eq {v : AV} {H : Tr Blk} {nx : Nat} (h : isT v H nx = true) : v = .bool true := by
  cases v <;> try (cases h; done)
  rename_i b
  change b = true at h
  rw [h]
theorem run_of_runS {prog : Tr CFn} {progS : Tr Fu} {l : List (Nat × Fu)} (he : progS = ofU l) (hl : AllU prog l) {n : Nat} {f : FuncId} {as : List AV} {H : Tr Blk} {nx ro : Nat} (h : runS progS n f as H nx ro isT = true) :
    ∃ H' nx', run prog n f as H nx ro = some (.bool true, H', nx') := by
  subst he
  have := runS_sim (ofU_sim hl) n f as H nx ro isT h
  obtain ⟨v, H', nx', h1, h2⟩ := of_outM this
  rw [isT_eq h2] at h1
  exact ⟨H', nx', h1⟩
end W
end Go.Vm

