/-
  The machine for the kernel: its operations do what the machine's do.
-/
import Derived.Test.YtgncjbodicabnaaDoorVmZV
set_option linter.unusedSimpArgs false
set_option linter.unusedVariables false

namespace Go.Vm
namespace Swift
open Quick (fN fN_eq opt opt_eq orO orO_eq fA fA_eq)
section
variable {φ : Type} {F : FK φ}

def JSIM (F : FK φ) (c : COp) (o : Op φ) : Prop := ∀ (r : Ops φ) (t : φ) (tm : Tr AV) (H : Tr Blk) (nx ro : Nat) (cl : Cl) (call : FuncId → List AV → Tr Blk → Nat → Nat → Out) (k : KN φ),
  FR F t tm → ClOK cl call → o r t H nx ro cl k = true → ∃ v H' nx' t', runJ call ro c tm H nx = some (v, H', nx') ∧ FR F t' (setO c.dst v tm) ∧ r t' H' nx' ro cl k = true

structure Fits (F : FK φ) (c : COp) : Prop where
  uses : ∀ n ∈ c.uses, n < F.cap
  dst : inB c.dst F.cap = true
  ex : ∀ n, Opd.t n ∈ c.ex → n < F.cap

theorem Fits.opd {c : COp} (h : Fits F c) {x : Opd} (hx : x ∈ c.j.i.opds) : ∀ n, x = .t n → n < F.cap := by
  rintro n rfl
  refine h.uses n ?_
  unfold COp.uses
  exact List.mem_append.2 (.inl (List.mem_filterMap.2 ⟨_, hx, rfl⟩))

theorem Fits.gt {c : COp} (h : Fits F c) {t : φ} {tm : Tr AV} (hr : FR F t tm) {x : Opd} (hx : x ∈ c.j.i.opds) : F.gt x t = getv tm x := hr.gt (h.opd hx)

theorem of_outM {o : Out} {k : KM} (h : outM o k = true) : ∃ v H nx, o = some (v, H, nx) ∧ k v H nx = true := by
  cases o with
  | none => cases h
  | some r => obtain ⟨v, H, nx⟩ := r; exact ⟨v, H, nx, rfl, h⟩

theorem of_pop {o : Option AV} {k : KV} (h : (match o with | some v => k v | none => false) = true) : ∃ v, o = some v ∧ k v = true := by
  cases o with
  | none => cases h
  | some v => exact ⟨v, rfl, h⟩

theorem o1_sim {c : COp} (h : Fits F c) {i : I} (hj : c.j = .p i) {f : AV → KV → Bool} {x : Opd} (hx : x ∈ i.opds) (hf : ∀ g k, f (g x) k = (match pop g i with | some v => k v | none => false)) : JSIM F c (o1 f (F.gt x) (F.dst c.dst)) := by
  intro r t tm H nx ro cl call k hr _ hk
  have hx' := h.gt hr (x := x) (by rw [hj]; exact hx)
  unfold o1 at hk
  rw [hx', hf (getv tm)] at hk
  obtain ⟨v, h1, h2⟩ := of_pop hk
  obtain ⟨t', h3, h4⟩ := hr.put h.dst v _ h2
  exact ⟨v, H, nx, t', by simp only [runJ, hj, h1], h4, h3⟩

theorem o2_sim {c : COp} (h : Fits F c) {i : I} (hj : c.j = .p i) {f : AV → AV → KV → Bool} {x y : Opd} (hx : x ∈ i.opds) (hy : y ∈ i.opds) (hf : ∀ g k, f (g x) (g y) k = (match pop g i with | some v => k v | none => false)) : JSIM F c (o2 f (F.gt x) (F.gt y) (F.dst c.dst)) := by
  intro r t tm H nx ro cl call k hr _ hk
  have hx' := h.gt hr (x := x) (by rw [hj]; exact hx)
  have hy' := h.gt hr (x := y) (by rw [hj]; exact hy)
  unfold o2 at hk
  rw [hx', hy', hf (getv tm)] at hk
  obtain ⟨v, h1, h2⟩ := of_pop hk
  obtain ⟨t', h3, h4⟩ := hr.put h.dst v _ h2
  exact ⟨v, H, nx, t', by simp only [runJ, hj, h1], h4, h3⟩

theorem denP_sim {c : COp} (h : Fits F c) {i : I} (hj : c.j = .p i) {o : Op φ} (ho : denP F i (F.dst c.dst) = some o) : JSIM F c o := by
  unfold denP at ho
  split at ho <;> first | (cases ho; done) | skip
  all_goals cases ho
  · exact o1_sim h hj (by simp [I.opds]) fun g k => fA_eq _ _
  · exact o2_sim h hj (by simp [I.opds]) (by simp [I.opds]) fun g k => binOf_eq _ _ _ _
  · exact o1_sim h hj (by simp [I.opds]) fun g k => vNot_eq k g _
  · exact o1_sim h hj (by simp [I.opds]) fun g k => vCvi_eq k g _ _
  · exact o1_sim h hj (by simp [I.opds]) fun g k => vFad0_eq k g _
  · exact o1_sim h hj (by simp [I.opds]) fun g k => vFad_eq k g _ _
  · exact o2_sim h hj (by simp [I.opds]) (by simp [I.opds]) fun g k => vIadA_eq k g _ _ _ _
  · exact o2_sim h hj (by simp [I.opds]) (by simp [I.opds]) fun g k => vIadS_eq k g _ _ _
  · exact o2_sim h hj (by simp [I.opds]) (by simp [I.opds]) fun g k => vIdxS_eq k g _ _
  · exact o1_sim h hj (by simp [I.opds]) fun g k => vExt_eq k g _ _
  · exact o1_sim h hj (by simp [I.opds]) fun g k => vLenS_eq k g _
  · exact o1_sim h hj (by simp [I.opds]) fun g k => vLen_eq k g _
  · exact o1_sim h hj (by simp [I.opds]) fun g k => fA_eq _ _
  · exact o2_sim h hj (by simp [I.opds]) (by simp [I.opds]) fun g k => vEqf_eq k g _ _ _ _ _
  · exact o2_sim h hj (by simp [I.opds]) (by simp [I.opds]) fun g k => vEqn_eq k g _ _ _ _

theorem exOk_congr {g g' : Opd → AV} {i : I} {ex : List Opd} (h1 : ∀ x ∈ i.opds, g x = g' x) (h2 : ∀ x ∈ ex, g x = g' x) : exOk g i ex = exOk g' i ex := by
  unfold exOk
  split
  · rename_i n x y
    rw [h1 x (by simp [I.opds])]
    split
    · have : ∀ l : List Opd, (∀ x ∈ l, g x = g' x) → ∀ b : Nat, (l.all fun y => match g y with | .ptr b' _ => !(b'.beq b) | _ => false) = (l.all fun y => match g' y with | .ptr b' _ => !(b'.beq b) | _ => false) := by
        intro l
        induction l with
        | nil => intro _ _; rfl
        | cons z l ih =>
          intro hl b
          simp only [List.all_cons]
          rw [hl z (by simp), ih (fun x hx => hl x (by simp [hx]))]
      exact this ex h2 _
    · rfl
  · rfl

theorem slow_sim {c : COp} (h : Fits F c) : JSIM F c (oSlow F.gt c (F.dst c.dst)) := by
  intro r t tm H nx ro cl call k hr _ hk
  unfold oSlow at hk
  rw [orO_eq] at hk
  have agx : ∀ x ∈ c.j.i.opds, F.gt x t = getv tm x := fun x hx => h.gt hr hx
  have hs : ∀ v H' nx', slowJ (fun x => F.gt x t) c H nx ro = some (v, H', nx') → runJ call ro c tm H nx = some (v, H', nx') := by
    intro v H' nx' hv
    unfold slowJ at hv
    unfold runJ
    cases hj : c.j with
    | p i =>
      rw [hj] at hv agx
      simp only at hv ⊢
      rw [pop_congr i agx] at hv
      exact hv
    | h i =>
      rw [hj] at hv agx
      simp only at hv ⊢
      obtain ⟨hq, hv⟩ := of_bif hv
      have hex : (c.ex.isEmpty || exOk (getv tm) i c.ex) = true := by
        rw [← hq, exOk_congr (g := fun x => F.gt x t) (i := i) agx fun x hx => hr.gt fun n hn => h.ex n (hn ▸ hx)]
      rw [hex]
      simp only [cond_true]
      rw [hop_congr i agx] at hv
      cases i <;> first | exact hv | (simp [hop, noCall, forceL_eq] at hv; done) | skip
      simp only [hop, noCall, forceL_eq] at hv
      split at hv <;> cases hv
  cases hv : slowJ (fun x => F.gt x t) c H nx ro with
  | none => rw [hv] at hk; cases hk
  | some w =>
    obtain ⟨v, H', nx'⟩ := w
    rw [hv] at hk
    obtain ⟨t', h3, h4⟩ := hr.put h.dst v _ hk
    exact ⟨v, H', nx', t', hs _ _ _ hv, h4, h3⟩
end
end Swift
end Go.Vm

