/-
  The machine for the kernel: memory, calls, guards, regions.
-/
import Derived.Test.YtgncjbodicabnaaDoorVmZW
set_option linter.unusedSimpArgs false
set_option linter.unusedVariables false

namespace Go.Vm
namespace Swift
open Quick (fN fN_eq opt opt_eq orO orO_eq fA fA_eq)
section
variable {φ : Type} {F : FK φ}

theorem runJ_h {call : FuncId → List AV → Tr Blk → Nat → Nat → Out} {ro : Nat} {c : COp} {i : I} (hj : c.j = .h i) (hex : c.ex = []) (tm : Tr AV) (H : Tr Blk) (nx : Nat) :
    runJ call ro c tm H nx = hop call (bif c.q then nx else ro) (getv tm) H nx i := by
  simp [runJ, hj, hex]

theorem mem_sim {c : COp} (h : Fits F c) {i : I} (hj : c.j = .h i) (hex : c.ex = []) {t : φ} {tm : Tr AV} {H : Tr Blk} {nx ro : Nat} {cl : Cl} {call : FuncId → List AV → Tr Blk → Nat → Nat → Out} {k : KN φ} {r : Ops φ} (hr : FR F t tm)
    (hk : outM (hop call (bif c.q then nx else ro) (getv tm) H nx i) (fun v H nx => F.dst c.dst v t fun t => r t H nx ro cl k) = true) :
    ∃ v H' nx' t', runJ call ro c tm H nx = some (v, H', nx') ∧ FR F t' (setO c.dst v tm) ∧ r t' H' nx' ro cl k = true := by
  obtain ⟨v, H', nx', h1, h2⟩ := of_outM hk
  obtain ⟨t', h3, h4⟩ := hr.put h.dst v _ h2
  exact ⟨v, H', nx', t', by rw [runJ_h hj hex, h1], h4, h3⟩

theorem args_eq (xs : List (Gt φ)) (t : φ) (k : List AV → Bool) : args xs t k = k (xs.map fun x => x t) := by
  induction xs generalizing k with
  | nil => rfl
  | cons x xs ih =>
    show fA (x t) (fun a => args xs t fun l => k (a :: l)) = _
    rw [fA_eq, ih]
    rfl

theorem eFn_eq (v : AV) (k : FuncId → List AV → List AV → Bool) : eFn v k = (match v with | .fn (.func f) a b => k f a b | _ => false) := by
  cases v <;> try rfl
  rename_i f a b
  cases f <;> rfl

theorem denH_sim {c : COp} (h : Fits F c) {i : I} (hj : c.j = .h i) (hex : c.ex = []) {o : Op φ} (ho : denH F c.q i (F.dst c.dst) = some o) : JSIM F c o := by
  unfold denH at ho
  split at ho <;> first | (cases ho; done) | skip
  all_goals simp only [Option.some.injEq] at ho
  · rename_i x
    subst ho
    intro r t tm H nx ro cl call k hr _ hk
    unfold m1 at hk
    rw [h.gt hr (x := x) (by rw [hj]; simp [J.i, I.opds]), wLoad1_eq call (bif c.q then nx else ro)] at hk
    exact mem_sim h hj hex hr hk
  · rename_i n x
    subst ho
    intro r t tm H nx ro cl call k hr _ hk
    unfold m1 at hk
    rw [h.gt hr (x := x) (by rw [hj]; simp [J.i, I.opds]), wLoadN_eq call (bif c.q then nx else ro)] at hk
    exact mem_sim h hj hex hr hk
  · rename_i x
    subst ho
    intro r t tm H nx ro cl call k hr _ hk
    unfold m1 wBox at hk
    rw [h.gt hr (x := x) (by rw [hj]; simp [J.i, I.opds]), wNew_eq, Quick.cells1_eq] at hk
    exact mem_sim (i := .box x) h hj hex hr hk
  · rename_i l
    subst ho
    intro r t tm H nx ro cl call k hr _ hk
    unfold oAlloc at hk
    rw [wNew_eq] at hk
    exact mem_sim (i := .alloc l) h hj hex hr hk
  · rename_i f xs
    intro r t tm H nx ro cl call k hr hcl hk
    have hargs : (xs.map F.gt).map (fun x => x t) = xs.map (getv tm) := by
      rw [List.map_map]
      exact List.map_congr_left fun x hx => h.gt hr (by rw [hj]; exact hx)
    refine mem_sim (i := .call f xs) h hj hex (cl := cl) (call := call) (k := k) hr ?_
    simp only [hop, forceL_eq]
    cases hq : c.q with
    | true =>
      rw [hq] at ho
      simp only [cond_true] at ho ⊢
      subst ho
      unfold oCallQ at hk
      rw [args_eq, hargs] at hk
      exact hcl _ _ _ _ _ _ hk
    | false =>
      rw [hq] at ho
      simp only [cond_false] at ho ⊢
      subst ho
      unfold oCall at hk
      rw [args_eq, hargs] at hk
      exact hcl _ _ _ _ _ _ hk
  · rename_i f xs
    intro r t tm H nx ro cl call k hr hcl hk
    have hg : F.gt f t = getv tm f := h.gt hr (by rw [hj]; exact List.mem_cons_self ..)
    have hargs : (xs.map F.gt).map (fun x => x t) = xs.map (getv tm) := by
      rw [List.map_map]
      exact List.map_congr_left fun x hx => h.gt hr (by rw [hj]; exact List.mem_cons_of_mem _ hx)
    refine mem_sim (i := .calld f xs) h hj hex (cl := cl) (call := call) (k := k) hr ?_
    cases hq : c.q with
    | true =>
      rw [hq] at ho
      simp only [cond_true] at ho ⊢
      subst ho
      unfold oCallDQ at hk
      rw [eFn_eq, hg] at hk
      simp only [hop]
      split at hk
      · rename_i hf
        rw [args_eq, hargs] at hk
        rw [hf]
        simp only [forceL_eq]
        exact hcl _ _ _ _ _ _ hk
      · cases hk
    | false =>
      rw [hq] at ho
      simp only [cond_false] at ho ⊢
      subst ho
      unfold oCallD at hk
      rw [eFn_eq, hg] at hk
      simp only [hop]
      split at hk
      · rename_i hf
        rw [args_eq, hargs] at hk
        rw [hf]
        simp only [forceL_eq]
        exact hcl _ _ _ _ _ _ hk
      · cases hk


theorem store_sim {c : COp} (h : Fits F c) {n : Nat} {x y : Opd} (hj : c.j = .h (.store n x y)) (hex : c.ex = []) (hq : c.q = false) (hd : c.dst = none) : JSIM F c (oStore n (F.gt x) (F.gt y)) := by
  intro r t tm H nx ro cl call k hr _ hk
  unfold oStore at hk
  rw [h.gt hr (x := x) (by rw [hj]; simp [J.i, I.opds]), h.gt hr (x := y) (by rw [hj]; simp [J.i, I.opds]), wStore_eq call ro] at hk
  refine mem_sim h hj hex (call := call) hr ?_
  rw [hq, hd]
  exact hk

theorem denJ_sim {c : COp} (h : Fits F c) : JSIM F c (denJ F c) := by
  unfold denJ
  split
  · rename_i i hj
    cases ho : denP F i (F.dst c.dst) with
    | none => exact slow_sim h
    | some o => exact denP_sim h hj ho
  · rename_i i hj
    split
    · rename_i hex
      cases ho : denH F c.q i (F.dst c.dst) with
      | some o => exact denH_sim h hj hex ho
      | none =>
        simp only [Option.getD_none]
        split
        · rename_i n x y hq hd
          exact store_sim h hj hex hq hd
        · exact slow_sim h
    · exact slow_sim h

def VSIM (F : FK φ) (c : COp) (o : Op φ) : Prop := ∀ (r : Ops φ) (t : φ) (tm : Tr AV) (H : Tr Blk) (nx ro : Nat) (cl : Cl) (call : FuncId → List AV → Tr Blk → Nat → Nat → Out) (k : KN φ),
  FR F t tm → ClOK cl call → o r t H nx ro cl k = true → ∃ v H' nx' t', runV call ro c tm H nx = some (v, H', nx') ∧ FR F t' (setO c.dst v tm) ∧ r t' H' nx' ro cl k = true

theorem den1_sim (c : COp) : VSIM F c (den1 F c) := by
  intro r t tm H nx ro cl call k hr hcl hk
  unfold den1 at hk
  cases hb : (c.uses.all (fun n => n.blt F.cap) && (inB c.dst F.cap && c.ex.all (fun x => inB x.tmp? F.cap))) with
  | false => rw [hb] at hk; cases hk
  | true =>
    rw [hb] at hk
    simp only [cond_true] at hk
    simp only [Bool.and_eq_true] at hb
    have h : Fits F c := ⟨fun n hn => by have := List.all_eq_true.1 hb.1 n hn; simpa using this, hb.2.1, fun n hn => by
      have := List.all_eq_true.1 hb.2.2 _ hn
      simpa [Opd.tmp?, inB] using this⟩
    cases hg : c.guard with
    | none =>
      rw [hg] at hk
      obtain ⟨v, H', nx', t', h1, h2⟩ := denJ_sim h r t tm H nx ro cl call k hr hcl hk
      exact ⟨v, H', nx', t', by simp only [runV, hg, h1], h2⟩
    | some g =>
      obtain ⟨x, w⟩ := g
      rw [hg] at hk
      simp only at hk
      have hx : x < F.cap := h.uses x (by unfold COp.uses; rw [hg]; simp)
      have skip : (F.dst c.dst (.tup []) t fun t => r t H nx ro cl k) = true → runV call ro c tm H nx = some (.tup [], H, nx) → ∃ v H' nx' t', runV call ro c tm H nx = some (v, H', nx') ∧ FR F t' (setO c.dst v tm) ∧ r t' H' nx' ro cl k = true := by
        intro h1 h2
        obtain ⟨t', h3, h4⟩ := hr.put h.dst _ _ h1
        exact ⟨_, _, _, t', h2, h4, h3⟩
      have hv := hr.get hx
      unfold oGuard at hk
      rw [hv] at hk
      cases hq : getv tm (.t x)
      case bool b =>
        rw [hq] at hk
        change eB (eB w b (eB b false true)) _ _ = true at hk
        rw [eB_eq, eB_eq, eB_eq] at hk
        have hrun : runV call ro c tm H nx = (bif b == w then runJ call ro c tm H nx else some (.tup [], H, nx)) := by simp only [runV, hg, hq]
        have e1 : (bif w then b else bif b then false else true) = (b == w) := by cases b <;> cases w <;> rfl
        rw [e1] at hk
        cases hbw : (b == w) with
        | true =>
          rw [hbw] at hk hrun
          obtain ⟨v, H', nx', t', h1, h2⟩ := denJ_sim h r t tm H nx ro cl call k hr hcl hk
          exact ⟨v, H', nx', t', by rw [hrun]; exact h1, h2⟩
        | false =>
          rw [hbw] at hk hrun
          exact skip hk hrun
      all_goals
        rw [hq] at hk
        exact skip hk (by simp only [runV, hg, hq])

theorem denOps_sim : ∀ (l : List COp) (t : φ) (tm : Tr AV) (H : Tr Blk) (nx ro : Nat) (cl : Cl) (call : FuncId → List AV → Tr Blk → Nat → Nat → Out) (k : KN φ),
    FR F t tm → ClOK cl call → denOps F l t H nx ro cl k = true → ∃ tm' H' nx' t', runOps call ro l (tm, H, nx) = some (tm', H', nx') ∧ FR F t' tm' ∧ k t' H' nx' = true
  | [], t, tm, H, nx, ro, cl, call, k, hr, _, hk => ⟨tm, H, nx, t, rfl, hr, hk⟩
  | c :: l, t, tm, H, nx, ro, cl, call, k, hr, hcl, hk => by
    obtain ⟨v, H1, nx1, t1, h1, h2, h3⟩ := den1_sim c (denOps F l) t tm H nx ro cl call k hr hcl hk
    obtain ⟨tm', H', nx', t', h4, h5⟩ := denOps_sim l t1 _ H1 nx1 ro cl call k h2 hcl h3
    refine ⟨tm', H', nx', t', ?_, h5⟩
    simp only [runOps, h1]
    rw [← h4]
    cases c.dst with
    | none => rfl
    | some d => simp only [forceA_eq, Tr.setK_eq]; rfl
end
end Swift
end Go.Vm

