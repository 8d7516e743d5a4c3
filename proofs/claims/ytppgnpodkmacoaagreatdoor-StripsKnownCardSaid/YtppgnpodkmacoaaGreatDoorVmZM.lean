/-
  Code, calls, and the machine's runs.
-/
import Derived.Test.YtppgnpodkmacoaaGreatDoorVmZL
import Derived.LoopN
set_option linter.unusedSimpArgs false
set_option linter.unusedVariables false

namespace Go.Vm
theorem iter_syn {f : St → Option (Ex × St)} {ro : Nat} (hf : ∀ tm H nx e tm' H' nx', f (tm, H, nx) = some (e, tm', H', nx') → Syn H nx ro H' nx') :
    ∀ (n : Nat) (tm : Tr AV) (H : Tr Blk) (nx : Nat) (e : Ex) (tm' : Tr AV) (H' : Tr Blk) (nx' : Nat), iter f n (tm, H, nx) = some (e, tm', H', nx') → Syn H nx ro H' nx'
  | 0, _, _, _, _, _, _, _, h => by cases h
  | n + 1, tm, H, nx, e, tm', H', nx', h => by
    unfold iter at h
    split at h
    · rename_i s1 h1
      obtain ⟨tm1, H1, nx1⟩ := s1
      have s := hf _ _ _ _ _ _ _ h1
      exact s.trans (iter_syn hf n _ _ _ _ _ _ _ h)
    · rename_i r hr
      exact hf _ _ _ _ _ _ _ h
theorem exec_syn {call : FuncId → List AV → Tr Blk → Nat → Nat → Out} (hsyn : SynOK call) {ro : Nat} : ∀ (c : CC) (tm : Tr AV) (H : Tr Blk) (nx : Nat) (e : Ex) (tm' : Tr AV) (H' : Tr Blk) (nx' : Nat),
    exec call ro c (tm, H, nx) = some (e, tm', H', nx') → Syn H nx ro H' nx'
  | .skip, tm, H, nx, e, tm', H', nx', h => by
    simp only [exec, Option.some.injEq, Prod.mk.injEq] at h
    obtain ⟨_, _, rfl, rfl⟩ := h
    exact Syn.refl _ _ _
  | .region ops, tm, H, nx, e, tm', H', nx', h => by
    simp only [exec] at h
    split at h
    · rename_i s1 h1
      simp only [Option.some.injEq, Prod.mk.injEq] at h
      obtain ⟨_, rfl⟩ := h
      exact runOps_syn hsyn ops _ _ _ _ _ _ h1
    · cases h
  | .seq a b, tm, H, nx, e, tm', H', nx', h => by
    simp only [exec] at h
    split at h
    · rename_i s1 h1
      obtain ⟨tm1, H1, nx1⟩ := s1
      have s := exec_syn hsyn a _ _ _ _ _ _ _ h1
      exact s.trans (exec_syn hsyn b _ _ _ _ _ _ _ h)
    · exact exec_syn hsyn a _ _ _ _ _ _ _ h
  | .cond c a b, tm, H, nx, e, tm', H', nx', h => by
    simp only [exec] at h
    split at h
    · exact exec_syn hsyn a _ _ _ _ _ _ _ h
    · exact exec_syn hsyn b _ _ _ _ _ _ _ h
    · cases h
  | .block id b, tm, H, nx, e, tm', H', nx', h => by
    simp only [exec] at h
    split at h
    · rename_i i s1 h1
      obtain ⟨tm1, H1, nx1⟩ := s1
      have s := exec_syn hsyn b _ _ _ _ _ _ _ h1
      rcases of_cond h with ⟨_, h⟩ | ⟨_, h⟩ <;> simp only [Option.some.injEq, Prod.mk.injEq] at h <;> obtain ⟨_, _, rfl, rfl⟩ := h <;> exact s
    · exact exec_syn hsyn b _ _ _ _ _ _ _ h
  | .loop b, tm, H, nx, e, tm', H', nx', h => by
    simp only [exec] at h
    exact iter_syn (fun tm H nx e tm' H' nx' => exec_syn hsyn b tm H nx e tm' H' nx') fuel _ _ _ _ _ _ _ h
  | .exit id, tm, H, nx, e, tm', H', nx', h => by
    simp only [exec, Option.some.injEq, Prod.mk.injEq] at h
    obtain ⟨_, _, rfl, rfl⟩ := h
    exact Syn.refl _ _ _
  | .ret, tm, H, nx, e, tm', H', nx', h => by
    simp only [exec, Option.some.injEq, Prod.mk.injEq] at h
    obtain ⟨_, _, rfl, rfl⟩ := h
    exact Syn.refl _ _ _
  | .bad, tm, H, nx, e, tm', H', nx', h => by cases h
def Ex.to : Ex → Exit
  | .normal => .normal
  | .exit id => .exit id
  | .ret => .ret
section
variable {P : Program} {gl : List Nat} {nt : Nat} {call : FuncId → List AV → Tr Blk → Nat → Nat → Out} {ro : Nat}
theorem Left.refl {ρ : RM} {tm : Tr AV} {H : Tr Blk} {nx : Nat} {a : Act} {w : World} (ht : TR ρ nt tm a) (hgl : GLok gl ρ) (hr : HR ρ H w) : Left gl nt ρ H nx ro w a tm H nx a w ρ :=
  ⟨Step.refl _ _ _ _ _, hr, ht, hgl, rfl⟩
theorem Left.trans {ρ ρ1 ρ2 : RM} {H H1 H2 : Tr Blk} {nx nx1 nx2 : Nat} {w w1 w2 : World} {a a1 a2 : Act} {tm1 tm2 : Tr AV} (s : Left gl nt ρ H nx ro w a tm1 H1 nx1 a1 w1 ρ1) (t : Left gl nt ρ1 H1 nx1 ro w1 a1 tm2 H2 nx2 a2 w2 ρ2) :
    Left gl nt ρ H nx ro w a tm2 H2 nx2 a2 w2 ρ2 := ⟨s.step.trans t.step, t.hr, t.tr, t.gl, t.dfr.trans s.dfr⟩
def CodeOK (P : Program) (gl : List Nat) (nt ro : Nat) (code : Code) (f : St → Option (Ex × St)) : Prop :=
  ∀ (tm : Tr AV) (H : Tr Blk) (nx : Nat) (e : Ex) (tm' : Tr AV) (H' : Tr Blk) (nx' : Nat), f (tm, H, nx) = some (e, tm', H', nx') → ro ≤ nx →
    ∀ (ρ : RM) (a : Act) (w : World) (Q : Exit → Act → World → Prop), TR ρ nt tm a → GLok gl ρ → HR ρ H w → Free ρ nx nx' → WF H nx →
      (∀ ρ' a' w', Left gl nt ρ H nx ro w a tm' H' nx' a' w' ρ' → Q e.to a' w') → code.wp P Q a w
theorem rounds_ok {code : Code} {f : St → Option (Ex × St)} (hsy : ∀ tm H nx e tm' H' nx', f (tm, H, nx) = some (e, tm', H', nx') → Syn H nx ro H' nx') (hf : CodeOK P gl nt ro code f) :
    ∀ (n : Nat) (tm : Tr AV) (H : Tr Blk) (nx : Nat) (e : Ex) (tm' : Tr AV) (H' : Tr Blk) (nx' : Nat), iter f n (tm, H, nx) = some (e, tm', H', nx') → ro ≤ nx →
      ∀ (ρ : RM) (a : Act) (w : World) (Q : Exit → Act → World → Prop), TR ρ nt tm a → GLok gl ρ → HR ρ H w → Free ρ nx nx' → WF H nx →
        (∀ ρ' a' w', Left gl nt ρ H nx ro w a tm' H' nx' a' w' ρ' → Q e.to a' w') → Code.rounds P code Q n a w
  | 0, _, _, _, _, _, _, _, h, _, _, _, _, _, _, _, _, _, _, _ => by cases h
  | n + 1, tm, H, nx, e, tm', H', nx', h, hro, ρ, a, w, Q, ht, hgl, hr, hfr, hwf, hQ => by
    rw [rounds_succ]
    unfold iter at h
    split at h
    · rename_i s1 h1
      obtain ⟨tm1, H1, nx1⟩ := s1
      have s := hsy _ _ _ _ _ _ _ h1
      have s2 := iter_syn hsy n _ _ _ _ _ _ _ h
      refine hf _ _ _ _ _ _ _ h1 hro ρ a w _ ht hgl hr (hfr.left s2.up) hwf fun ρ1 a1 w1 L => ?_
      refine rounds_ok hsy hf n _ _ _ _ _ _ _ h (Nat.le_trans hro s.up) ρ1 a1 w1 Q L.tr L.gl L.hr (L.step.free hfr) (s.wf hwf) fun ρ2 a2 w2 L2 => hQ _ _ _ (L.trans L2)
    · rename_i r hr'
      refine hf _ _ _ _ _ _ _ h hro ρ a w _ ht hgl hr hfr hwf fun ρ1 a1 w1 L => ?_
      cases e with
      | normal => exact absurd h (hr' _)
      | exit id => exact hQ _ _ _ L
      | ret => exact hQ _ _ _ L
theorem exec_sound (hcall : CallOK P gl call) (hsyn : SynOK call) (hm : P.follows .mixedOrders = true) : ∀ (code : Code) (c : CC), cc P gl nt code = some c → CodeOK P gl nt ro code (exec call ro c)
  | .skip, c, hc => by
    simp only [cc, Option.some.injEq] at hc
    subst hc
    intro tm H nx e tm' H' nx' h hro ρ a w Q ht hgl hr hf hwf hQ
    simp only [exec, Option.some.injEq, Prod.mk.injEq] at h
    obtain ⟨rfl, rfl, rfl, rfl⟩ := h
    exact wp_skip (hQ _ _ _ (Left.refl ht hgl hr))
  | .exit id, c, hc => by
    simp only [cc, Option.some.injEq] at hc
    subst hc
    intro tm H nx e tm' H' nx' h hro ρ a w Q ht hgl hr hf hwf hQ
    simp only [exec, Option.some.injEq, Prod.mk.injEq] at h
    obtain ⟨rfl, rfl, rfl, rfl⟩ := h
    exact wp_exit (hQ _ _ _ (Left.refl ht hgl hr))
  | .ret, c, hc => by
    simp only [cc, Option.some.injEq] at hc
    subst hc
    intro tm H nx e tm' H' nx' h hro ρ a w Q ht hgl hr hf hwf hQ
    simp only [exec, Option.some.injEq, Prod.mk.injEq] at h
    obtain ⟨rfl, rfl, rfl, rfl⟩ := h
    exact wp_ret (hQ _ _ _ (Left.refl ht hgl hr))
  | .region id ops d, c, hc => by
    intro tm H nx e tm' H' nx' h hro ρ a w Q ht hgl hr hf hwf hQ
    simp only [cc] at hc
    split at hc
    · rename_i cs hcs
      have go : ∀ l, c = .region l → runOps call ro l (tm, H, nx) = some (tm', H', nx') ∧ e = .normal := by
        rintro l rfl
        simp only [exec] at h
        split at h
        · rename_i s1 h1
          simp only [Option.some.injEq, Prod.mk.injEq] at h
          obtain ⟨rfl, rfl⟩ := h
          exact ⟨h1, rfl⟩
        · cases h
      cases d with
      | false =>
        simp only [Bool.false_eq_true, if_false, Option.some.injEq] at hc
        obtain ⟨h1, rfl⟩ := go cs hc.symm
        exact wp_region_list (ops_sound hcall hsyn _ _ hcs ρ tm H nx tm' H' nx' a w h1 ht hgl hr hf hro hwf fun ρ' a' w' L => hQ _ _ _ L)
      | true =>
        simp only [if_true] at hc
        split at hc
        · simp only [Option.map_eq_some_iff] at hc
          obtain ⟨ms, hd, rfl⟩ := hc
          obtain ⟨h1, rfl⟩ := go ms rfl
          exact drawn_sound hcall hsyn hm hcs hd h1 ht hgl hr hf hro hwf fun ρ' a' w' L => hQ _ _ _ L
        · rename_i i π _
          by_cases hπ : permB (i :: π) ops = true
          · rw [if_pos hπ] at hc
            split at hc
            · rename_i cs' hcs'
              simp only [Option.map_eq_some_iff] at hc
              obtain ⟨ms, hd, rfl⟩ := hc
              obtain ⟨h1, rfl⟩ := go ms rfl
              exact drawn_perm hcall hsyn hm hπ hcs' hd h1 ht hgl hr hf hro hwf fun ρ' a' w' L => hQ _ _ _ L
            · cases hc
          · rw [if_neg hπ] at hc
            cases hc
    · cases hc
  | .seq x y, c, hc => by
    simp only [cc] at hc
    split at hc
    · rename_i c1 c2 h1 h2
      cases hc
      have k1 := exec_sound hcall hsyn hm x c1 h1
      have k2 := exec_sound hcall hsyn hm y c2 h2
      intro tm H nx e tm' H' nx' h hro ρ a w Q ht hgl hr hf hwf hQ
      simp only [exec] at h
      refine wp_seq ?_
      split at h
      · rename_i s1 h1
        obtain ⟨tm1, H1, nx1⟩ := s1
        have s := exec_syn (ro := ro) hsyn c1 _ _ _ _ _ _ _ h1
        have s2 := exec_syn (ro := ro) hsyn c2 _ _ _ _ _ _ _ h
        refine k1 _ _ _ _ _ _ _ h1 hro ρ a w _ ht hgl hr (hf.left s2.up) hwf fun ρ1 a1 w1 L => ?_
        exact k2 _ _ _ _ _ _ _ h (Nat.le_trans hro s.up) ρ1 a1 w1 Q L.tr L.gl L.hr (L.step.free hf) (s.wf hwf) fun ρ2 a2 w2 L2 => hQ _ _ _ (L.trans L2)
      · rename_i r hr'
        refine k1 _ _ _ _ _ _ _ h hro ρ a w _ ht hgl hr hf hwf fun ρ1 a1 w1 L => ?_
        cases e with
        | normal => exact absurd h (hr' _)
        | exit id => exact hQ _ _ _ L
        | ret => exact hQ _ _ _ L
    · cases hc
  | .cond c0 x y, c, hc => by
    simp only [cc] at hc
    split at hc
    · rename_i cx c1 c2 h0 h1 h2
      cases hc
      have k1 := exec_sound hcall hsyn hm x c1 h1
      have k2 := exec_sound hcall hsyn hm y c2 h2
      intro tm H nx e tm' H' nx' h hro ρ a w Q ht hgl hr hf hwf hQ
      simp only [exec] at h
      have hv := opd_sound ht hgl c0 cx h0
      split at h
      · rename_i hq
        rw [hq] at hv
        simp only [VR] at hv
        exact wp_cond_true hv (k1 _ _ _ _ _ _ _ h hro ρ a w Q ht hgl hr hf hwf hQ)
      · rename_i hq
        rw [hq] at hv
        simp only [VR] at hv
        exact wp_cond_false hv (k2 _ _ _ _ _ _ _ h hro ρ a w Q ht hgl hr hf hwf hQ)
      · cases h
    · cases hc
  | .block id b, c, hc => by
    simp only [cc, Option.map_eq_some_iff] at hc
    obtain ⟨c1, h1, rfl⟩ := hc
    have k1 := exec_sound hcall hsyn hm b c1 h1
    intro tm H nx e tm' H' nx' h hro ρ a w Q ht hgl hr hf hwf hQ
    simp only [exec] at h
    refine wp_block ?_
    split at h
    · rename_i i s1 h2
      obtain ⟨tm1, H1, nx1⟩ := s1
      rcases of_cond h with ⟨hi, h⟩ | ⟨hi, h⟩ <;> simp only [Option.some.injEq, Prod.mk.injEq] at h <;> obtain ⟨rfl, rfl, rfl, rfl⟩ := h
      · refine k1 _ _ _ _ _ _ _ h2 hro ρ a w _ ht hgl hr hf hwf fun ρ1 a1 w1 L => ?_
        have : i = id := by simpa [beq_dec] using hi
        simp only [Ex.to, Exit.inBlock, this, if_true]
        exact hQ _ _ _ L
      · refine k1 _ _ _ _ _ _ _ h2 hro ρ a w _ ht hgl hr hf hwf fun ρ1 a1 w1 L => ?_
        have : i ≠ id := by simpa [beq_dec] using hi
        simp only [Ex.to, Exit.inBlock, this, if_false]
        exact hQ _ _ _ L
    · rename_i r hr'
      refine k1 _ _ _ _ _ _ _ h hro ρ a w _ ht hgl hr hf hwf fun ρ1 a1 w1 L => ?_
      cases e with
      | normal => exact hQ _ _ _ L
      | exit id => exact absurd h (hr' _ _)
      | ret => exact hQ _ _ _ L
  | .loop b, c, hc => by
    simp only [cc, Option.map_eq_some_iff] at hc
    obtain ⟨c1, h1, rfl⟩ := hc
    have k1 := exec_sound hcall hsyn hm b c1 h1
    intro tm H nx e tm' H' nx' h hro ρ a w Q ht hgl hr hf hwf hQ
    simp only [exec] at h
    exact wp_loop_rounds fuel (rounds_ok (fun tm H nx e tm' H' nx' => exec_syn hsyn c1 tm H nx e tm' H' nx') k1 fuel _ _ _ _ _ _ _ h hro ρ a w Q ht hgl hr hf hwf hQ)
  | .label _, c, hc => by
    simp only [cc, Option.some.injEq] at hc
    subst hc
    intro tm H nx e tm' H' nx' h
    cases h
  | .goto _, c, hc => by
    simp only [cc, Option.some.injEq] at hc
    subst hc
    intro tm H nx e tm' H' nx' h
    cases h
  | .rangeFunc _ _ _ _, c, hc => by
    simp only [cc, Option.some.injEq] at hc
    subst hc
    intro tm H nx e tm' H' nx' h
    cases h
  | .refuse _, c, hc => by
    simp only [cc, Option.some.injEq] at hc
    subst hc
    intro tm H nx e tm' H' nx' h
    cases h
  | .scope _, c, hc => by
    simp only [cc, Option.some.injEq] at hc
    subst hc
    intro tm H nx e tm' H' nx' h
    cases h
end
end Go.Vm
