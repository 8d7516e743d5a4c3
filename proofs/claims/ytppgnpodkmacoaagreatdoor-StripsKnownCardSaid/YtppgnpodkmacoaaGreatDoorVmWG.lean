/-
  A law's call in the model, out of what the machine's text shows.
-/
import Derived.Test.YtppgnpodkmacoaaGreatDoorVmWF
set_option linter.unusedSimpArgs false
set_option linter.unusedVariables false

namespace Go.Vm
namespace W
open Go Go.RowKit
variable {P : Program} {gl : List Nat} {B : Base}
theorem calls_of_spec {memo : Memo} (hmemo : MemoOK P gl B memo) (hm : P.follows .mixedOrders = true) {prog : Tr CFn} (hp : ProgOK P gl prog) {n : Nat} (hwf : WF B.H0 B.nx0) {f : FuncId} {as : List AV}
    (hs : SpecQ B (runM B memo prog n) f as [] fun v N => v = .bool true ∧ N = []) {ρ : RM} {W : World} (hr : HR ρ B.H0 W) (hgl : GLok gl ρ) (hfree : ∀ b, B.nx0 ≤ b → ρ b = none) {args : Array Value} (ha : VRs ρ as args.toList) :
    Calls P f args W fun e W' => e = .returned (.bool true) ∧ Below W.heap.size W W' := by
  have hm1 : B.nx0 ≤ rx B.nx0 := Nat.le_max_left ..
  have hk : HK B (rx B.nx0) [] B.H0 (rx B.nx0) := ⟨hm1, Nat.max_le.2 ⟨Nat.le_refl _, Nat.le_max_right ..⟩, fun _ _ => rfl, (fun _ h => by cases h), List.nodup_nil⟩
  obtain ⟨v, N, H', nx', h1, _, rfl, _⟩ := hs (rx B.nx0) [] B.H0 (rx B.nx0) hk (fun _ h => by cases h)
  obtain ⟨_, key⟩ := (runM_ok hmemo hm hp n).1 _ _ _ _ _ _ _ _ h1
  refine (key ρ W args hr (fun b hb _ => hfree b (by omega)) (Nat.le_refl _) hgl (fun b hb => Nat.lt_of_lt_of_le (hwf b hb) hm1) ha).2.mono ?_
  rintro e W' ⟨v', rfl, ρ', st, _, hv⟩
  simp only [VR] at hv
  subst hv
  refine ⟨rfl, st.os, st.tape, st.output, st.size, fun x hx => st.keep x hx fun b l hb _ _ => ?_⟩
  apply Classical.byContradiction
  intro hn
  rw [hfree b (by omega)] at hb
  cases hb
theorem rho0_free {w : World} {G n : Nat} (h : G ≤ n) : ∀ b, n ≤ b → rho0 w G b = none := fun b hb => by
  unfold rho0
  rw [if_neg (by omega)]
theorem WF_ents : ∀ {es : List (Nat × List AV)} {n : Nat}, (es.all fun e => decide (e.1 < n)) = true → WF (ofEnts es) n := by
  intro es n h b hb
  obtain ⟨k, hk⟩ := Option.isSome_iff_exists.1 hb
  obtain ⟨l, h1, _⟩ := ofEnts_get hk
  simpa using List.all_eq_true.1 h _ h1
def memo1 (f : FuncId) : Memo := fun g as => match as with
  | [] => bif Nat.beq g f then some (fun H nx => some (.bool true, H, nx)) else none
  | _ => none
theorem memo1_ok (hc : closed B = true) (hwf : WF B.H0 B.nx0) {call : FuncId → List AV → Tr Blk → Nat → Nat → Out} (hcall : CallOK P gl call) (hgn : ∀ g, gl.contains g = true → g < B.nx0) {f : FuncId}
    (h : ∃ H' nx', call f [] B.H0 B.nx0 B.nx0 = some (.bool true, H', nx')) : MemoOK P gl B (memo1 f) := by
  intro g as k hv H nx v H' nx' hk hb
  unfold memo1 at hv
  split at hv
  · obtain ⟨e, hv2⟩ := of_bif hv
    rw [beq_dec, decide_eq_true_eq] at e
    clear hv
    subst e
    have hv2 := Option.some.inj hv2
    subst hv2
    simp only [Option.some.injEq, Prod.mk.injEq] at hk
    obtain ⟨rfl, rfl, rfl⟩ := hk
    refine ⟨fun ro => Syn.refl _ _ _, fun ro ρ w args hr _ _ hgl _ ha => ?_⟩
    obtain ⟨e1, e2⟩ := memo_run hc hwf hcall hgn rfl h ρ H w args hr hgl hb ha
    exact ⟨e1, e2.mono fun en w' ⟨v', h1, h2, h3⟩ => ⟨v', h1, ρ, h3.step, h3.hr hr, h2⟩⟩
  · cases hv
def memoOr (a b : Memo) : Memo := fun f as => match a f as with
  | some g => some g
  | none => b f as
theorem memoOr_ok {a b : Memo} (ha : MemoOK P gl B a) (hb : MemoOK P gl B b) : MemoOK P gl B (memoOr a b) := by
  intro f as g h
  unfold memoOr at h
  split at h
  · rename_i hg
    cases h
    exact ha f as g hg
  · exact hb f as g h
theorem memo_spec {memo : Memo} {prog : Tr CFn} {n : Nat} {f : FuncId} {as : List AV} {v : AV} (h : memo f as = some fun H nx => some (v, H, nx)) : SpecQ B (runM B memo prog (n + 1)) f as [] fun u N => u = v ∧ N = [] := by
  intro ro O H nx hk _
  refine ⟨v, [], H, nx, ?_, hk, rfl, rfl⟩
  simp only [runM, h]
  rw [if_pos hk.base]
theorem memo1_spec {f : FuncId} {prog : Tr CFn} {n : Nat} : SpecQ B (runM B (memo1 f) prog (n + 1)) f [] [] fun v N => v = .bool true ∧ N = [] := memo_spec (by simp [memo1])
theorem memo_specN {memo : Memo} {prog : Tr CFn} {n : Nat} {f : FuncId} {as : List AV} {V : Nat → AV} {l : List AV} (h : memo f as = some fun H nx => some (V nx, H.set nx (.cells (put l 0 .e) l.length), nx + 1)) :
    SpecQ B (runM B memo prog (n + 1)) f as [] fun u N => ∃ b, u = V b ∧ N = [⟨b, true, .cells l⟩] := by
  intro ro O H nx hk _
  refine ⟨V nx, [⟨nx, true, .cells l⟩], _, _, ?_, hk.cells l, nx, rfl, rfl⟩
  simp only [runM, h]
  rw [if_pos hk.base]
theorem memo_specO {memo : Memo} {prog : Tr CFn} {n : Nat} {f : FuncId} {as : List AV} {V : Nat → AV} (h : memo f as = some fun H nx => some (V nx, H, nx + 1)) :
    SpecQ B (runM B memo prog (n + 1)) f as [] fun u N => ∃ b, u = V b ∧ N = [] := by
  intro ro O H nx hk _
  have := hk.r1
  refine ⟨V nx, [], H, nx + 1, ?_, ⟨hk.r0, by omega, hk.base, fun e he => ?_, hk.nd⟩, nx, rfl, rfl⟩
  · simp only [runM, h]
    rw [if_pos hk.base]
  · obtain ⟨h1, h2⟩ := hk.ent e he
    exact ⟨by omega, h2⟩
theorem SpecQ_run {memo : Memo} {prog : Tr CFn} {n : Nat} {f : FuncId} {c : CFn} {as : List AV} {I : List (Nat × HB)} {R : AV → List Ent → Prop} (hf : prog.get f = some c) (hmm : memo f as = none) (hlen : as.length.ble c.nt = true)
    (h : ∀ ro O, Sub I O → W B (runM B memo prog n) ro c.body (frGo 0 as) O (RetQ c.res O R)) : SpecQ B (runM B memo prog (n + 1)) f as I R :=
  SpecQ_of (call := runM B memo prog n) hlen (fun H nx ro => by simp only [runM, hmm, hf]) h
def lkE : List (Nat × List AV) → Nat → Option (List AV)
  | [], _ => none
  | (g, l) :: r, n => bif Nat.beq g n then some l else lkE r n
theorem ofEnts_at : ∀ {es : List (Nat × List AV)} {g : Nat} {l : List AV}, lkE es g = some l → (ofEnts es).get g = some (.cells (put l 0 .e) l.length)
  | [], _, _, h => by cases h
  | (g', l') :: r, g, l, h => by
    simp only [lkE, beq_dec] at h
    simp only [ofEnts, Tr.get_set]
    by_cases e : g' = g
    · subst e
      simp only [decide_true, cond_true, Option.some.injEq] at h
      subst h
      rw [if_pos rfl]
    · simp only [e, decide_false, cond_false] at h
      rw [if_neg (fun h => e h.symm)]
      exact ofEnts_at h
theorem Glob_of {es : List (Nat × List AV)} (hB : B.H0 = ofEnts es) {g : Nat} {l : List AV} (hg : g < B.nx0) (hl : lkE es g = some l) : Glob B g l := by
  refine ⟨hg, put l 0 .e, by rw [hB]; exact ofEnts_at hl, fun i hi => ?_⟩
  rw [get_put, if_pos (by omega)]
  rfl
def AllK (P : Program) (gl : List Nat) : List (Nat × CFn) → Prop
  | [] => True
  | x :: r => (∃ fn, P.funcs[x.1]? = some fn ∧ cfn P gl fn = some x.2) ∧ AllK P gl r
def ofK : List (Nat × CFn) → Tr CFn
  | [] => .e
  | x :: r => (ofK r).set x.1 x.2
theorem progOK_of : ∀ {l : List (Nat × CFn)}, AllK P gl l → ProgOK P gl (ofK l)
  | [], _ => fun f c h => by simp [ofK, Tr.get] at h
  | x :: r, ⟨h1, h2⟩ => fun f c h => by
    simp only [ofK, Tr.get_set] at h
    split at h
    · rename_i e
      cases h
      rw [e]; exact h1
    · exact progOK_of h2 f c h
end W
end Go.Vm
