/-
  Knowledge of a frame and of memory, and how the machine's code leads from knowledge to knowledge.
-/
import Derived.Test.YtppgnpodkmacoaaGreatDoorVmZN
set_option linter.unusedSimpArgs false
set_option linter.unusedVariables false

namespace Go.Vm
namespace W
abbrev Fr := List (Nat × AV)
def lk : Fr → Nat → Option AV
  | [], _ => none
  | (k, v) :: r, n => bif Nat.beq k n then some v else lk r n
def gv (t : Fr) : Opd → Option AV
  | .t n => lk t n
  | .c v => some v
def gd (t : Fr) (x : Opd) : AV := (gv t x).getD (.tup [])
def FA (t : Fr) (tm : Tr AV) : Prop := ∀ n v, lk t n = some v → getv tm (.t n) = v
def setF : Option Nat → AV → Fr → Fr
  | none, _, t => t
  | some d, v, t => (d, v) :: t
def weakF : Fr → Fr → Prop
  | [], _ => True
  | (n, v) :: r, t => lk t n = some v ∧ weakF r t
def frGo : Nat → List AV → Fr
  | _, [] => []
  | n, a :: l => (n, a) :: frGo (n + 1) l
theorem FA.gv {t : Fr} {tm : Tr AV} (h : FA t tm) {x : Opd} {v : AV} (hx : gv t x = some v) : getv tm x = v := by
  cases x with
  | t n => exact h n v hx
  | c u => exact Option.some.inj hx
theorem FA.set {t : Fr} {tm : Tr AV} (h : FA t tm) (d : Option Nat) (v : AV) : FA (setF d v t) (setO d v tm) := by
  cases d with
  | none => exact h
  | some d =>
    intro n u hu
    simp only [setF, lk, beq_dec] at hu
    simp only [setO, getv_set]
    by_cases hn : n = d
    · subst hn; simpa using hu
    · rw [if_neg hn]
      have : decide (d = n) = false := by simp; omega
      rw [this] at hu
      exact h n u hu
theorem FA.weak {t : Fr} {tm : Tr AV} (h : FA t tm) : ∀ {t' : Fr}, weakF t' t → FA t' tm
  | [], _ => fun n v hv => by simp [lk] at hv
  | (k, u) :: r, hw => fun n v hv => by
    simp only [lk, beq_dec] at hv
    by_cases hk : k = n
    · subst hk
      simp only [decide_true, cond_true, Option.some.injEq] at hv
      subst hv
      exact h _ _ hw.1
    · simp only [hk, decide_false, cond_false] at hv
      exact FA.weak h hw.2 n v hv
theorem lk_frGo : ∀ (as : List AV) (i n : Nat), lk (frGo i as) n = if n < i then none else as[n - i]?
  | [], i, n => by simp [frGo, lk]
  | a :: as, i, n => by
    simp only [frGo, lk, beq_dec]
    by_cases h : i = n
    · subst h; simp
    · simp only [h, decide_false, cond_false]
      rw [lk_frGo as (i + 1) n]
      by_cases h2 : n < i
      · rw [if_pos (by omega), if_pos h2]
      · rw [if_neg (by omega), if_neg h2, show n - i = n - (i + 1) + 1 by omega]
        rfl
theorem FA.args (as : List AV) : FA (frGo 0 as) (put as 0 .e) := by
  intro n v hv
  rw [lk_frGo] at hv
  simp only [Nat.not_lt_zero, if_false, Nat.sub_zero] at hv
  obtain ⟨hn, hv⟩ := List.getElem?_eq_some_iff.1 hv
  simp [getv, get_put, hn, hv]
inductive HB where
  | cells (l : List AV)
  | iter (s : List Nat) (pos : Nat)
def HB.At (H : Tr Blk) (b : Nat) : HB → Prop
  | .cells l => ∃ c, H.get b = some (.cells c l.length) ∧ ∀ i, i < l.length → c.get i = l[i]?
  | .iter s pos => H.get b = some (.iter s pos)
theorem HB.At.congr {H H' : Tr Blk} {b : Nat} (e : H'.get b = H.get b) : ∀ {c : HB}, c.At H b → c.At H' b
  | .cells l, ⟨c, h1, h2⟩ => ⟨c, e.trans h1, h2⟩
  | .iter _ _, h => e.trans h
structure Ent where
  b : Nat
  w : Bool
  c : HB
structure Base where
  H0 : Tr Blk
  nx0 : Nat
variable {B : Base} {call : FuncId → List AV → Tr Blk → Nat → Nat → Out} {ro : Nat}
structure HK (B : Base) (ro : Nat) (O : List Ent) (H : Tr Blk) (nx : Nat) : Prop where
  r0 : B.nx0 ≤ ro
  r1 : rx ro ≤ nx
  base : ∀ b, b < B.nx0 → H.get b = B.H0.get b
  ent : ∀ e ∈ O, e.b < nx ∧ (e.w = true → rx ro ≤ e.b) ∧ e.c.At H e.b
  nd : (O.map Ent.b).Nodup
inductive Has : List Ent → Nat → HB → Prop where
  | here {b w c O} : Has (⟨b, w, c⟩ :: O) b c
  | there {e b c O} : Has O b c → Has (e :: O) b c
theorem Has.mem {O : List Ent} {b : Nat} {c : HB} (h : Has O b c) : ∃ w, (⟨b, w, c⟩ : Ent) ∈ O := by
  induction h with
  | here => exact ⟨_, List.mem_cons_self ..⟩
  | there _ ih => obtain ⟨w, h⟩ := ih; exact ⟨w, List.mem_cons_of_mem _ h⟩
theorem Has.of_mem {O : List Ent} {b : Nat} {w : Bool} {c : HB} (h : (⟨b, w, c⟩ : Ent) ∈ O) : Has O b c := by
  induction O with
  | nil => cases h
  | cons e O ih =>
    rcases List.mem_cons.1 h with h | h
    · subst h; exact .here
    · exact .there (ih h)
inductive Upd : List Ent → Nat → HB → HB → List Ent → Prop where
  | here {b c c' O} : Upd (⟨b, true, c⟩ :: O) b c c' (⟨b, true, c'⟩ :: O)
  | there {e b c c' O O'} : Upd O b c c' O' → Upd (e :: O) b c c' (e :: O')
inductive Del : List Ent → Nat → HB → List Ent → Prop where
  | here {b c O} : Del (⟨b, true, c⟩ :: O) b c O
  | there {e b c O O'} : Del O b c O' → Del (e :: O) b c (e :: O')
def Sub (I : List (Nat × HB)) (O : List Ent) : Prop := ∀ e ∈ I, Has O e.1 e.2
theorem Sub.nil {O : List Ent} : Sub [] O := fun _ h => by cases h
theorem Sub.cons {O : List Ent} {b : Nat} {c : HB} {I : List (Nat × HB)} (h : Has O b c) (k : Sub I O) : Sub ((b, c) :: I) O := by
  intro e he
  rcases List.mem_cons.1 he with h1 | h1
  · subst h1; exact h
  · exact k e h1
section HKlaws
variable {O : List Ent} {H : Tr Blk} {nx : Nat}
theorem HK.at (h : HK B ro O H nx) {b : Nat} {c : HB} (hb : Has O b c) : b < nx ∧ c.At H b := by
  obtain ⟨w, hm⟩ := hb.mem
  have := h.ent _ hm
  exact ⟨this.1, this.2.2⟩
theorem HK.sub (h : HK B ro O H nx) {O' : List Ent} (hs : O'.Sublist O) : HK B ro O' H nx :=
  ⟨h.r0, h.r1, h.base, fun e he => h.ent e (hs.subset he), h.nd.sublist (hs.map _)⟩
theorem HK.fresh (h : HK B ro O H nx) : nx ∉ O.map Ent.b := by
  intro hm
  obtain ⟨e, he, rfl⟩ := List.mem_map.1 hm
  have := (h.ent e he).1
  omega
theorem At_new {l : List AV} : ∃ c, (H.set nx (.cells (put l 0 .e) l.length)).get nx = some (.cells c l.length) ∧ ∀ i, i < l.length → c.get i = l[i]? := by
  refine ⟨_, by rw [Tr.get_set, if_pos rfl], fun i hi => ?_⟩
  rw [get_put, if_pos (by omega)]
  rfl
theorem HK.new (h : HK B ro O H nx) (k : Blk) (c : HB) (hc : c.At (H.set nx k) nx) : HK B ro (⟨nx, true, c⟩ :: O) (H.set nx k) (nx + 1) := by
  have h1 := h.r1
  have h0 := h.r0
  have h2 := le_rx h1
  refine ⟨h0, by omega, ?_, ?_, ?_⟩
  · intro b hb
    rw [Tr.get_set, if_neg (by omega), h.base b hb]
  · intro e he
    rcases List.mem_cons.1 he with rfl | he
    · exact ⟨by simp, fun _ => h1, hc⟩
    · obtain ⟨e1, e2, e3⟩ := h.ent e he
      exact ⟨by omega, e2, e3.congr (by rw [Tr.get_set, if_neg (by omega)])⟩
  · simp only [List.map_cons, List.nodup_cons]
    exact ⟨h.fresh, h.nd⟩
theorem HK.cells (h : HK B ro O H nx) (l : List AV) : HK B ro (⟨nx, true, .cells l⟩ :: O) (H.set nx (.cells (put l 0 .e) l.length)) (nx + 1) :=
  h.new _ _ At_new
theorem Upd.keep {O' : List Ent} {b : Nat} {c c' : HB} (u : Upd O b c c' O') : O'.map Ent.b = O.map Ent.b ∧ (⟨b, true, c⟩ : Ent) ∈ O ∧ ∀ e ∈ O', e = ⟨b, true, c'⟩ ∨ e ∈ O := by
  induction u with
  | here => exact ⟨rfl, List.mem_cons_self .., fun e he => by rcases List.mem_cons.1 he with h | h; exact .inl h; exact .inr (List.mem_cons_of_mem _ h)⟩
  | there _ ih =>
    refine ⟨by simp [ih.1], List.mem_cons_of_mem _ ih.2.1, fun e he => ?_⟩
    rcases List.mem_cons.1 he with h | h
    · exact .inr (h ▸ List.mem_cons_self ..)
    · rcases ih.2.2 e h with h | h
      · exact .inl h
      · exact .inr (List.mem_cons_of_mem _ h)
theorem mem_b {e e' : Ent} (hn : (O.map Ent.b).Nodup) (h : e ∈ O) (h' : e' ∈ O) (hb : e.b = e'.b) : e = e' := by
  induction O with
  | nil => cases h
  | cons x O ih =>
    simp only [List.map_cons, List.nodup_cons] at hn
    rcases List.mem_cons.1 h with h1 | h1 <;> rcases List.mem_cons.1 h' with h2 | h2
    · rw [h1, h2]
    · subst h1; exact absurd (List.mem_map.2 ⟨e', h2, hb.symm⟩) hn.1
    · subst h2; exact absurd (List.mem_map.2 ⟨e, h1, hb⟩) hn.1
    · exact ih hn.2 h1 h2
theorem Upd.mem {O' : List Ent} {b : Nat} {c c' : HB} (u : Upd O b c c' O') : (⟨b, true, c'⟩ : Ent) ∈ O' := by
  induction u with
  | here => exact List.mem_cons_self ..
  | there _ ih => exact List.mem_cons_of_mem _ ih
theorem HK.upd (h : HK B ro O H nx) {O' : List Ent} {b : Nat} {c c' : HB} (u : Upd O b c c' O') (k : Blk) (hc : c'.At (H.set b k) b) : HK B ro O' (H.set b k) nx := by
  obtain ⟨k1, k2, k3⟩ := u.keep
  obtain ⟨b1, b2, b3⟩ := h.ent _ k2
  have b2 := b2 rfl
  simp only at b1 b2 b3
  have h0 := h.r0
  have h9 := le_rx b2
  refine ⟨h0, h.r1, ?_, ?_, by rw [k1]; exact h.nd⟩
  · intro x hx
    rw [Tr.get_set, if_neg (by omega), h.base x hx]
  · intro e he
    by_cases eb : e.b = b
    · have : e = ⟨b, true, c'⟩ := by
        have hn : (O'.map Ent.b).Nodup := by rw [k1]; exact h.nd
        refine mem_b hn he ?_ eb
        exact u.mem
      subst this
      exact ⟨b1, fun _ => b2, hc⟩
    · rcases k3 e he with h2 | h2
      · subst h2; exact absurd rfl eb
      · obtain ⟨e1, e2, e3⟩ := h.ent e h2
        exact ⟨e1, e2, e3.congr (by rw [Tr.get_set, if_neg eb])⟩
theorem Del.keep {O' : List Ent} {b : Nat} {c : HB} (u : Del O b c O') : O'.Sublist O ∧ (⟨b, true, c⟩ : Ent) ∈ O := by
  induction u with
  | here => exact ⟨List.sublist_cons_self .., List.mem_cons_self ..⟩
  | there _ ih => exact ⟨ih.1.cons_cons _, List.mem_cons_of_mem _ ih.2⟩
theorem Del.notin {O' : List Ent} {b : Nat} {c : HB} (u : Del O b c O') (hn : (O.map Ent.b).Nodup) : ∀ e ∈ O', e.b ≠ b := by
  induction u with
  | here =>
    simp only [List.map_cons, List.nodup_cons] at hn
    intro e he eb
    exact hn.1 (List.mem_map.2 ⟨e, he, eb⟩)
  | there u ih =>
    simp only [List.map_cons, List.nodup_cons] at hn
    intro e he
    rcases List.mem_cons.1 he with h | h
    · subst h
      intro eb
      exact hn.1 (List.mem_map.2 ⟨_, u.keep.2, eb.symm⟩)
    · exact ih hn.2 e h
theorem HK.del (h : HK B ro O H nx) {O' : List Ent} {b : Nat} {c : HB} (u : Del O b c O') : HK B ro O' (H.del b) nx := by
  obtain ⟨k1, k2⟩ := u.keep
  obtain ⟨b1, b2, b3⟩ := h.ent _ k2
  have b2 := b2 rfl
  simp only at b1 b2 b3
  have h0 := h.r0
  have h9 := le_rx b2
  refine ⟨h0, h.r1, ?_, ?_, h.nd.sublist (k1.map _)⟩
  · intro x hx
    rw [Tr.get_del, if_neg (by omega), h.base x hx]
  · intro e he
    have hne := u.notin h.nd e he
    obtain ⟨e1, e2, e3⟩ := h.ent e (k1.subset he)
    exact ⟨e1, e2, e3.congr (by rw [Tr.get_del, if_neg hne])⟩
def unw (e : Ent) : Ent := ⟨e.b, false, e.c⟩
theorem HK.quiet (h : HK B ro O H nx) : HK B nx (O.map unw) H nx := by
  have := h.r0; have := le_rx h.r1
  refine ⟨by omega, Nat.max_le.2 ⟨Nat.le_refl _, this.2⟩, h.base, ?_, ?_⟩
  · intro e he
    obtain ⟨e', he', rfl⟩ := List.mem_map.1 he
    obtain ⟨h1, h2, h3⟩ := h.ent e' he'
    refine ⟨h1, fun hw => ?_, h3⟩
    cases hw
  · rw [List.map_map]; exact h.nd
theorem Has.quiet {b : Nat} {c : HB} (h : Has O b c) : Has (O.map unw) b c := by
  induction h with
  | here => exact .here
  | there _ ih => exact .there ih
theorem HK.unquiet (h : HK B ro O H nx) {N : List Ent} {H' : Tr Blk} {nx' : Nat} (h' : HK B nx (N ++ O.map unw) H' nx') : HK B ro (N ++ O) H' nx' := by
  have q0 := h.r0; have q1 := h.r1; have q2 := (le_rx h'.r1).1
  refine ⟨q0, by omega, h'.base, ?_, ?_⟩
  · intro e he
    rcases List.mem_append.1 he with he | he
    · obtain ⟨h1, h2, h3⟩ := h'.ent e (List.mem_append.2 (.inl he))
      exact ⟨h1, fun hw => by have := (le_rx (h2 hw)).1; omega, h3⟩
    · obtain ⟨h1, _, h3⟩ := h'.ent (unw e) (List.mem_append.2 (.inr (List.mem_map.2 ⟨e, he, rfl⟩)))
      exact ⟨h1, (h.ent e he).2.1, h3⟩
  · have := h'.nd
    rw [List.map_append, List.map_map] at this
    rw [List.map_append]
    exact this
end HKlaws
def SpecQ (B : Base) (call : FuncId → List AV → Tr Blk → Nat → Nat → Out) (f : FuncId) (as : List AV) (I : List (Nat × HB)) (R : AV → List Ent → Prop) : Prop :=
  ∀ ro O H nx, HK B ro O H nx → Sub I O → ∃ v N H' nx', call f as H nx ro = some (v, H', nx') ∧ HK B ro (N ++ O) H' nx' ∧ R v N
theorem SpecQ.quiet {f : FuncId} {as : List AV} {I : List (Nat × HB)} {R : AV → List Ent → Prop} (h : SpecQ B call f as I R) {O : List Ent} {H : Tr Blk} {nx : Nat} (hk : HK B ro O H nx) (hs : Sub I O) :
    ∃ v N H' nx', call f as H nx nx = some (v, H', nx') ∧ HK B ro (N ++ O) H' nx' ∧ R v N := by
  obtain ⟨v, N, H', nx', h1, h2, h3⟩ := h nx (O.map unw) H nx hk.quiet fun e he => (hs e he).quiet
  exact ⟨v, N, H', nx', h1, hk.unquiet h2, h3⟩
theorem SpecQ.mono {f : FuncId} {as : List AV} {I : List (Nat × HB)} {R R' : AV → List Ent → Prop} (h : SpecQ B call f as I R) (hr : ∀ v N, R v N → R' v N) : SpecQ B call f as I R' := fun ro O H nx hk hs =>
  let ⟨v, N, H', nx', h1, h2, h3⟩ := h ro O H nx hk hs
  ⟨v, N, H', nx', h1, h2, hr _ _ h3⟩
def WO (B : Base) (call : FuncId → List AV → Tr Blk → Nat → Nat → Out) (ro : Nat) (ops : List COp) (t : Fr) (O : List Ent) (K : Fr → List Ent → Prop) : Prop :=
  ∀ tm H nx, FA t tm → HK B ro O H nx → ∃ tm' H' nx' t' O', runOps call ro ops (tm, H, nx) = some (tm', H', nx') ∧ FA t' tm' ∧ HK B ro O' H' nx' ∧ K t' O'
def W (B : Base) (call : FuncId → List AV → Tr Blk → Nat → Nat → Out) (ro : Nat) (c : CC) (t : Fr) (O : List Ent) (Q : Ex → Fr → List Ent → Prop) : Prop :=
  ∀ tm H nx, FA t tm → HK B ro O H nx → ∃ e tm' H' nx' t' O', exec call ro c (tm, H, nx) = some (e, tm', H', nx') ∧ FA t' tm' ∧ HK B ro O' H' nx' ∧ Q e t' O'
section rules
variable {t : Fr} {O : List Ent} {K : Fr → List Ent → Prop} {Q : Ex → Fr → List Ent → Prop}
theorem WO_nil (h : K t O) : WO B call ro [] t O K := fun tm H nx ht hk => ⟨tm, H, nx, t, O, rfl, ht, hk, h⟩
theorem WO_step {o : COp} {r : List COp} (h : ∀ tm H nx, FA t tm → HK B ro O H nx → ∃ v H' nx' O', runV call ro o tm H nx = some (v, H', nx') ∧ HK B ro O' H' nx' ∧ WO B call ro r (setF o.dst v t) O' K) :
    WO B call ro (o :: r) t O K := by
  intro tm H nx ht hk
  obtain ⟨v, H1, nx1, O1, h1, h2, h3⟩ := h tm H nx ht hk
  obtain ⟨tm', H', nx', t', O', h4, h5⟩ := h3 (setO o.dst v tm) H1 nx1 (ht.set o.dst v) h2
  refine ⟨tm', H', nx', t', O', ?_, h5⟩
  simp only [runOps, h1]
  rw [← h4]
  cases o.dst with
  | none => rfl
  | some d => simp only [forceA_eq, Tr.setK_eq]; rfl
theorem W_region {ops : List COp} (h : WO B call ro ops t O (Q .normal)) : W B call ro (.region ops) t O Q := fun tm H nx ht hk =>
  let ⟨tm', H', nx', t', O', h1, h2⟩ := h tm H nx ht hk
  ⟨.normal, tm', H', nx', t', O', by simp only [exec, h1], h2⟩
def thenC (B : Base) (call : FuncId → List AV → Tr Blk → Nat → Nat → Out) (ro : Nat) (b : CC) (Q : Ex → Fr → List Ent → Prop) : Ex → Fr → List Ent → Prop
  | .normal => fun t O => W B call ro b t O Q
  | e => Q e
theorem W_seq {a b : CC} (h : W B call ro a t O (thenC B call ro b Q)) : W B call ro (.seq a b) t O Q := by
  intro tm H nx ht hk
  obtain ⟨e, tm1, H1, nx1, t1, O1, h1, h2, h3, h4⟩ := h tm H nx ht hk
  cases e with
  | normal =>
    obtain ⟨e, tm', H', nx', t', O', h5, h6⟩ := h4 tm1 H1 nx1 h2 h3
    exact ⟨e, tm', H', nx', t', O', by simp only [exec, h1, h5], h6⟩
  | exit i => exact ⟨_, tm1, H1, nx1, t1, O1, by simp only [exec, h1], h2, h3, h4⟩
  | ret => exact ⟨_, tm1, H1, nx1, t1, O1, by simp only [exec, h1], h2, h3, h4⟩
theorem W_skip (h : Q .normal t O) : W B call ro .skip t O Q := fun tm H nx ht hk => ⟨.normal, tm, H, nx, t, O, rfl, ht, hk, h⟩
theorem W_ret (h : Q .ret t O) : W B call ro .ret t O Q := fun tm H nx ht hk => ⟨.ret, tm, H, nx, t, O, rfl, ht, hk, h⟩
theorem W_exit {i : Nat} (h : Q (.exit i) t O) : W B call ro (.exit i) t O Q := fun tm H nx ht hk => ⟨.exit i, tm, H, nx, t, O, rfl, ht, hk, h⟩
theorem W_if {c : Opd} {a b : CC} {x : Bool} (hx : gv t c = some (.bool x)) (h1 : x = true → W B call ro a t O Q) (h2 : x = false → W B call ro b t O Q) : W B call ro (.cond c a b) t O Q := by
  intro tm H nx ht hk
  have hv := ht.gv hx
  simp only [exec, hv]
  cases x with
  | true => exact h1 rfl tm H nx ht hk
  | false => exact h2 rfl tm H nx ht hk
theorem W_if_dec {c : Opd} {a b : CC} {p : Prop} [Decidable p] (hx : gv t c = some (.bool (decide p))) (h1 : p → W B call ro a t O Q) (h2 : ¬ p → W B call ro b t O Q) : W B call ro (.cond c a b) t O Q :=
  W_if hx (fun h => h1 (of_decide_eq_true h)) (fun h => h2 (of_decide_eq_false h))
theorem W_if_t {c : Opd} {a b : CC} (hx : gv t c = some (.bool true)) (h1 : W B call ro a t O Q) : W B call ro (.cond c a b) t O Q :=
  W_if hx (fun _ => h1) (fun h => by cases h)
theorem W_if_f {c : Opd} {a b : CC} (hx : gv t c = some (.bool false)) (h1 : W B call ro b t O Q) : W B call ro (.cond c a b) t O Q :=
  W_if hx (fun h => by cases h) (fun _ => h1)
def blockC (id : Nat) (Q : Ex → Fr → List Ent → Prop) : Ex → Fr → List Ent → Prop
  | .exit i => bif i.beq id then Q .normal else Q (.exit i)
  | e => Q e
theorem W_block {id : Nat} {b : CC} (h : W B call ro b t O (blockC id Q)) : W B call ro (.block id b) t O Q := by
  intro tm H nx ht hk
  obtain ⟨e, tm1, H1, nx1, t1, O1, h1, h2, h3, h4⟩ := h tm H nx ht hk
  cases e with
  | normal => exact ⟨_, tm1, H1, nx1, t1, O1, by simp only [exec, h1], h2, h3, h4⟩
  | ret => exact ⟨_, tm1, H1, nx1, t1, O1, by simp only [exec, h1], h2, h3, h4⟩
  | exit i =>
    simp only [blockC] at h4
    simp only [exec, h1]
    cases hi : i.beq id with
    | true => rw [hi] at h4; exact ⟨_, tm1, H1, nx1, t1, O1, rfl, h2, h3, h4⟩
    | false => rw [hi] at h4; exact ⟨_, tm1, H1, nx1, t1, O1, rfl, h2, h3, h4⟩
theorem W_weak {c : CC} {t' : Fr} {O' : List Ent} (hF : weakF t' t) (hO : O'.Sublist O) (h : W B call ro c t' O' Q) : W B call ro c t O Q := fun tm H nx ht hk =>
  h tm H nx (ht.weak hF) (hk.sub hO)
theorem W_mono {c : CC} {Q' : Ex → Fr → List Ent → Prop} (h : W B call ro c t O Q) (hq : ∀ e t O, Q e t O → Q' e t O) : W B call ro c t O Q' := fun tm H nx ht hk =>
  let ⟨e, tm', H', nx', t', O', h1, h2, h3, h4⟩ := h tm H nx ht hk
  ⟨e, tm', H', nx', t', O', h1, h2, h3, hq _ _ _ h4⟩
theorem W_join {σ : Type} (T : σ → Fr) (G : σ → List Ent) (I : σ → Prop) {a b : CC}
    (h1 : W B call ro a t O fun e t O => match e with | .normal => ∃ s, weakF (T s) t ∧ (G s).Sublist O ∧ I s | e => Q e t O)
    (h2 : ∀ s, I s → W B call ro b (T s) (G s) Q) : W B call ro (.seq a b) t O Q := by
  refine W_seq (W_mono h1 ?_)
  intro e t O h
  cases e with
  | normal =>
    obtain ⟨s, w1, w2, w3⟩ := h
    exact W_weak w1 w2 (h2 s w3)
  | exit i => exact h
  | ret => exact h
def again {σ : Type} (T : σ → Fr) (G : σ → List Ent) (I : σ → Prop) (m : σ → Nat) (n : Nat) (Q : Ex → Fr → List Ent → Prop) : Ex → Fr → List Ent → Prop
  | .normal => fun t O => ∃ s, weakF (T s) t ∧ (G s).Sublist O ∧ I s ∧ m s < n
  | e => Q e
theorem W_loop {σ : Type} (T : σ → Fr) (G : σ → List Ent) (I : σ → Prop) (m : σ → Nat) (s0 : σ) {b : CC}
    (hF : weakF (T s0) t) (hO : (G s0).Sublist O) (hI : I s0) (hm : m s0 < fuel)
    (step : ∀ s, I s → W B call ro b (T s) (G s) (again T G I m (m s) Q)) : W B call ro (.loop b) t O Q := by
  have key : ∀ (n : Nat) (s : σ), I s → m s < n → ∀ tm H nx, FA (T s) tm → HK B ro (G s) H nx → ∃ e tm' H' nx' t' O', iter (exec call ro b) n (tm, H, nx) = some (e, tm', H', nx') ∧ FA t' tm' ∧ HK B ro O' H' nx' ∧ Q e t' O' := by
    intro n
    induction n with
    | zero => intro s _ h; omega
    | succ n ih =>
      intro s hs hlt tm H nx ht hk
      obtain ⟨e, tm1, H1, nx1, t1, O1, h1, h2, h3, h4⟩ := step s hs tm H nx ht hk
      cases e with
      | normal =>
        obtain ⟨s', w1, w2, w3, w4⟩ := h4
        obtain ⟨e, tm', H', nx', t', O', h5, h6⟩ := ih s' w3 (by omega) tm1 H1 nx1 (h2.weak w1) (h3.sub w2)
        exact ⟨e, tm', H', nx', t', O', by simp only [iter, h1, h5], h6⟩
      | exit i => exact ⟨_, tm1, H1, nx1, t1, O1, by simp only [iter, h1], h2, h3, h4⟩
      | ret => exact ⟨_, tm1, H1, nx1, t1, O1, by simp only [iter, h1], h2, h3, h4⟩
  intro tm H nx ht hk
  simp only [exec]
  exact key fuel s0 hI hm tm H nx (ht.weak hF) (hk.sub hO)
end rules
def ldv (agg : Bool) (n o : Nat) (l : List AV) : Option AV := bif (o + n).ble l.length then mkv agg ((l.drop o).take n) else none
inductive ResV (t : Fr) (O : List Ent) : List CRes → List AV → Prop where
  | nil : ResV t O [] []
  | t {n v rs vs} : lk t n = some v → ResV t O rs vs → ResV t O (.t n :: rs) (v :: vs)
  | cell {a b o agg n l v rs vs} : lk t a = some (.ptr b o) → Has O b (.cells l) → ldv agg n o l = some v → ResV t O rs vs → ResV t O (.cell a agg n :: rs) (v :: vs)
def pack : List AV → AV
  | [v] => v
  | vs => .tup vs
def RetQ (res : List CRes) (O : List Ent) (R : AV → List Ent → Prop) : Ex → Fr → List Ent → Prop
  | .exit _ => fun _ _ => False
  | _ => fun t O' => ∃ vs N, ResV t O' res vs ∧ (N ++ O).Sublist O' ∧ R (pack vs) N
theorem RetQ_ret {res : List CRes} {O O' : List Ent} {R : AV → List Ent → Prop} {t : Fr} {vs : List AV} {N : List Ent} (h1 : ResV t O' res vs) (h3 : R (pack vs) N) (h2 : (N ++ O).Sublist O') : RetQ res O R .ret t O' := ⟨vs, N, h1, h2, h3⟩
theorem take_at {H : Tr Blk} {b : Nat} {c : Tr AV} {l : List AV} (h2 : ∀ i, i < l.length → c.get i = l[i]?) : ∀ (n o : Nat), o + n ≤ l.length → take c o n = some ((l.drop o).take n)
  | 0, o, _ => by simp [take]
  | n + 1, o, hle => by
    have h3 : o < l.length := by omega
    simp only [take, h2 o h3]
    rw [List.getElem?_eq_getElem h3]
    simp only
    rw [take_at (H := H) (b := b) h2 n (o + 1) (by omega)]
    simp only
    rw [List.drop_eq_getElem_cons h3, List.take_succ_cons]
theorem resvs_of {t : Fr} {O : List Ent} {tm : Tr AV} {H : Tr Blk} {nx : Nat} (ht : FA t tm) (hk : HK B ro O H nx) {rs : List CRes} {vs : List AV} (h : ResV t O rs vs) : resvs tm H rs = some vs := by
  induction h with
  | nil => rfl
  | t hn _ ih =>
    have := ht _ _ hn
    simp only [getv] at this
    simp only [resvs, resv, this, ih]
  | cell ha hb hl _ ih =>
    rename_i a b o agg n l v rs vs _
    have h1 := ht _ _ ha
    simp only [getv] at h1
    have h2 : tm.get a = some (.ptr b o) := by
      cases hq : tm.get a with
      | none => rw [hq] at h1; cases h1
      | some x => rw [hq] at h1; simpa using h1
    obtain ⟨c, h3, h4⟩ := (hk.at hb).2
    unfold ldv at hl
    obtain ⟨h5, hl⟩ := of_bif hl
    rw [ble_dec, decide_eq_true_eq] at h5
    simp only [resvs, resv, h2, h3, ble_dec, h5, decide_true, cond_true, take_at (H := H) (b := b) h4 n o h5, hl, ih]
theorem SpecQ_of {f : FuncId} {c : CFn} {as : List AV} {I : List (Nat × HB)} {R : AV → List Ent → Prop} (hlen : as.length.ble c.nt = true)
    {cl : FuncId → List AV → Tr Blk → Nat → Nat → Out} (hcl : ∀ H nx ro, cl f as H nx ro = callFn call ro c as H nx)
    (h : ∀ ro O, Sub I O → W B call ro c.body (frGo 0 as) O (RetQ c.res O R)) : SpecQ B cl f as I R := by
  intro ro O H nx hk hs
  obtain ⟨e, tm', H', nx', t', O', h1, h2, h3, h4⟩ := h ro O hs (put as 0 .e) H nx (FA.args as) hk
  have key : (∃ vs N, ResV t' O' c.res vs ∧ (N ++ O).Sublist O' ∧ R (pack vs) N) → (∀ i, e ≠ .exit i) → ∃ v N H' nx', cl f as H nx ro = some (v, H', nx') ∧ HK B ro (N ++ O) H' nx' ∧ R v N := by
    rintro ⟨vs, N, r1, r2, r3⟩ hne
    refine ⟨pack vs, N, H', nx', ?_, h3.sub r2, r3⟩
    have hr := resvs_of h2 h3 r1
    have e1 : (match resvs tm' H' c.res with | some [v] => some (v, H', nx') | some vs => some (.tup vs, H', nx') | none => (none : Out)) = some (pack vs, H', nx') := by
      rw [hr]
      rcases vs with _ | ⟨v, _ | ⟨w, l⟩⟩ <;> rfl
    rw [hcl]
    unfold callFn
    rw [hlen, putK_eq]
    simp only [cond_true, h1]
    cases e with
    | normal => exact e1
    | ret => exact e1
    | exit i => exact absurd rfl (hne i)
  cases e with
  | normal => exact key h4 (fun i h => by cases h)
  | ret => exact key h4 (fun i h => by cases h)
  | exit i => exact h4.elim
end W
end Go.Vm
