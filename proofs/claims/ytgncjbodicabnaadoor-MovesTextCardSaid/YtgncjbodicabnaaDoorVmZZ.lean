/-
  The machine for the kernel: functions and runs.
-/
import Derived.Test.YtgncjbodicabnaaDoorVmZY
set_option linter.unusedSimpArgs false
set_option linter.unusedVariables false

namespace Go.Vm
noncomputable section
namespace Swift
open Quick (fN fN_eq opt opt_eq orO orO_eq fA fA_eq)

abbrev Fu := List AV → Tr Blk → Nat → Nat → Cl → KM → Bool
section
variable {φ : Type}
abbrev Re (φ : Type) := φ → Tr Blk → KV → Bool
def rT (x : Gt φ) : Re φ := fun t _ k => fA (x t) k
def rC (x : Gt φ) : Re φ := fun t H k => wLoad1 (x t) H (nat_lit 0) fun v _ _ => k v
def rA (n : Nat) (x : Gt φ) : Re φ := fun t H k => wLoadN n (x t) H (nat_lit 0) fun v _ _ => k v
def rBad : Re φ := fun _ _ _ => false
def rAll (l : List (Re φ)) : φ → Tr Blk → (List AV → Bool) → Bool := List.rec (motive := fun _ => φ → Tr Blk → (List AV → Bool) → Bool) (fun _ _ k => k []) (fun r _ ih t H k => r t H fun v => ih t H fun l => k (v :: l)) l
def packS (l : List AV) (H : Tr Blk) (nx : Nat) (k : KM) : Bool := List.rec (motive := fun _ => Bool) (k (.tup []) H nx) (fun v r _ => List.rec (motive := fun _ => Bool) (k v H nx) (fun _ _ _ => k (.tup l) H nx) r) l
def setA (ps : List (Pt φ)) : List AV → φ → (φ → Bool) → Bool := List.rec (motive := fun _ => List AV → φ → (φ → Bool) → Bool) (fun as t k => List.rec (motive := fun _ => Bool) (k t) (fun _ _ _ => false) as)
  (fun p _ ih as t k => List.rec (motive := fun _ => Bool) (k t) (fun a r _ => p a t fun t => ih r t k) as) ps
def fin (rs : List (Re φ)) (k : KM) : KN φ := fun t H nx => rAll rs t H fun l => packS l H nx k
def fn (z : φ) (ps : List (Pt φ)) (b : Co φ) (rs : List (Re φ)) : Fu := fun as H nx ro cl k => setA ps as z fun t => b t H nx ro cl (fin rs k) fun i t H nx => eB (Nat.beq i (nat_lit 0)) (fin rs k t H nx) false
def fBad : Fu := fun _ _ _ _ _ _ => false

variable (F : FK φ)
def denR : CRes → Re φ
  | .t n => bif n.blt F.cap then rT (F.g n) else rBad
  | .cell n false 1 => bif n.blt F.cap then rC (F.g n) else rBad
  | .cell n true m => bif n.blt F.cap then rA m (F.g n) else rBad
  | _ => rBad
def denF (c : CFn) : Fu := bif c.nt.ble F.cap then fn F.z ((List.range (min c.nt 12)).map F.s) (denC F c.body) (c.res.map (denR F)) else fBad

variable {F}
theorem denR_sim {t : φ} {tm : Tr AV} (hr : FR F t tm) {H : Tr Blk} {r : CRes} {k : KV} (h : denR F r t H k = true) : ∃ v, resv tm H r = some v ∧ k v = true := by
  have go : ∀ {agg : Bool} {m n : Nat}, n < F.cap → ∀ k0 : KM, (∀ v H nx, k0 v H nx = k v) → outM (hop noCall 0 (getv tm) H 0 (.load agg m (.t n))) k0 = true → ∃ v, resv tm H (.cell n agg m) = some v ∧ k v = true := by
    intro agg m n hn k0 hk0 h
    obtain ⟨v, H', nx', h1, h2⟩ := of_outM h
    rw [hk0] at h2
    refine ⟨v, ?_, h2⟩
    simp only [hop, getv] at h1
    simp only [resv]
    cases hq : tm.get n with
    | none => rw [hq] at h1; cases h1
    | some p =>
      rw [hq] at h1
      simp only [Option.getD_some] at h1
      cases p <;> try (cases h1; done)
      rename_i b o
      simp only at h1 ⊢
      cases hb : H.get b with
      | none => rw [hb] at h1; cases h1
      | some bl =>
        rw [hb] at h1
        cases bl with
        | iter s p => cases h1
        | cells c mm =>
          simp only at h1 ⊢
          obtain ⟨hle, h1⟩ := of_bif h1
          rw [hle]
          simp only [cond_true]
          cases ht : take c o m with
          | none => rw [ht] at h1; cases h1
          | some l =>
            rw [ht] at h1
            simp only at h1 ⊢
            cases hm : mkv agg l with
            | none => rw [hm] at h1; cases h1
            | some v' =>
              rw [hm] at h1
              simp only [Option.some.injEq, Prod.mk.injEq] at h1
              rw [h1.1]
  unfold denR at h
  split at h
  · rename_i n
    cases hn : n.blt F.cap with
    | false => rw [hn] at h; cases h
    | true =>
      rw [hn] at h
      change fA (F.g n t) k = true at h
      rw [fA_eq, hr.get (by simpa using hn)] at h
      exact ⟨_, rfl, h⟩
  · rename_i n
    cases hn : n.blt F.cap with
    | false => rw [hn] at h; cases h
    | true =>
      rw [hn] at h
      have hn' : n < F.cap := by simpa using hn
      change wLoad1 (F.g n t) H 0 (fun v _ _ => k v) = true at h
      rw [hr.get hn', wLoad1_eq noCall 0] at h
      exact go hn' _ (fun _ _ _ => rfl) h
  · rename_i n m
    cases hn : n.blt F.cap with
    | false => rw [hn] at h; cases h
    | true =>
      rw [hn] at h
      have hn' : n < F.cap := by simpa using hn
      change wLoadN m (F.g n t) H 0 (fun v _ _ => k v) = true at h
      rw [hr.get hn', wLoadN_eq noCall 0] at h
      exact go hn' _ (fun _ _ _ => rfl) h
  · cases h

theorem rAll_sim {t : φ} {tm : Tr AV} (hr : FR F t tm) {H : Tr Blk} : ∀ (rs : List CRes) (k : List AV → Bool), rAll (rs.map (denR F)) t H k = true → ∃ l, resvs tm H rs = some l ∧ k l = true
  | [], k, h => ⟨[], rfl, h⟩
  | r :: rs, k, h => by
    obtain ⟨v, h1, h2⟩ := denR_sim hr (r := r) h
    obtain ⟨l, h3, h4⟩ := rAll_sim hr rs _ h2
    exact ⟨v :: l, by simp only [resvs, h1, h3], h4⟩

theorem setA_sim : ∀ (m i : Nat) (as : List AV) (t : φ) (tm : Tr AV) (k : φ → Bool), i + m ≤ F.cap → FR F t tm → setA ((List.range' i m).map F.s) as t k = true → ∃ t', FR F t' (put as i tm) ∧ k t' = true
  | 0, i, as, t, tm, k, _, hr, h => by
    cases as with
    | nil => exact ⟨t, hr, h⟩
    | cons a as => cases h
  | m + 1, i, as, t, tm, k, hi, hr, h => by
    cases as with
    | nil => exact ⟨t, hr, h⟩
    | cons a as =>
      change F.s i a t (fun t => setA ((List.range' (i + 1) m).map F.s) as t k) = true at h
      obtain ⟨t1, h1, h2⟩ := hr.put (d := some i) (by simp [inB]; omega) a _ h
      obtain ⟨t2, h3, h4⟩ := setA_sim m (i + 1) as t1 _ k (by omega) h2 h1
      refine ⟨t2, ?_, h4⟩
      rw [put_cons]
      exact h3

theorem setA_len : ∀ (m i : Nat) (as : List AV) (t : φ) (tm : Tr AV) (k : φ → Bool), i + m ≤ F.cap → FR F t tm → setA ((List.range' i m).map F.s) as t k = true → as.length ≤ m
  | 0, i, as, t, tm, k, _, hr, h => by
    cases as with
    | nil => simp
    | cons a as => cases h
  | m + 1, i, as, t, tm, k, hi, hr, h => by
    cases as with
    | nil => simp
    | cons a as =>
      change F.s i a t (fun t => setA ((List.range' (i + 1) m).map F.s) as t k) = true at h
      obtain ⟨t1, h1, h2⟩ := hr.put (d := some i) (by simp [inB]; omega) a _ h
      have := setA_len m (i + 1) as t1 _ k (by omega) h2 h1
      simpa using this

theorem denF_sim {c : CFn} {cl : Cl} {call : FuncId → List AV → Tr Blk → Nat → Nat → Out} (hcl : ClOK cl call) {as : List AV} {H : Tr Blk} {nx ro : Nat} {k : KM} (h : denF F c as H nx ro cl k = true) : outM (callFn call ro c as H nx) k = true := by
  unfold denF at h
  cases hn : c.nt.ble F.cap with
  | false => rw [hn] at h; cases h
  | true =>
    rw [hn] at h
    have hn' : c.nt ≤ F.cap := by simpa [ble_dec] using hn
    have h0 : FR F F.z .e := fun n _ => by rw [F.z_ok]; rfl
    change setA ((List.range (min c.nt 12)).map F.s) as F.z _ = true at h
    rw [List.range_eq_range'] at h
    have hlen := setA_len _ 0 as F.z .e _ (by omega) h0 h
    obtain ⟨t, hr, h1⟩ := setA_sim _ 0 as F.z .e _ (by omega) h0 h
    obtain ⟨x, tm1, H1, nx1, t1, h2, h3, h4⟩ := denC_sim c.body t _ H nx ro cl call _ _ hr hcl h1
    have hle : as.length.ble c.nt = true := by rw [ble_dec]; simp; omega
    unfold callFn
    rw [hle, putK_eq]
    simp only [cond_true, h2]
    have key : fin (c.res.map (denR F)) k t1 H1 nx1 = true → outM (match resvs tm1 H1 c.res with | some [v] => some (v, H1, nx1) | some vs => some (.tup vs, H1, nx1) | none => none) k = true := by
      intro hf
      obtain ⟨l, e1, e2⟩ := rAll_sim h3 c.res _ hf
      rw [e1]
      rcases l with _ | ⟨v, _ | ⟨w, l⟩⟩ <;> exact e2
    cases x with
    | normal => exact key h4
    | exit i => cases h4
    | ret => exact key h4
end

def K1 : FK (N8 AV) := FK.base.next (by decide)
def K2 : FK (N8 (N8 AV)) := K1.next (by decide)
def K3 : FK (N8 (N8 (N8 AV))) := K2.next (by decide)
def K4 : FK (N8 (N8 (N8 (N8 AV)))) := K3.next (by decide)
def denA (c : CFn) : Fu := bif c.nt.ble 8 then denF K1 c else bif c.nt.ble 64 then denF K2 c else bif c.nt.ble 512 then denF K3 c else denF K4 c

theorem of_cond' {b : Bool} {x y : Fu} {as : List AV} {H : Tr Blk} {nx ro : Nat} {cl : Cl} {k : KM} (h : (bif b then x else y) as H nx ro cl k = true) : x as H nx ro cl k = true ∨ y as H nx ro cl k = true := by
  cases b
  · exact .inr h
  · exact .inl h

theorem denA_sim {c : CFn} {cl : Cl} {call : FuncId → List AV → Tr Blk → Nat → Nat → Out} (hcl : ClOK cl call) {as : List AV} {H : Tr Blk} {nx ro : Nat} {k : KM} (h : denA c as H nx ro cl k = true) : outM (callFn call ro c as H nx) k = true := by
  unfold denA at h
  rcases of_cond' h with h | h
  · exact denF_sim hcl h
  rcases of_cond' h with h | h
  · exact denF_sim hcl h
  rcases of_cond' h with h | h
  · exact denF_sim hcl h
  · exact denF_sim hcl h

/-! The shallow code, part by part. -/
section
variable {φ : Type} {F : FK φ}
theorem dn : denOps F [] = oEnd := rfl
theorem dc {c : COp} {l : List COp} {o : Op φ} {r : Ops φ} (h : den1 F c = o) (k : denOps F l = r) : denOps F (c :: l) = o r := by subst h; subst k; rfl
theorem dR {l : List COp} {r : Ops φ} (k : denOps F l = r) : denC F (.region l) = cReg r := by subst k; rfl
theorem dS {a b : CC} {x y : Co φ} (h : denC F a = x) (k : denC F b = y) : denC F (.seq a b) = cSeq x y := by subst h; subst k; rfl
theorem dI {n : Nat} {a b : CC} {g : Gt φ} {x y : Co φ} (hn : n.blt F.cap = true) (hg : F.g n = g) (h : denC F a = x) (k : denC F b = y) : denC F (.cond (.t n) a b) = cIf g x y := by
  subst h; subst k; subst hg
  show (bif n.blt F.cap then _ else _) = _
  rw [hn]; rfl
theorem dIc {v : AV} {a b : CC} {x y : Co φ} (h : denC F a = x) (k : denC F b = y) : denC F (.cond (.c v) a b) = cIf (gK v) x y := by subst h; subst k; rfl
theorem dB {i : Nat} {b : CC} {x : Co φ} (h : denC F b = x) : denC F (.block i b) = cBlock (i + 1) x := by subst h; rfl
theorem dL {b : CC} {x : Co φ} (h : denC F b = x) : denC F (.loop b) = cLoop x := by subst h; rfl
theorem dK : denC F .skip = cSkip := rfl
theorem dX {i : Nat} : denC F (.exit i) = cExit (i + 1) := rfl
theorem dT : denC F .ret = cExit 0 := rfl
theorem dBad : denC F .bad = cBad := rfl
theorem dF {c : CFn} {b : Co φ} {ps : List (Pt φ)} {rs : List (Re φ)} (h0 : c.nt.ble F.cap = true) (hp : (List.range (min c.nt 12)).map F.s = ps) (hr : c.res.map (denR F) = rs) (hb : denC F c.body = b) : denF F c = fn F.z ps b rs := by
  subst hp; subst hr; subst hb
  unfold denF
  rw [h0]; rfl
end
theorem dA1 {c : CFn} {u : Fu} (h : c.nt.ble 8 = true) (k : denF K1 c = u) : denA c = u := by unfold denA; rw [h]; exact k
theorem dA2 {c : CFn} {u : Fu} (h1 : c.nt.ble 8 = false) (h : c.nt.ble 64 = true) (k : denF K2 c = u) : denA c = u := by unfold denA; rw [h1, h]; exact k
theorem dA3 {c : CFn} {u : Fu} (h1 : c.nt.ble 8 = false) (h2 : c.nt.ble 64 = false) (h : c.nt.ble 512 = true) (k : denF K3 c = u) : denA c = u := by unfold denA; rw [h1, h2, h]; exact k
theorem dA4 {c : CFn} {u : Fu} (h1 : c.nt.ble 8 = false) (h2 : c.nt.ble 64 = false) (h : c.nt.ble 512 = false) (k : denF K4 c = u) : denA c = u := by unfold denA; rw [h1, h2, h]; exact k

def runS (prog : Tr Fu) (n : Nat) : Cl := Nat.rec (motive := fun _ => Cl) (fun _ _ _ _ _ _ => false) (fun _ ih f as H nx ro k => opt (Quick.get prog f) false fun u => u as H nx ro ih k) n

theorem runS_sim {prog : Tr CFn} {progS : Tr Fu} (hp : ∀ f u, progS.get f = some u → ∃ c, prog.get f = some c ∧ u = denA c) : ∀ n, ClOK (runS progS n) (run prog n)
  | 0 => fun f as H nx ro k h => by cases h
  | n + 1 => fun f as H nx ro k h => by
    change opt (Quick.get progS f) false (fun u => u as H nx ro (runS progS n) k) = true at h
    rw [opt_eq, Quick.get_eq] at h
    cases hq : progS.get f with
    | none => rw [hq] at h; cases h
    | some u =>
      rw [hq] at h
      obtain ⟨c, h1, rfl⟩ := hp f u hq
      simp only [run, h1]
      exact denA_sim (runS_sim hp n) h
end Swift
end
end Go.Vm

