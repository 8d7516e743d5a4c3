/-
  The machine written for the kernel: code and runs.
-/
import Derived.Test.YtgncjbodicabnaaDoorVmZQ
set_option linter.unusedSimpArgs false
set_option linter.unusedVariables false

namespace Go.Vm
noncomputable section
namespace Quick
section
variable {R : Type} (call : FuncId → List AV → Tr Blk → Nat → Nat → Out) (ro : Nat) (e : R)

def dstK (dst : Option Nat) (tm : Tr AV) (K : Tr AV → Tr Blk → Nat → R) (v : AV) (H : Tr Blk) (nx : Nat) : R := opt dst (K tm H nx) fun d => setK v tm d fun tm => K tm H nx

def jK (j : J) (q : Bool) (ex : List Opd) (tm : Tr AV) (H : Tr Blk) (nx : Nat) (k : AV → Tr Blk → Nat → R) : R := J.rec (motive := fun _ => R)
  (fun i => popK tm e (fun v => k v H nx) i)
  (fun i => List.rec (motive := fun _ => R) (iff q (hopK call nx tm H nx e k i) (hopK call ro tm H nx e k i)) (fun _ _ _ => iff (exOk (gv tm) i ex) (iff q (hopK call nx tm H nx e k i) (hopK call ro tm H nx e k i)) e) ex) j

theorem jK_eq (o : COp) (tm : Tr AV) (H : Tr Blk) (nx : Nat) (k : AV → Tr Blk → Nat → R) : jK call ro e o.j o.q o.ex tm H nx k = (match runJ call ro o tm H nx with | some (v, H, nx) => k v H nx | none => e) := by
  obtain ⟨dst, guard, j, q, ex⟩ := o
  cases j with
  | p i =>
    show popK tm e (fun v => k v H nx) i = _
    rw [popK_eq]
    simp only [runJ]
    cases pop (getv tm) i <;> rfl
  | h i =>
    simp only [runJ]
    cases ex with
    | nil =>
      show iff q _ _ = _
      rw [iff_eq, hopK_eq, hopK_eq]
      cases q <;> rfl
    | cons x l =>
      show iff (exOk (gv tm) i (x :: l)) _ e = _
      rw [iff_eq, iff_eq, hopK_eq, hopK_eq, gv_fun]
      simp only [List.isEmpty_cons, Bool.false_or]
      cases exOk (getv tm) i (x :: l) <;> cases q <;> rfl

def opK (o : COp) (tm : Tr AV) (H : Tr Blk) (nx : Nat) (K : Tr AV → Tr Blk → Nat → R) : R := COp.rec (motive := fun _ => R)
  (fun dst guard j q ex => opt guard (jK call ro e j q ex tm H nx (dstK dst tm K)) fun g => Prod.rec (motive := fun _ => R)
    (fun t want => onBool (gv tm (.t t)) (dstK dst tm K (.tup []) H nx) fun b => iff (iff want b (iff b false true)) (jK call ro e j q ex tm H nx (dstK dst tm K)) (dstK dst tm K (.tup []) H nx)) g) o

theorem dstK_eq (o : COp) (tm : Tr AV) (K : Tr AV → Tr Blk → Nat → R) (v : AV) (H : Tr Blk) (nx : Nat) : dstK o.dst tm K v H nx = K (match o.dst with | none => tm | some d => Tr.set tm d v) H nx := by
  unfold dstK
  rw [opt_eq]
  cases o.dst with
  | none => rfl
  | some d => simp only [setK_eq, Tr.setK_eq]; rfl

theorem opK_eq (o : COp) (tm : Tr AV) (H : Tr Blk) (nx : Nat) (K : Tr AV → Tr Blk → Nat → R) :
    opK call ro e o tm H nx K = (match runV call ro o tm H nx with | some (v, H, nx) => K (match o.dst with | none => tm | some d => Tr.set tm d v) H nx | none => e) := by
  have h1 := jK_eq call ro e o tm H nx (dstK o.dst tm K)
  simp only [dstK_eq] at h1
  obtain ⟨dst, guard, j, q, ex⟩ := o
  have h2 := dstK_eq ⟨dst, guard, j, q, ex⟩ tm K (.tup []) H nx
  show opt guard (jK call ro e j q ex tm H nx (dstK dst tm K)) _ = _
  rw [opt_eq]
  cases guard with
  | none =>
    simp only [runV]
    exact h1
  | some g =>
    obtain ⟨t, want⟩ := g
    simp only [runV]
    show onBool (gv tm (.t t)) _ _ = _
    rw [gv_eq]
    cases getv tm (.t t) <;> try exact h2
    rename_i b
    show iff _ _ _ = _
    rw [iff_eq, iff_eq, iff_eq]
    cases b <;> cases want <;> simp only [cond_true, cond_false] <;> first | exact h2 | exact h1

def opsK (l : List COp) : Tr AV → Tr Blk → Nat → (Tr AV → Tr Blk → Nat → R) → R := List.rec (motive := fun _ => Tr AV → Tr Blk → Nat → (Tr AV → Tr Blk → Nat → R) → R)
  (fun tm H nx K => K tm H nx) (fun o _ ih tm H nx K => opK call ro e o tm H nx fun tm H nx => ih tm H nx K) l

theorem opsK_eq : ∀ (l : List COp) (tm : Tr AV) (H : Tr Blk) (nx : Nat) (K : Tr AV → Tr Blk → Nat → R), opsK call ro e l tm H nx K = (match runOps call ro l (tm, H, nx) with | some (tm, H, nx) => K tm H nx | none => e)
  | [], _, _, _, _ => rfl
  | o :: l, tm, H, nx, K => by
    show opK call ro e o tm H nx (fun tm H nx => opsK call ro e l tm H nx K) = _
    rw [opK_eq]
    simp only [runOps]
    cases runV call ro o tm H nx with
    | none => rfl
    | some r =>
      obtain ⟨v, H1, nx1⟩ := r
      simp only
      cases o.dst with
      | none => exact opsK_eq l _ _ _ _
      | some d =>
        simp only [forceA_eq, Tr.setK_eq]
        exact opsK_eq l _ _ _ _

abbrev KN (R : Type) := Tr AV → Tr Blk → Nat → R
abbrev KX (R : Type) := Ex → Tr AV → Tr Blk → Nat → R

def loopK (b : Tr AV → Tr Blk → Nat → KN R → KX R → R) (kx : KX R) (n : Nat) : Tr AV → Tr Blk → Nat → R := Nat.rec (motive := fun _ => Tr AV → Tr Blk → Nat → R) (fun _ _ _ => e) (fun _ ih tm H nx => b tm H nx ih kx) n

def blockX (id : Nat) (kn : KN R) (kx : KX R) (x : Ex) (tm : Tr AV) (H : Tr Blk) (nx : Nat) : R := Ex.rec (motive := fun _ => R) (kn tm H nx) (fun i => iff (Nat.beq i id) (kn tm H nx) (kx (.exit i) tm H nx)) (kx .ret tm H nx) x

def execK (c : CC) : Tr AV → Tr Blk → Nat → KN R → KX R → R := CC.rec (motive := fun _ => Tr AV → Tr Blk → Nat → KN R → KX R → R)
  (fun tm H nx kn _ => kn tm H nx) (fun l tm H nx kn _ => opsK call ro e l tm H nx kn) (fun _ _ ia ib tm H nx kn kx => ia tm H nx (fun tm H nx => ib tm H nx kn kx) kx)
  (fun c _ _ ia ib tm H nx kn kx => onBool (gv tm c) e fun t => iff t (ia tm H nx kn kx) (ib tm H nx kn kx)) (fun id _ ib tm H nx kn kx => ib tm H nx kn (blockX id kn kx))
  (fun _ ib tm H nx _ kx => loopK e ib kx fuel tm H nx) (fun id tm H nx _ kx => kx (.exit id) tm H nx) (fun tm H nx _ kx => kx .ret tm H nx) (fun _ _ _ _ _ => e) c

def fin (kn : KN R) (kx : KX R) (r : Option (Ex × St)) : R := match r with
  | none => e
  | some (.normal, tm, H, nx) => kn tm H nx
  | some (.exit i, tm, H, nx) => kx (.exit i) tm H nx
  | some (.ret, tm, H, nx) => kx .ret tm H nx

theorem loopK_eq {b : Tr AV → Tr Blk → Nat → KN R → KX R → R} {f : St → Option (Ex × St)} (hb : ∀ tm H nx kn kx, b tm H nx kn kx = fin e kn kx (f (tm, H, nx))) (kn : KN R) (kx : KX R) :
    ∀ (n : Nat) (tm : Tr AV) (H : Tr Blk) (nx : Nat), loopK e b kx n tm H nx = fin e kn kx (iter f n (tm, H, nx))
  | 0, _, _, _ => rfl
  | n + 1, tm, H, nx => by
    show b tm H nx (loopK e b kx n) kx = _
    rw [hb]
    unfold iter
    cases f (tm, H, nx) with
    | none => rfl
    | some r =>
      obtain ⟨x, tm1, H1, nx1⟩ := r
      cases x with
      | normal => exact loopK_eq hb kn kx n tm1 H1 nx1
      | exit i => rfl
      | ret => rfl

theorem execK_eq : ∀ (c : CC) (tm : Tr AV) (H : Tr Blk) (nx : Nat) (kn : KN R) (kx : KX R), execK call ro e c tm H nx kn kx = fin e kn kx (exec call ro c (tm, H, nx))
  | .skip, _, _, _, _, _ => rfl
  | .exit _, _, _, _, _, _ => rfl
  | .ret, _, _, _, _, _ => rfl
  | .bad, _, _, _, _, _ => rfl
  | .region l, tm, H, nx, kn, kx => by
    show opsK call ro e l tm H nx kn = _
    rw [opsK_eq]
    simp only [exec]
    cases runOps call ro l (tm, H, nx) <;> rfl
  | .seq a b, tm, H, nx, kn, kx => by
    show execK call ro e a tm H nx (fun tm H nx => execK call ro e b tm H nx kn kx) kx = _
    rw [execK_eq a]
    simp only [exec]
    cases exec call ro a (tm, H, nx) with
    | none => rfl
    | some r =>
      obtain ⟨x, tm1, H1, nx1⟩ := r
      cases x with
      | normal => exact execK_eq b _ _ _ _ _
      | exit i => rfl
      | ret => rfl
  | .cond c a b, tm, H, nx, kn, kx => by
    show onBool (gv tm c) e (fun t => iff t (execK call ro e a tm H nx kn kx) (execK call ro e b tm H nx kn kx)) = _
    simp only [exec, ← gv_eq]
    cases gv tm c <;> try rfl
    rename_i t
    cases t
    · exact execK_eq b _ _ _ _ _
    · exact execK_eq a _ _ _ _ _
  | .block id b, tm, H, nx, kn, kx => by
    show execK call ro e b tm H nx kn (blockX id kn kx) = _
    rw [execK_eq b]
    simp only [exec]
    cases exec call ro b (tm, H, nx) with
    | none => rfl
    | some r =>
      obtain ⟨x, tm1, H1, nx1⟩ := r
      cases x with
      | normal => rfl
      | ret => rfl
      | exit i =>
        show iff (Nat.beq i id) _ _ = _
        rw [iff_eq]
        simp only
        cases Nat.beq i id <;> rfl
  | .loop b, tm, H, nx, kn, kx => by
    show loopK e (execK call ro e b) kx fuel tm H nx = _
    rw [loopK_eq e (fun tm H nx kn kx => execK_eq b tm H nx kn kx) kn]
    rfl

def resK (tm : Tr AV) (H : Tr Blk) (r : CRes) (k : AV → R) : R := CRes.rec (motive := fun _ => R) (fun n => fA (opt (get tm n) (.tup []) fun v => v) k)
  (fun a agg n => opt (get tm a) e fun p => onPtr p e fun b o => onBlk e (get H b) fun c m => iff (Nat.ble (Nat.add o n) m)
    (iff agg (take1 e n c o fun l => k (.agg l)) (take1 e n c o fun l => List.rec (motive := fun _ => R) e (fun v r _ => List.rec (motive := fun _ => R) (k v) (fun _ _ _ => e) r) l)) e) r

theorem resK_eq (tm : Tr AV) (H : Tr Blk) (r : CRes) (k : AV → R) : resK e tm H r k = (match resv tm H r with | some v => k v | none => e) := by
  cases r with
  | t n =>
    show fA _ k = _
    rw [fA_eq, opt_eq, get_eq]
    simp only [resv]
    cases tm.get n <;> rfl
  | cell a agg n =>
    show opt (get tm a) e _ = _
    rw [opt_eq, get_eq]
    simp only [resv]
    cases tm.get a with
    | none => rfl
    | some p =>
      cases p <;> try rfl
      rename_i b o
      show onBlk e (get H b) _ = _
      rw [onBlk_eq, get_eq]
      simp only
      cases H.get b with
      | none => rfl
      | some bl => cases bl with
        | iter s p => rfl
        | cells c m =>
          simp only [iff_eq, take1_eq]
          show (bif (o + n).ble m then _ else e) = _
          cases (o + n).ble m
          · rfl
          · simp only [cond_true]
            cases take c o n with
            | none => cases agg <;> rfl
            | some l =>
              cases agg
              · rcases l with _ | ⟨x, _ | ⟨y, l⟩⟩ <;> rfl
              · rfl

def ressK (tm : Tr AV) (H : Tr Blk) (l : List CRes) : (List AV → R) → R := List.rec (motive := fun _ => (List AV → R) → R) (fun k => k []) (fun r _ ih k => resK e tm H r fun v => ih fun l => k (v :: l)) l
theorem ressK_eq (tm : Tr AV) (H : Tr Blk) : ∀ (l : List CRes) (k : List AV → R), ressK e tm H l k = (match resvs tm H l with | some l => k l | none => e)
  | [], _ => rfl
  | r :: l, k => by
    show resK e tm H r (fun v => ressK e tm H l fun l => k (v :: l)) = _
    rw [resK_eq]
    simp only [resvs]
    cases resv tm H r with
    | none => rfl
    | some v =>
      simp only
      rw [ressK_eq tm H l]
      cases resvs tm H l <;> rfl
end

def pack (l : List AV) (H : Tr Blk) (nx : Nat) : Out := List.rec (motive := fun _ => Out) (some (.tup [], H, nx)) (fun v r _ => List.rec (motive := fun _ => Out) (some (v, H, nx)) (fun _ _ _ => some (.tup l, H, nx)) r) l

def callK (call : FuncId → List AV → Tr Blk → Nat → Nat → Out) (ro : Nat) (c : CFn) (as : List AV) (H : Tr Blk) (nx : Nat) : Out := CFn.rec (motive := fun _ => Out)
  (fun nt res body => iff (Nat.ble (ln as) nt) (put1 as (nat_lit 0) .e fun tm => execK call ro none body tm H nx (fun tm H nx => ressK none tm H res fun l => pack l H nx)
    (fun x tm H nx => Ex.rec (motive := fun _ => Out) (ressK none tm H res fun l => pack l H nx) (fun _ => none) (ressK none tm H res fun l => pack l H nx) x)) none) c

theorem callK_eq (call : FuncId → List AV → Tr Blk → Nat → Nat → Out) (ro : Nat) (c : CFn) (as : List AV) (H : Tr Blk) (nx : Nat) : callK call ro c as H nx = callFn call ro c as H nx := by
  obtain ⟨nt, res, body⟩ := c
  show iff (Nat.ble (ln as) nt) (put1 as 0 .e fun tm => execK call ro none body tm H nx _ _) none = _
  unfold callFn
  rw [iff_eq, ln_eq]
  cases as.length.ble nt
  · rfl
  simp only [cond_true]
  rw [put1_eq]
  congr 1
  funext tm
  rw [execK_eq]
  have hp : ∀ (tm : Tr AV) (H : Tr Blk) (nx : Nat), (ressK none tm H res fun l => pack l H nx) = (match resvs tm H res with | some [v] => some (v, H, nx) | some vs => some (.tup vs, H, nx) | none => none) := by
    intro tm H nx
    rw [ressK_eq]
    cases resvs tm H res with
    | none => rfl
    | some l => rcases l with _ | ⟨x, _ | ⟨y, l⟩⟩ <;> rfl
  cases exec call ro body (tm, H, nx) with
  | none => rfl
  | some r =>
    obtain ⟨x, tm1, H1, nx1⟩ := r
    cases x with
    | normal => exact hp _ _ _
    | exit i => rfl
    | ret => exact hp _ _ _

/-- A program of the machine runs. -/
def runK (prog : Tr CFn) (n : Nat) : FuncId → List AV → Tr Blk → Nat → Nat → Out := Nat.rec (motive := fun _ => FuncId → List AV → Tr Blk → Nat → Nat → Out) (fun _ _ _ _ _ => none)
  (fun _ ih f as H nx ro => opt (get prog f) none fun c => callK ih ro c as H nx) n

theorem runK_eq (prog : Tr CFn) : ∀ n, runK prog n = run prog n
  | 0 => by funext f as H nx ro; rfl
  | n + 1 => by
    funext f as H nx ro
    show opt (get prog f) none (fun c => callK (runK prog n) ro c as H nx) = _
    rw [opt_eq, get_eq, runK_eq prog n]
    simp only [run]
    cases prog.get f with
    | none => rfl
    | some c => exact callK_eq _ _ _ _ _ _
end Quick
end
end Go.Vm

