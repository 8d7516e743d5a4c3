/-
  The machine written for the kernel: memory, code, runs.
-/
import Derived.Test.YtgncjbodicabnaaDoorVmZP
set_option linter.unusedSimpArgs false
set_option linter.unusedVariables false

namespace Go.Vm
noncomputable section
namespace Quick

def put1 {β : Type} (l : List AV) : Nat → Tr AV → (Tr AV → β) → β := List.rec (motive := fun _ => Nat → Tr AV → (Tr AV → β) → β) (fun _ t k => k t)
  (fun a _ ih i t k => fA a fun a => setK a t i fun t => fN (Nat.succ i) fun i => ih i t k) l
theorem put1_eq {β : Type} : ∀ (l : List AV) (i : Nat) (t : Tr AV) (k : Tr AV → β), put1 l i t k = putK l i t k
  | [], _, _, _ => rfl
  | a :: l, i, t, k => by
    show fA a (fun a => setK a t i fun t => fN (Nat.succ i) fun i => put1 l i t k) = _
    rw [fA_eq, setK_eq, putK, forceA_eq]
    congr 1
    funext t
    rw [fN_eq]
    exact put1_eq l _ _ _

def take1 {β : Type} (e : β) (n : Nat) : Tr AV → Nat → (List AV → β) → β := Nat.rec (motive := fun _ => Tr AV → Nat → (List AV → β) → β) (fun _ _ k => k [])
  (fun _ ih t i k => opt (get t i) e fun a => fN (Nat.succ i) fun i => ih t i fun l => k (a :: l)) n
theorem take1_eq {β : Type} (e : β) : ∀ (n : Nat) (t : Tr AV) (i : Nat) (k : List AV → β), take1 e n t i k = (match take t i n with | some l => k l | none => e)
  | 0, _, _, _ => rfl
  | n + 1, t, i, k => by
    show opt (get t i) e (fun a => fN (Nat.succ i) fun i => take1 e n t i fun l => k (a :: l)) = _
    rw [opt_eq, get_eq]
    simp only [take]
    cases t.get i with
    | none => rfl
    | some a =>
      simp only
      rw [fN_eq, take1_eq e n]
      cases take t (Nat.succ i) n <;> rfl

def one? (v : AV) : Bool := AV.casesOn (motive_1 := fun _ => Bool) v (fun _ => true) (fun _ _ => true) (fun _ => true) (fun _ _ => true) true (fun _ _ _ _ _ => true) true (fun _ _ _ => true) true (fun _ _ => true) true (fun _ => false) (fun _ => false)
theorem one_eq (v : AV) : one? v = aone v := by cases v <;> rfl
def chk (l : List AV) : Nat → Bool := List.rec (motive := fun _ => Nat → Bool) (fun n => Nat.beq n (nat_lit 0)) (fun a _ ih n => Nat.rec (motive := fun _ => Bool) false (fun m _ => iff (one? a) (ih m) false) n) l
theorem chk_eq : ∀ (l : List AV) (n : Nat), chk l n = (l.length.beq n && l.all aone)
  | [], n => by
    show Nat.beq n 0 = _
    rw [beq_dec, beq_dec]
    cases n <;> rfl
  | a :: l, 0 => rfl
  | a :: l, n + 1 => by
    show iff (one? a) (chk l n) false = _
    rw [iff_eq, one_eq, chk_eq l n]
    show _ = (l.length.beq n && (aone a && l.all aone))
    cases aone a <;> cases l.length.beq n <;> rfl
def cells1 (v : AV) : List AV := AV.casesOn (motive_1 := fun _ => List AV) v (fun b => [.bool b]) (fun d n => [.int d n]) (fun s => [.str s]) (fun b o => [.ptr b o]) [.nilp] (fun b o len cap z => [.sl b o len cap z]) [.nils] (fun f a b => [.fn f a b]) [.nilf] (fun t v => [.ifc t v]) [.nili] (fun l => l) (fun l => [.tup l])
theorem cells1_eq (v : AV) : cells1 v = acells v := by cases v <;> rfl

section
variable {R : Type} (call : FuncId → List AV → Tr Blk → Nat → Nat → Out) (ro : Nat) (tm : Tr AV) (H : Tr Blk) (nx : Nat) (e : R) (k : AV → Tr Blk → Nat → R)

def orO (o : Out) : R := opt o e fun r => fD r.1 fun v => k v r.2.1 r.2.2
theorem orO_eq (o : Out) : orO e k o = (match o with | some (v, H, nx) => k v H nx | none => e) := by
  cases o with
  | none => rfl
  | some r => obtain ⟨v, H, nx⟩ := r; exact fD_eq v fun v => k v H nx

def hSlow (i : I) : R := orO e k (hop call ro (gv tm) H nx i)

def onBlk (o : Option Blk) (f : Tr AV → Nat → R) : R := opt o e fun b => Blk.rec (motive := fun _ => R) f (fun _ _ => e) b

def qLoad (agg : Bool) (n : Nat) (x : Opd) : R := onPtr (gv tm x) e fun b o => onBlk e (get H b) fun c m => iff (Nat.ble (Nat.add o n) m)
  (iff agg (take1 e n c o fun l => k (.agg l) H nx) (take1 e n c o fun l => List.rec (motive := fun _ => R) e (fun v r _ => List.rec (motive := fun _ => R) (k v H nx) (fun _ _ _ => e) r) l)) e
def qStore (n : Nat) (x v : Opd) : R := onPtr (gv tm x) e fun b o => onBlk e (get H b) fun c m =>
  iff (Nat.ble ro b) (iff (Nat.ble (Nat.add o n) m) (iff (chk (cells1 (gv tm v)) n) (put1 (cells1 (gv tm v)) o c fun c => setK (.cells c m) H b fun H => k (.tup []) H nx) e) e) e
def newK (l : List AV) (v : Nat → AV) : R := put1 l (nat_lit 0) .e fun c => fN (ln l) fun n => setK (.cells c n) H nx fun H => fN (Nat.succ nx) fun nx' => k (v nx) H nx'
def args1 {β : Type} (l : List Opd) : (List AV → β) → β := List.rec (motive := fun _ => (List AV → β) → β) (fun k => k []) (fun x _ ih k => fA (gv tm x) fun a => ih fun l => k (a :: l)) l
def outK (o : Out) : R := opt o e fun r => Prod.rec (motive := fun _ => R) (fun v s => Prod.rec (motive := fun _ => R) (fun H nx => fA v fun v => k v H nx) s) r

theorem outK_eq (o : Out) : outK e k o = (match o with | some (v, H, nx) => k v H nx | none => e) := by
  cases o with
  | none => rfl
  | some r => obtain ⟨v, H, nx⟩ := r; exact fA_eq v fun v => k v H nx

theorem args1_eq {β : Type} : ∀ (l : List Opd) (k : List AV → β), args1 tm l k = k (l.map (getv tm))
  | [], _ => rfl
  | x :: l, k => by
    show fA (gv tm x) (fun a => args1 tm l fun l => k (a :: l)) = _
    rw [fA_eq, args1_eq l, gv_eq]
    rfl

theorem newK_eq (l : List AV) (v : Nat → AV) : newK H nx k l v = (match newCells l v H nx with | some (v, H, nx) => k v H nx | none => R |> fun _ => k (v nx) H nx) := by
  unfold newK newCells newB
  rw [put1_eq, putK_eq, putK_eq, fN_eq, setK_eq, forceN_eq, ln_eq, Tr.setK_eq, Tr.setK_eq, fN_eq, forceN_eq]

/-- An operation on memory. -/
def hopK (i : I) : R := I.rec (motive := fun _ => R)
  (fun _ => e) (fun _ _ _ => e) (fun _ _ => e) (fun _ => e) (fun _ _ _ => e) (fun _ _ _ _ _ => e) (fun _ _ _ _ => e) (fun _ => e) (fun _ => e) (fun _ => e) (fun _ _ => e) (fun _ => e) (fun _ _ => e)
  (fun _ _ _ => e) (fun _ _ => e) (fun _ _ _ _ => e) (fun _ _ _ _ => e) (fun _ _ _ => e) (fun _ _ _ _ _ => e) (fun _ _ => e) (fun _ _ _ _ _ => e) (fun _ _ _ => e) (fun _ _ => e) (fun _ => e) (fun _ => e) (fun _ => e) (fun _ => e) (fun _ _ => e) (fun _ _ => e)
  (fun x => newK H nx k (cells1 (gv tm x)) fun b => .ptr b (nat_lit 0)) (fun z => newK H nx k z fun b => .ptr b (nat_lit 0)) (fun z n zs ps => hSlow call ro tm H nx e k (.bsl z n zs ps)) (qLoad tm H nx e k) (qStore ro tm H nx e k)
  (fun n z x lo hi mx => hSlow call ro tm H nx e k (.slA n z x lo hi mx)) (fun z b x y => hSlow call ro tm H nx e k (.app z b x y)) (fun z x y => hSlow call ro tm H nx e k (.copy z x y)) (fun z b zs l c => hSlow call ro tm H nx e k (.mksl z b zs l c))
  (fun x => hSlow call ro tm H nx e k (.b2s x)) (fun x => hSlow call ro tm H nx e k (.s2b x)) (fun x => hSlow call ro tm H nx e k (.range x)) (fun x => hSlow call ro tm H nx e k (.next x))
  (fun f as => args1 tm as fun as => outK e k (call f as H nx ro)) (fun f as => hSlow call ro tm H nx e k (.calld f as)) (fun n as => hSlow call ro tm H nx e k (.xrow n as)) e i

theorem onBlk_eq (o : Option Blk) (f : Tr AV → Nat → R) : onBlk e o f = (match o with | some (.cells c m) => f c m | _ => e) := by
  cases o with
  | none => rfl
  | some b => cases b <;> rfl

theorem hopK_eq (i : I) : hopK call ro tm H nx e k i = (match hop call ro (getv tm) H nx i with | some (v, H, nx) => k v H nx | none => e) := by
  have slow : ∀ i, hSlow call ro tm H nx e k i = (match hop call ro (getv tm) H nx i with | some (v, H, nx) => k v H nx | none => e) := fun i => by rw [hSlow, orO_eq, gv_fun]
  have newc : ∀ l v, newK H nx k l v = (match newCells l v H nx with | some (v, H, nx) => k v H nx | none => e) := by
    intro l v
    rw [newK_eq]
    simp only [newCells_eq]
  cases i
  case box x =>
    show newK H nx k (cells1 (gv tm x)) (fun b => .ptr b 0) = _
    rw [newc, cells1_eq, gv_eq]; rfl
  case alloc z => exact newc z fun b => .ptr b 0
  case load agg n x =>
    show onPtr (gv tm x) e _ = _
    simp only [hop, ← gv_eq]
    cases gv tm x <;> try rfl
    rename_i b o
    show onBlk e (get H b) _ = _
    rw [onBlk_eq, get_eq]
    simp only
    cases H.get b with
    | none => rfl
    | some bl => cases bl with
      | iter s p => rfl
      | cells c m =>
        simp only [iff_eq, take1_eq]
        show (bif (o + n).ble m then _ else e) = _
        cases (o + n).ble m
        · rfl
        · simp only [cond_true]
          cases take c o n with
          | none => cases agg <;> rfl
          | some l =>
            cases agg
            · rcases l with _ | ⟨x, _ | ⟨y, l⟩⟩ <;> rfl
            · rfl
  case store n x v =>
    show onPtr (gv tm x) e _ = _
    simp only [hop, ← gv_eq]
    cases gv tm x <;> try rfl
    rename_i b o
    show onBlk e (get H b) _ = _
    rw [onBlk_eq, get_eq]
    simp only
    cases H.get b with
    | none => rfl
    | some bl => cases bl with
      | iter s p => rfl
      | cells c m =>
        simp only [iff_eq, chk_eq, put1_eq, cells1_eq, setK_eq, putK_eq, setB_eq]
        show (bif ro.ble b then bif (o + n).ble m then _ else e else e) = _
        cases ro.ble b <;> cases (o + n).ble m <;> cases (acells (gv tm v)).length.beq n <;> cases (acells (gv tm v)).all aone <;> simp [Tr.setK_eq]
        rfl
  case call f as =>
    show args1 tm as _ = _
    rw [args1_eq, outK_eq]
    simp only [hop, forceL_eq]
  all_goals first | exact slow _ | rfl
end
end Quick
end
end Go.Vm

