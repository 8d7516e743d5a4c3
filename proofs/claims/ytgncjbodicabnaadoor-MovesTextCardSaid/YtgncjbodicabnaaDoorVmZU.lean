/-
  The machine for the kernel: operations that only compute, and those on memory, on values.
-/
import Derived.Test.YtgncjbodicabnaaDoorVmZT
set_option linter.unusedSimpArgs false
set_option linter.unusedVariables false

namespace Go.Vm
noncomputable section
namespace Swift
open Quick (fN fN_eq fI fI_eq fL fL_eq fA fA_eq fD fD_eq nth nth_eq iff iff_eq opt opt_eq leI leI_eq addK addK_eq subK subK_eq wrapK wrapK_eq kx kx_eq kk ln ln_eq orE orE_eq)

def vMov (x : AV) (k : KV) : Bool := fA x k
def vNot (x : AV) (k : KV) : Bool := eBool x fun b => eB b (k (.bool false)) (k (.bool true))
def vCvi (d : IntKind) (x : AV) (k : KV) : Bool := eInt x fun _ n => wrapK d n fun n => k (.int d n)
def vFad (off : Nat) (x : AV) (k : KV) : Bool := ePtr x fun b o => fN (Nat.add o off) fun o => k (.ptr b o)
def vFad0 (x : AV) (k : KV) : Bool := ePtr x fun b o => k (.ptr b o)
def vIadA (n z : Nat) (x i : AV) (k : KV) : Bool := ePtr x fun b o => eInt i fun _ i => eNat i fun i => eB (Nat.ble n i) false (fN (Nat.add o (Nat.mul i z)) fun o => k (.ptr b o))
def vIadS (z : Nat) (x i : AV) (k : KV) : Bool := eSl x (fun b o len _ z' => eInt i fun _ i => eNat i fun i => eB (Nat.beq z' z) (eB (Nat.ble len i) false (fN (Nat.add o (Nat.mul i z)) fun o => k (.ptr b o))) false) false
def vIdxS (x i : AV) (k : KV) : Bool := eStr x fun s => eInt i fun _ i => eNat i fun i => opt (nth s i) false fun c => fN c fun c => k (.int .u8 (.ofNat c))
def vExt (n : Nat) (x : AV) (k : KV) : Bool := eTup x fun l => opt (nth l n) false fun v => fA v k
def vLenS (x : AV) (k : KV) : Bool := eStr x fun s => fN (ln s) fun n => k (.int .i64 (.ofNat n))
def vLen (x : AV) (k : KV) : Bool := eSl x (fun _ _ len _ _ => k (.int .i64 (.ofNat len))) (Bool.rec (motive := fun _ => Bool) false (k (.int .i64 (.ofNat (nat_lit 0)))) (AV.rec (motive_1 := fun _ => Bool) (motive_2 := fun _ => Bool) (fun _ => false) (fun _ _ => false) (fun _ => false) (fun _ _ => false) false (fun _ _ _ _ _ => false) true (fun _ _ _ _ _ => false) false (fun _ _ _ => false) false (fun _ _ => false) (fun _ _ => false) false (fun _ _ _ _ => false) x))
def vMkif (t : Nat) (x : AV) (k : KV) : Bool := fA x fun x => k (.ifc t x)
def vEqf (n a : Bool) (ks : List Nat) (x y : AV) (k : KV) : Bool := opt (aeqf a ks x y) false fun b => eB b (eB n (k (.bool false)) (k (.bool true))) (eB n (k (.bool true)) (k (.bool false)))
def vEqn (n : Bool) (kd : Nat) (x y : AV) (k : KV) : Bool := opt (aeqn kd x y) false fun b => eB b (eB n (k (.bool false)) (k (.bool true))) (eB n (k (.bool true)) (k (.bool false)))

section
variable (k : KV)
theorem vNot_eq (g : Opd → AV) (x : Opd) : vNot (g x) k = (match pop g (.not x) with | some v => k v | none => false) := by
  simp only [pop]
  cases g x <;> try rfl
  rename_i t
  cases t <;> rfl
theorem vCvi_eq (g : Opd → AV) (d : IntKind) (x : Opd) : vCvi d (g x) k = (match pop g (.cvi d x) with | some v => k v | none => false) := by
  simp only [pop]
  cases g x <;> try rfl
  rename_i d' n
  show wrapK d n (fun n => k (.int d n)) = _
  rw [wrapK_eq]
theorem vFad_eq (g : Opd → AV) (off : Nat) (x : Opd) : vFad off (g x) k = (match pop g (.fad off x) with | some v => k v | none => false) := by
  simp only [pop]
  cases g x <;> try rfl
  rename_i b o
  show fN (Nat.add o off) (fun o => k (.ptr b o)) = _
  rw [fN_eq]
  rfl
theorem vFad0_eq (g : Opd → AV) (x : Opd) : vFad0 (g x) k = (match pop g (.fad 0 x) with | some v => k v | none => false) := by
  simp only [pop]
  cases g x <;> rfl
theorem vIadA_eq (g : Opd → AV) (n z : Nat) (x i : Opd) : vIadA n z (g x) (g i) k = (match pop g (.iadA n z x i) with | some v => k v | none => false) := by
  simp only [pop]
  cases g x <;> try rfl
  cases g i <;> try rfl
  rename_i b o kd m
  cases m <;> try rfl
  rename_i m
  show eB (Nat.ble n m) false (fN (Nat.add o (Nat.mul m z)) fun o => k (.ptr b o)) = _
  rw [eB_eq, fN_eq]
  simp only
  cases Nat.ble n m <;> rfl
theorem vIadS_eq (g : Opd → AV) (z : Nat) (x i : Opd) : vIadS z (g x) (g i) k = (match pop g (.iadS z x i) with | some v => k v | none => false) := by
  simp only [pop]
  cases g x <;> try rfl
  cases g i <;> try rfl
  rename_i b o len cap z' kd m
  cases m <;> try rfl
  rename_i m
  show eB (Nat.beq z' z) (eB (Nat.ble len m) false (fN (Nat.add o (Nat.mul m z)) fun o => k (.ptr b o))) false = _
  rw [eB_eq, eB_eq, fN_eq]
  simp only
  cases Nat.beq z' z <;> cases Nat.ble len m <;> rfl
theorem vIdxS_eq (g : Opd → AV) (x i : Opd) : vIdxS (g x) (g i) k = (match pop g (.idxS x i) with | some v => k v | none => false) := by
  simp only [pop]
  cases g x <;> try rfl
  cases g i <;> try rfl
  rename_i s kd m
  cases m <;> try rfl
  rename_i m
  show opt (nth s m) false (fun c => fN c fun c => k (.int .u8 (.ofNat c))) = _
  rw [opt_eq, nth_eq]
  simp only
  cases s[m]? with
  | none => rfl
  | some c => exact fN_eq _ _
theorem vExt_eq (g : Opd → AV) (n : Nat) (x : Opd) : vExt n (g x) k = (match pop g (.ext n x) with | some v => k v | none => false) := by
  simp only [pop]
  cases g x <;> try rfl
  rename_i l
  show opt (nth l n) false (fun v => fA v k) = _
  rw [opt_eq, nth_eq]
  simp only
  cases l[n]? with
  | none => rfl
  | some v => exact fA_eq _ _
theorem vLenS_eq (g : Opd → AV) (x : Opd) : vLenS (g x) k = (match pop g (.lenS x) with | some v => k v | none => false) := by
  simp only [pop]
  cases g x <;> try rfl
  rename_i s
  show fN (ln s) (fun n => k (.int .i64 (.ofNat n))) = _
  rw [fN_eq, ln_eq]
  rfl
theorem vLen_eq (g : Opd → AV) (x : Opd) : vLen (g x) k = (match pop g (.len x) with | some v => k v | none => false) := by
  simp only [pop]
  cases g x <;> rfl
theorem vEqf_eq (g : Opd → AV) (n a : Bool) (ks : List Nat) (x y : Opd) : vEqf n a ks (g x) (g y) k = (match pop g (.eqf n a ks x y) with | some v => k v | none => false) := by
  unfold vEqf
  simp only [pop, opt_eq, eB_eq]
  cases aeqf a ks (g x) (g y) with
  | none => rfl
  | some b => cases b <;> cases n <;> rfl
theorem vEqn_eq (g : Opd → AV) (n : Bool) (a : Nat) (x y : Opd) : vEqn n a (g x) (g y) k = (match pop g (.eqn n a x y) with | some v => k v | none => false) := by
  unfold vEqn
  simp only [pop, opt_eq, eB_eq]
  cases aeqn a (g x) (g y) with
  | none => rfl
  | some b => cases b <;> cases n <;> rfl
end

/-! ## Memory -/
abbrev KM := AV → Tr Blk → Nat → Bool
def cB : Tr Blk → Nat → Option Blk := Quick.get
def eBlk (o : Option Blk) (k : Tr AV → Nat → Bool) : Bool := Option.rec (motive := fun _ => (Tr AV → Nat → Bool) → Bool) (fun _ => false) (fun b k => Blk.rec (motive := fun _ => (Tr AV → Nat → Bool) → Bool) (fun c m k => k c m) (fun _ _ _ => false) b k) o k
theorem eBlk_eq (o : Option Blk) (k : Tr AV → Nat → Bool) : eBlk o k = (match o with | some (.cells c m) => k c m | _ => false) := by
  cases o with
  | none => rfl
  | some b => cases b <;> rfl

def wLoad1 (x : AV) (H : Tr Blk) (nx : Nat) (k : KM) : Bool := ePtr x fun b o => eBlk (Quick.get H b) fun c m => eB (Nat.ble (Nat.succ o) m) (opt (Quick.get c o) false fun v => k v H nx) false
def wLoadN (n : Nat) (x : AV) (H : Tr Blk) (nx : Nat) (k : KM) : Bool := ePtr x fun b o => eBlk (Quick.get H b) fun c m => eB (Nat.ble (Nat.add o n) m) (Quick.take1 false n c o fun l => k (.agg l) H nx) false
def wStore (n : Nat) (ro : Nat) (x v : AV) (H : Tr Blk) (nx : Nat) (k : KM) : Bool := ePtr x fun b o => eBlk (Quick.get H b) fun c m =>
  eB (Nat.ble ro b) (eB (Nat.ble (Nat.add o n) m) (eB (Quick.chk (Quick.cells1 v) n) (Quick.put1 (Quick.cells1 v) o c fun c => Quick.setK (.cells c m) H b fun H => k (.tup []) H nx) false) false) false
def wNew (l : List AV) (H : Tr Blk) (nx : Nat) (k : KM) : Bool := Quick.put1 l (nat_lit 0) .e fun c => fN (ln l) fun n => Quick.setK (.cells c n) H nx fun H => fN (Nat.succ nx) fun nx' => k (.ptr nx (nat_lit 0)) H nx'
def wBox (x : AV) (H : Tr Blk) (nx : Nat) (k : KM) : Bool := wNew (Quick.cells1 x) H nx k

def outM (o : Out) (k : KM) : Bool := match o with | some (v, H, nx) => k v H nx | none => false

section
variable (call : FuncId → List AV → Tr Blk → Nat → Nat → Out) (ro : Nat) (g : Opd → AV) (H : Tr Blk) (nx : Nat) (k : KM)

theorem wLoad1_eq (x : Opd) : wLoad1 (g x) H nx k = outM (hop call ro g H nx (.load false 1 x)) k := by
  simp only [hop]
  cases g x <;> try rfl
  rename_i b o
  show eBlk (Quick.get H b) _ = _
  rw [eBlk_eq, Quick.get_eq]
  simp only
  cases H.get b with
  | none => rfl
  | some bl => cases bl with
    | iter s p => rfl
    | cells c m =>
      simp only [eB_eq, opt_eq, Quick.get_eq]
      show (bif (o + 1).ble m then _ else false) = _
      cases (o + 1).ble m
      · rfl
      · simp only [cond_true, take]
        cases c.get o <;> rfl

theorem wLoadN_eq (n : Nat) (x : Opd) : wLoadN n (g x) H nx k = outM (hop call ro g H nx (.load true n x)) k := by
  simp only [hop]
  cases g x <;> try rfl
  rename_i b o
  show eBlk (Quick.get H b) _ = _
  rw [eBlk_eq, Quick.get_eq]
  simp only
  cases H.get b with
  | none => rfl
  | some bl => cases bl with
    | iter s p => rfl
    | cells c m =>
      simp only [eB_eq, Quick.take1_eq]
      show (bif (o + n).ble m then _ else false) = _
      cases (o + n).ble m
      · rfl
      · simp only [cond_true]
        cases take c o n <;> rfl

theorem wStore_eq (n : Nat) (x v : Opd) : wStore n ro (g x) (g v) H nx k = outM (hop call ro g H nx (.store n x v)) k := by
  simp only [hop]
  cases g x <;> try rfl
  rename_i b o
  show eBlk (Quick.get H b) _ = _
  rw [eBlk_eq, Quick.get_eq]
  simp only
  cases H.get b with
  | none => rfl
  | some bl => cases bl with
    | iter s p => rfl
    | cells c m =>
      simp only [eB_eq, Quick.chk_eq, Quick.put1_eq, Quick.cells1_eq, Quick.setK_eq, putK_eq, setB_eq]
      show (bif ro.ble b then bif (o + n).ble m then _ else false else false) = _
      cases ro.ble b <;> cases (o + n).ble m <;> cases (acells (g v)).length.beq n <;> cases (acells (g v)).all aone <;> simp [Tr.setK_eq, outM]
      rfl

theorem wNew_eq (l : List AV) : wNew l H nx k = outM (newCells l (fun b => .ptr b 0) H nx) k := by
  unfold wNew newCells newB
  rw [Quick.put1_eq, putK_eq, putK_eq, fN_eq, Quick.setK_eq, forceN_eq, ln_eq, Tr.setK_eq, Tr.setK_eq, fN_eq, forceN_eq]
  rfl
end
end Swift
end
end Go.Vm

