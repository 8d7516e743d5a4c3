/-
  The rules for operations that only compute.
-/
import Derived.Test.YtahplmacekfjgaaGreatDoorVmWA
set_option linter.unusedSimpArgs false
set_option linter.unusedVariables false
set_option linter.unusedSectionVars false
set_option linter.unnecessarySimpa false
namespace Go.Vm
namespace W
variable {B:Base} {call:FuncId→List AV→Tr Blk→Nat→Nat→Out} {ro:Nat}
def inR (k:IntKind) (n:Int):Prop:=match k with
 | .i8=> -128≤n∧n≤127
 | .i16=> -32768≤n∧n≤32767
 | .i32=> -2147483648≤n∧n≤2147483647
 | .i64=> -9223372036854775808≤n∧n≤9223372036854775807
 | .u8=>0≤n∧n≤255
 | .u16=>0≤n∧n≤65535
 | .u32=>0≤n∧n≤4294967295
 | .u64=>0≤n∧n≤18446744073709551615
theorem ka8 {k:IntKind} {n:Int} (h:inR k n):k.wrap n=n:=by
 by_cases h0:0≤n
 ·refine jrd k n h0 ?_
  cases k<;>simp only[inR] at h<;>simp only[j4t]<;>omega
 ·refine j1b k n ?_ (by omega) ?_
  ·cases k<;>simp only[inR] at h<;>first | rfl | omega
  ·cases k<;>simp only[inR] at h<;>simp only[j4t]<;>omega
def j02 (op:BinOp) (a b:AV):Option AV:=
 match a,b with
 | .int k x,.int k' y=>bif keq k k' then(match op with
     | .add=>some (.int k (k.wrap (x+y)))
     | .sub=>some (.int k (k.wrap (x-y)))
     | .mul=>some (.int k (k.wrap (x*y)))
     | .and=>some (.int k (k.wrap (BitVec.ofInt k.bits x &&& BitVec.ofInt k.bits y).toNat))
     | .or=>some (.int k (k.wrap (BitVec.ofInt k.bits x ||| BitVec.ofInt k.bits y).toNat))
     | .xor=>some (.int k (k.wrap (BitVec.ofInt k.bits x ^^^ BitVec.ofInt k.bits y).toNat))
     | .andNot=>some (.int k (k.wrap (BitVec.ofInt k.bits x &&& ~~~ BitVec.ofInt k.bits y).toNat))
     | .eql=>some (.bool (decide (x=y)))
     | .neq=>some (.bool (decide (x≠y)))
     | .lss=>some (.bool (decide (x<y)))
     | .leq=>some (.bool (decide (x≤y)))
     | .gtr=>some (.bool (decide (y<x)))
     | .geq=>some (.bool (decide (y≤x)))
     | _=>none) else none
 | .str s,.str t=>match op with
     | .eql=>some (.bool (decide (s=t)))
     | .neq=>some (.bool (decide (s≠t)))
     | .lss=>some (.bool (jpz s t))
     | .gtr=>some (.bool (!(jpz s t||jwx s t)))
     | .leq=>some (.bool (jpz s t||jwx s t))
     | .geq=>some (.bool (!jpz s t))
     | _=>none
 | _,_=>none
theorem jlv (x y:Int):ieq x y=decide (x=y):=by
 rw[jqs,Bool.eq_iff_iff];simp
theorem j17 (x y:List Nat):jwx x y=decide (x=y):=by
 rw[Bool.eq_iff_iff,jvy];simp
theorem jmc {op:BinOp} {a b v:AV} (h:j02 op a b=some v):jy7 op a b=some v:=by
 unfold j02 at h
 split at h
 ·rename_i k x k' y
  obtain⟨hk,h⟩:=jaf h
  cases op<;>simp only[reduceCtorEq] at h<;>simp only[jy7,hk,cond_true,jd1,jlv,jlu]<;>rw[←h]<;>
   first
   | rfl
   | (congr 2;rw[Bool.eq_iff_iff];simp)
 ·cases op<;>simp only[reduceCtorEq] at h<;>simp only[jy7,j17] at h ⊢<;>rw[←h]<;>
   first
   | rfl
   | (congr 2;rw[Bool.eq_iff_iff];simp)
 ·cases h
def kii:Nat→AV→AV→Option Bool
 | 1,.int k a,.int k' b=>bif keq k k' then some (decide (a=b)) else none
 | 0,.bool a,.bool b=>some (a==b)
 | 2,.str a,.str b=>some (decide (a=b))
 | _,_,_=>none
def js8:List Nat→List AV→List AV→Option Bool
 | [],[],[]=>some true
 | k::ks,a::l,b::m=>match kii k a b,js8 ks l m with
   | some p,some q=>some (p&&q)
   | _,_=>none
 | _,_,_=>none
theorem kc6 {k:Nat} {a b:AV} {p:Bool} (h:kii k a b=some p):ceq k a b=some p:=by
 unfold kii at h
 split at h
 ·obtain⟨hk,h⟩:=jaf h
  simp only[ceq,hk,cond_true,jlv];exact h
 ·exact h
 ·simp only[ceq,j17];exact h
 ·cases h
theorem jwh:∀ {ks:List Nat} {l m:List AV} {p:Bool},js8 ks l m=some p→jmr ks l m=some p
 | [],[],[],p,h=>h
 | k::ks,a::l,b::m,p,h=>by
   simp only[js8] at h
   split at h
   ·rename_i x y hx hy
    simp only[jmr,kc6 hx]
    cases x with
    | true=>simp only[Bool.true_and] at h;simp only[jwh hy];exact h
    | false=>simpa using h
   ·cases h
 | [],[],_::_,_,h=>by cases h
 | [],_::_,_,_,h=>by cases h
 | _::_,[],_,_,h=>by cases h
 | _::_,_::_,[],_,h=>by cases h
def j4i (agg:Bool) (ks:List Nat) (a b:AV):Option Bool:=
 bif agg then(match a,b with
  | .agg l,.agg m=>bif l.length.beq ks.length&&m.length.beq ks.length then js8 ks l m else none
  | _,_=>none) else js8 ks [a] [b]
theorem j94 {agg:Bool} {ks:List Nat} {a b:AV} {p:Bool} (h:j4i agg ks a b=some p):ju0 agg ks a b=some p:=by
 unfold j4i at h
 unfold ju0
 cases agg with
 | false=>exact jwh h
 | true=>
   simp only[cond_true] at h ⊢
   split at h
   ·obtain⟨hk,h⟩:=jaf h
    simp only[hk,cond_true]
    exact jwh h
   ·cases h
def j7y:AV→List AV→Option AV
 | x,[]=>some x
 | .int k x,.int _ y::r=>j7y (.int k (min x y)) r
 | _,_=>none
def j7z:AV→List AV→Option AV
 | x,[]=>some x
 | .int k x,.int _ y::r=>j7z (.int k (max x y)) r
 | _,_=>none
theorem j2w:∀(l:List AV) (x:AV),j7y x l=kdg x l
 | [],x=>by cases x<;>rfl
 | a::l,x=>by
   cases x<;>cases a<;>try rfl
   rename_i k n k' m
   simp only[j7y,kdg,j2w l]
   congr 2
   rw[jlu]
   by_cases h:n≤m<;>simp[h]<;>omega
theorem j2x:∀(l:List AV) (x:AV),j7z x l=kdh x l
 | [],x=>by cases x<;>rfl
 | a::l,x=>by
   cases x<;>cases a<;>try rfl
   rename_i k n k' m
   simp only[j7z,kdh,j2x l]
   congr 2
   rw[jlu]
   by_cases h:m≤n<;>simp[h]<;>omega
def jz2 (g:Opd→AV):I→Option AV
 | .bin op x y=>j02 op (g x) (g y)
 | .eqf n agg ks x y=>match j4i agg ks (g x) (g y) with
   | some b=>some (.bool (bif n then !b else b))
   | none=>none
 | .eqn n kd x y=>match j4h kd (g x) (g y) with
   | some b=>some (.bool (bif n then !b else b))
   | none=>none
 | .neg x=>match g x with | .int k n=>some (.int k (k.wrap (-n))) | _=>none
 | .cvi k x=>match g x with | .int _ n=>some (.int k (k.wrap n)) | _=>none
 | .mins x xs=>j7y (g x) (xs.map g)
 | .maxs x xs=>j7z (g x) (xs.map g)
 | i=>pop g i
theorem jlb {g:Opd→AV} {i:I} {v:AV} (h:jz2 g i=some v):pop g i=some v:=by
 cases i<;>try exact h
 case bin op x y=>exact jmc h
 case eqf n agg ks x y=>
  simp only[jz2] at h
  split at h
  ·rename_i b hb
   simp only[pop,j94 hb]
   rw[←h];cases n<;>simp
  ·cases h
 case eqn n kd x y=>
  simp only[jz2] at h
  split at h
  ·rename_i b hb
   simp only[pop,hb]
   rw[←h];cases n<;>simp
  ·cases h
 case neg x=>
  simp only[jz2,pop] at h ⊢
  cases hx:g x<;>rw[hx] at h<;>first | (simp only[jd1,Int.zero_sub];exact h) | cases h
 case cvi k x=>
  simp only[jz2,pop] at h ⊢
  cases hx:g x<;>rw[hx] at h<;>first | (simp only[jd1];exact h) | cases h
 case mins x xs=>simp only[jz2,j2w] at h;exact h
 case maxs x xs=>simp only[jz2,j2x] at h;exact h
section
variable {t:Fr} {O:List Ent} {K:Fr→List Ent→Prop} {r:List COp} {d:Option Nat} {q:Bool} {ex:List Opd}
def ki2 (t:Fr) (i:I):Bool:=i.opds.all fun x=>(gv t x).isSome
theorem j7s {n:Int} (h:0≤n):n=Int.ofNat n.toNat:=by
 cases n with
 | ofNat n=>rfl
 | negSucc n=>omega
theorem FA.same {tm:Tr AV} (ht:FA t tm) {n:Nat} {v:AV} (h:lk t n=some v):FA ((n,v)::t) tm:=by
 intro m u hu
 simp only[lk,jaa] at hu
 by_cases hm:n=m
 ·subst hm
  simp only[decide_true,cond_true,Option.some.injEq] at hu
  subst hu
  exact ht _ _ h
 ·simp only[hm,decide_false,cond_false] at hu
  exact ht m u hu
end
end W
end Go.Vm
