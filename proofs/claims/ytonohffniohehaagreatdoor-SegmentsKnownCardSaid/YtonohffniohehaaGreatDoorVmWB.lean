/-
  The rules for operations that only compute.
-/
import Derived.Test.YtonohffniohehaaGreatDoorVmWA
set_option linter.unusedSimpArgs false
set_option linter.unusedVariables false
set_option linter.unusedSectionVars false
set_option linter.unnecessarySimpa false
namespace Go.Vm
namespace W
variable {B:Base} {call:FuncId→List AV→Tr Blk→Nat→Nat→Out} {ro:Nat}
def inR (k:IntKind) (n:Int):Prop:=match k with
 | .i8=> -128≤n∧n≤127
 | .i16=> -32768≤n∧n≤32767
 | .i32=> -2147483648≤n∧n≤2147483647
 | .i64=> -9223372036854775808≤n∧n≤9223372036854775807
 | .u8=>0≤n∧n≤255
 | .u16=>0≤n∧n≤65535
 | .u32=>0≤n∧n≤4294967295
 | .u64=>0≤n∧n≤18446744073709551615
theorem wrap_in {k:IntKind} {n:Int} (h:inR k n):k.wrap n=n:=by
 by_cases h0:0≤n
 ·refine jtq k n h0 ?_
  cases k<;>simp only[inR] at h<;>simp only[j9b]<;>omega
 ·refine j5y k n ?_ (by omega) ?_
  ·cases k<;>simp only[inR] at h<;>first | rfl | omega
  ·cases k<;>simp only[inR] at h<;>simp only[j9b]<;>omega
def j5r (op:BinOp) (a b:AV):Option AV:=
 match a,b with
 | .int k x,.int k' y=>bif keq k k' then(match op with
     | .add=>some (.int k (k.wrap (x+y)))
     | .sub=>some (.int k (k.wrap (x-y)))
     | .mul=>some (.int k (k.wrap (x*y)))
     | .and=>some (.int k (k.wrap (BitVec.ofInt k.bits x &&& BitVec.ofInt k.bits y).toNat))
     | .or=>some (.int k (k.wrap (BitVec.ofInt k.bits x ||| BitVec.ofInt k.bits y).toNat))
     | .xor=>some (.int k (k.wrap (BitVec.ofInt k.bits x ^^^ BitVec.ofInt k.bits y).toNat))
     | .andNot=>some (.int k (k.wrap (BitVec.ofInt k.bits x &&& ~~~ BitVec.ofInt k.bits y).toNat))
     | .eql=>some (.bool (decide (x=y)))
     | .neq=>some (.bool (decide (x≠y)))
     | .lss=>some (.bool (decide (x<y)))
     | .leq=>some (.bool (decide (x≤y)))
     | .gtr=>some (.bool (decide (y<x)))
     | .geq=>some (.bool (decide (y≤x)))
     | _=>none) else none
 | .str s,.str t=>match op with
     | .eql=>some (.bool (decide (s=t)))
     | .neq=>some (.bool (decide (s≠t)))
     | .lss=>some (.bool (jrz s t))
     | .gtr=>some (.bool (!(jrz s t||j0z s t)))
     | .leq=>some (.bool (jrz s t||j0z s t))
     | .geq=>some (.bool (!jrz s t))
     | _=>none
 | _,_=>none
theorem jna (x y:Int):ieq x y=decide (x=y):=by
 rw[jsx,Bool.eq_iff_iff];simp
theorem j6s (x y:List Nat):j0z x y=decide (x=y):=by
 rw[Bool.eq_iff_iff,jzn];simp
theorem jn4 {op:BinOp} {a b v:AV} (h:j5r op a b=some v):j3g op a b=some v:=by
 unfold j5r at h
 split at h
 ·rename_i k x k' y
  obtain⟨hk,h⟩:=jah h
  cases op<;>simp only[reduceCtorEq] at h<;>simp only[j3g,hk,cond_true,jes,jna,jm9]<;>rw[←h]<;>
   first
   | rfl
   | (congr 2;rw[Bool.eq_iff_iff];simp)
 ·cases op<;>simp only[reduceCtorEq] at h<;>simp only[j3g,j6s] at h ⊢<;>rw[←h]<;>
   first
   | rfl
   | (congr 2;rw[Bool.eq_iff_iff];simp)
 ·cases h
def kph:Nat→AV→AV→Option Bool
 | 1,.int k a,.int k' b=>bif keq k k' then some (decide (a=b)) else none
 | 0,.bool a,.bool b=>some (a==b)
 | 2,.str a,.str b=>some (decide (a=b))
 | _,_,_=>none
def jvx:List Nat→List AV→List AV→Option Bool
 | [],[],[]=>some true
 | k::ks,a::l,b::m=>match kph k a b,jvx ks l m with
   | some p,some q=>some (p&&q)
   | _,_=>none
 | _,_,_=>none
theorem ki3 {k:Nat} {a b:AV} {p:Bool} (h:kph k a b=some p):ceq k a b=some p:=by
 unfold kph at h
 split at h
 ·obtain⟨hk,h⟩:=jah h
  simp only[ceq,hk,cond_true,jna];exact h
 ·exact h
 ·simp only[ceq,j6s];exact h
 ·cases h
theorem jz8:∀ {ks:List Nat} {l m:List AV} {p:Bool},jvx ks l m=some p→jog ks l m=some p
 | [],[],[],p,h=>h
 | k::ks,a::l,b::m,p,h=>by
   simp only[jvx] at h
   split at h
   ·rename_i x y hx hy
    simp only[jog,ki3 hx]
    cases x with
    | true=>simp only[Bool.true_and] at h;simp only[jz8 hy];exact h
    | false=>simpa using h
   ·cases h
 | [],[],_::_,_,h=>by cases h
 | [],_::_,_,_,h=>by cases h
 | _::_,[],_,_,h=>by cases h
 | _::_,_::_,[],_,h=>by cases h
def j81 (agg:Bool) (ks:List Nat) (a b:AV):Option Bool:=
 bif agg then(match a,b with
  | .agg l,.agg m=>bif l.length.beq ks.length&&m.length.beq ks.length then jvx ks l m else none
  | _,_=>none) else jvx ks [a] [b]
theorem kfa {agg:Bool} {ks:List Nat} {a b:AV} {p:Bool} (h:j81 agg ks a b=some p):jyc agg ks a b=some p:=by
 unfold j81 at h
 unfold jyc
 cases agg with
 | false=>exact jz8 h
 | true=>
   simp only[cond_true] at h ⊢
   split at h
   ·obtain⟨hk,h⟩:=jah h
    simp only[hk,cond_true]
    exact jz8 h
   ·cases h
def kck:AV→List AV→Option AV
 | x,[]=>some x
 | .int k x,.int _ y::r=>kck (.int k (min x y)) r
 | _,_=>none
def kcl:AV→List AV→Option AV
 | x,[]=>some x
 | .int k x,.int _ y::r=>kcl (.int k (max x y)) r
 | _,_=>none
theorem j7f:∀(l:List AV) (x:AV),kck x l=ki9 x l
 | [],x=>by cases x<;>rfl
 | a::l,x=>by
   cases x<;>cases a<;>try rfl
   rename_i k n k' m
   simp only[kck,ki9,j7f l]
   congr 2
   rw[jm9]
   by_cases h:n≤m<;>simp[h]<;>omega
theorem j7g:∀(l:List AV) (x:AV),kcl x l=kja x l
 | [],x=>by cases x<;>rfl
 | a::l,x=>by
   cases x<;>cases a<;>try rfl
   rename_i k n k' m
   simp only[kcl,kja,j7g l]
   congr 2
   rw[jm9]
   by_cases h:m≤n<;>simp[h]<;>omega
def j4m (g:Opd→AV):I→Option AV
 | .bin op x y=>j5r op (g x) (g y)
 | .eqf n agg ks x y=>match j81 agg ks (g x) (g y) with
   | some b=>some (.bool (bif n then !b else b))
   | none=>none
 | .eqn n kd x y=>match j80 kd (g x) (g y) with
   | some b=>some (.bool (bif n then !b else b))
   | none=>none
 | .neg x=>match g x with | .int k n=>some (.int k (k.wrap (-n))) | _=>none
 | .cvi k x=>match g x with | .int _ n=>some (.int k (k.wrap n)) | _=>none
 | .mins x xs=>kck (g x) (xs.map g)
 | .maxs x xs=>kcl (g x) (xs.map g)
 | i=>pop g i
theorem jmq {g:Opd→AV} {i:I} {v:AV} (h:j4m g i=some v):pop g i=some v:=by
 cases i<;>try exact h
 case bin op x y=>exact jn4 h
 case eqf n agg ks x y=>
  simp only[j4m] at h
  split at h
  ·rename_i b hb
   simp only[pop,kfa hb]
   rw[←h];cases n<;>simp
  ·cases h
 case eqn n kd x y=>
  simp only[j4m] at h
  split at h
  ·rename_i b hb
   simp only[pop,hb]
   rw[←h];cases n<;>simp
  ·cases h
 case neg x=>
  simp only[j4m,pop] at h ⊢
  cases hx:g x<;>rw[hx] at h<;>first | (simp only[jes,Int.zero_sub];exact h) | cases h
 case cvi k x=>
  simp only[j4m,pop] at h ⊢
  cases hx:g x<;>rw[hx] at h<;>first | (simp only[jes];exact h) | cases h
 case mins x xs=>simp only[j4m,j7f] at h;exact h
 case maxs x xs=>simp only[j4m,j7g] at h;exact h
section
variable {t:Fr} {O:List Ent} {K:Fr→List Ent→Prop} {r:List COp} {d:Option Nat} {q:Bool} {ex:List Opd}
def krk (t:Fr) (i:I):Bool:=i.opds.all fun x=>(gv t x).isSome
theorem kce {n:Int} (h:0≤n):n=Int.ofNat n.toNat:=by
 cases n with
 | ofNat n=>rfl
 | negSucc n=>omega
theorem FA.same {tm:Tr AV} (ht:FA t tm) {n:Nat} {v:AV} (h:lk t n=some v):FA ((n,v)::t) tm:=by
 intro m u hu
 simp only[lk,jaa] at hu
 by_cases hm:n=m
 ·subst hm
  simp only[decide_true,cond_true,Option.some.injEq] at hu
  subst hu
  exact ht _ _ h
 ·simp only[hm,decide_false,cond_false] at hu
  exact ht m u hu
end
end W
end Go.Vm
