/-
  The rules for operations that only compute.
-/
import Derived.Test.YtldgdgacdcenkaaGreatDoorVmWA
set_option linter.unusedSimpArgs false
set_option linter.unusedVariables false
namespace Go.Vm
namespace W
variable {B:Base} {call:FuncId→List AV→Tr Blk→Nat→Nat→Out} {ro:Nat}
def inR (k:IntKind) (n:Int):Prop:=match k with
 | .i8=> -128≤n∧n≤127
 | .i16=> -32768≤n∧n≤32767
 | .i32=> -2147483648≤n∧n≤2147483647
 | .i64=> -9223372036854775808≤n∧n≤9223372036854775807
 | .u8=>0≤n∧n≤255
 | .u16=>0≤n∧n≤65535
 | .u32=>0≤n∧n≤4294967295
 | .u64=>0≤n∧n≤18446744073709551615
theorem wrap_in {k:IntKind} {n:Int} (h:inR k n):k.wrap n=n:=by
 by_cases h0:0≤n
 ·refine jnu k n h0 ?_
  cases k<;>simp only[inR] at h<;>simp only[j2a]<;>omega
 ·refine jyf k n ?_ (by omega) ?_
  ·cases k<;>simp only[inR] at h<;>first | rfl | omega
  ·cases k<;>simp only[inR] at h<;>simp only[j2a]<;>omega
def jya (op:BinOp) (a b:AV):Option AV:=
 match a,b with
 | .int k x,.int k' y=>bif keq k k' then(match op with
     | .add=>some (.int k (k.wrap (x+y)))
     | .sub=>some (.int k (k.wrap (x-y)))
     | .mul=>some (.int k (k.wrap (x*y)))
     | .and=>some (.int k (k.wrap (BitVec.ofInt k.bits x &&& BitVec.ofInt k.bits y).toNat))
     | .or=>some (.int k (k.wrap (BitVec.ofInt k.bits x ||| BitVec.ofInt k.bits y).toNat))
     | .xor=>some (.int k (k.wrap (BitVec.ofInt k.bits x ^^^ BitVec.ofInt k.bits y).toNat))
     | .andNot=>some (.int k (k.wrap (BitVec.ofInt k.bits x &&& ~~~ BitVec.ofInt k.bits y).toNat))
     | .eql=>some (.bool (decide (x=y)))
     | .neq=>some (.bool (decide (x≠y)))
     | .lss=>some (.bool (decide (x<y)))
     | .leq=>some (.bool (decide (x≤y)))
     | .gtr=>some (.bool (decide (y<x)))
     | .geq=>some (.bool (decide (y≤x)))
     | _=>none) else none
 | .str s,.str t=>match op with
     | .eql=>some (.bool (decide (s=t)))
     | .neq=>some (.bool (decide (s≠t)))
     | .lss=>some (.bool (jmi s t))
     | .gtr=>some (.bool (!(jmi s t||jwh s t)))
     | .leq=>some (.bool (jmi s t||jwh s t))
     | .geq=>some (.bool (!jmi s t))
     | _=>none
 | _,_=>none
theorem jmp (x y:Int):ieq x y=decide (x=y):=by
 rw[ju6,Bool.eq_iff_iff];simp
theorem jzg (x y:List Nat):jwh x y=decide (x=y):=by
 rw[Bool.eq_iff_iff,jst];simp
theorem jja {op:BinOp} {a b v:AV} (h:jya op a b=some v):jwj op a b=some v:=by
 unfold jya at h
 split at h
 ·rename_i k x k' y
  obtain⟨hk,h⟩:=jag h
  cases op<;>simp only[reduceCtorEq] at h<;>simp only[jwj,hk,cond_true,jc7,jmp,jim]<;>rw[←h]<;>
   first
   | rfl
   | (congr 2;rw[Bool.eq_iff_iff];simp)
 ·cases op<;>simp only[reduceCtorEq] at h<;>simp only[jwj,jzg] at h ⊢<;>rw[←h]<;>
   first
   | rfl
   | (congr 2;rw[Bool.eq_iff_iff];simp)
 ·cases h
def kfp:Nat→AV→AV→Option Bool
 | 1,.int k a,.int k' b=>bif keq k k' then some (decide (a=b)) else none
 | 0,.bool a,.bool b=>some (a==b)
 | 2,.str a,.str b=>some (decide (a=b))
 | _,_,_=>none
def jps:List Nat→List AV→List AV→Option Bool
 | [],[],[]=>some true
 | k::ks,a::l,b::m=>match kfp k a b,jps ks l m with
   | some p,some q=>some (p&&q)
   | _,_=>none
 | _,_,_=>none
theorem ka9 {k:Nat} {a b:AV} {p:Bool} (h:kfp k a b=some p):ceq k a b=some p:=by
 unfold kfp at h
 split at h
 ·obtain⟨hk,h⟩:=jag h
  simp only[ceq,hk,cond_true,jmp];exact h
 ·exact h
 ·simp only[ceq,jzg];exact h
 ·cases h
theorem jti:∀ {ks:List Nat} {l m:List AV} {p:Bool},jps ks l m=some p→jvp ks l m=some p
 | [],[],[],p,h=>h
 | k::ks,a::l,b::m,p,h=>by
   simp only[jps] at h
   split at h
   ·rename_i x y hx hy
    simp only[jvp,ka9 hx]
    cases x with
    | true=>simp only[Bool.true_and] at h;simp only[jti hy];exact h
    | false=>simpa using h
   ·cases h
 | [],[],_::_,_,h=>by cases h
 | [],_::_,_,_,h=>by cases h
 | _::_,[],_,_,h=>by cases h
 | _::_,_::_,[],_,h=>by cases h
def j13 (agg:Bool) (ks:List Nat) (a b:AV):Option Bool:=
 bif agg then(match a,b with
  | .agg l,.agg m=>bif l.length.beq ks.length&&m.length.beq ks.length then jps ks l m else none
  | _,_=>none) else jps ks [a] [b]
theorem j75 {agg:Bool} {ks:List Nat} {a b:AV} {p:Bool} (h:j13 agg ks a b=some p):ke9 agg ks a b=some p:=by
 unfold j13 at h
 unfold ke9
 cases agg with
 | false=>exact jti h
 | true=>
   simp only[cond_true] at h ⊢
   split at h
   ·obtain⟨hk,h⟩:=jag h
    simp only[hk,cond_true]
    exact jti h
   ·cases h
def j5k:AV→List AV→Option AV
 | x,[]=>some x
 | .int k x,.int _ y::r=>j5k (.int k (min x y)) r
 | _,_=>none
def j5l:AV→List AV→Option AV
 | x,[]=>some x
 | .int k x,.int _ y::r=>j5l (.int k (max x y)) r
 | _,_=>none
theorem jz4:∀(l:List AV) (x:AV),j5k x l=kbg x l
 | [],x=>by cases x<;>rfl
 | a::l,x=>by
   cases x<;>cases a<;>try rfl
   rename_i k n k' m
   simp only[j5k,kbg,jz4 l]
   congr 2
   rw[jim]
   by_cases h:n≤m<;>simp[h]<;>omega
theorem jz5:∀(l:List AV) (x:AV),j5l x l=kbh x l
 | [],x=>by cases x<;>rfl
 | a::l,x=>by
   cases x<;>cases a<;>try rfl
   rename_i k n k' m
   simp only[j5l,kbh,jz5 l]
   congr 2
   rw[jim]
   by_cases h:m≤n<;>simp[h]<;>omega
def jw1 (g:Opd→AV):I→Option AV
 | .bin op x y=>jya op (g x) (g y)
 | .eqf n agg ks x y=>match j13 agg ks (g x) (g y) with
   | some b=>some (.bool (bif n then !b else b))
   | none=>none
 | .eqn n kd x y=>match j12 kd (g x) (g y) with
   | some b=>some (.bool (bif n then !b else b))
   | none=>none
 | .neg x=>match g x with | .int k n=>some (.int k (k.wrap (-n))) | _=>none
 | .cvi k x=>match g x with | .int _ n=>some (.int k (k.wrap n)) | _=>none
 | .mins x xs=>j5k (g x) (xs.map g)
 | .maxs x xs=>j5l (g x) (xs.map g)
 | i=>pop g i
theorem jh9 {g:Opd→AV} {i:I} {v:AV} (h:jw1 g i=some v):pop g i=some v:=by
 cases i<;>try exact h
 case bin op x y=>exact jja h
 case eqf n agg ks x y=>
  simp only[jw1] at h
  split at h
  ·rename_i b hb
   simp only[pop,j75 hb]
   rw[←h];cases n<;>simp
  ·cases h
 case eqn n kd x y=>
  simp only[jw1] at h
  split at h
  ·rename_i b hb
   simp only[pop,hb]
   rw[←h];cases n<;>simp
  ·cases h
 case neg x=>
  simp only[jw1,pop] at h ⊢
  cases hx:g x<;>rw[hx] at h<;>first | (simp only[jc7,Int.zero_sub];exact h) | cases h
 case cvi k x=>
  simp only[jw1,pop] at h ⊢
  cases hx:g x<;>rw[hx] at h<;>first | (simp only[jc7];exact h) | cases h
 case mins x xs=>simp only[jw1,jz4] at h;exact h
 case maxs x xs=>simp only[jw1,jz5] at h;exact h
section
variable {t:Fr} {O:List Ent} {K:Fr→List Ent→Prop} {r:List COp} {d:Option Nat} {q:Bool} {ex:List Opd}
theorem j5e {n:Int} (h:0≤n):n=Int.ofNat n.toNat:=by
 cases n with
 | ofNat n=>rfl
 | negSucc n=>omega
theorem FA.same {tm:Tr AV} (ht:FA t tm) {n:Nat} {v:AV} (h:lk t n=some v):FA ((n,v)::t) tm:=by
 intro m u hu
 simp only[lk,jab] at hu
 by_cases hm:n=m
 ·subst hm
  simp only[decide_true,cond_true,Option.some.injEq] at hu
  subst hu
  exact ht _ _ h
 ·simp only[hm,decide_false,cond_false] at hu
  exact ht m u hu
end
end W
end Go.Vm
