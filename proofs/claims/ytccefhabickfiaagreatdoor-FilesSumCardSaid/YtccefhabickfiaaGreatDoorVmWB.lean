/-
  The rules for operations that only compute.
-/
import Derived.Test.YtccefhabickfiaaGreatDoorVmWA
set_option linter.unusedSimpArgs false
set_option linter.unusedVariables false
set_option linter.unusedSectionVars false
set_option linter.unnecessarySimpa false
namespace Go.Vm
namespace W
variable {B:Base} {call:FuncId→List AV→Tr Blk→Nat→Nat→Out} {ro:Nat}
def inR (k:IntKind) (n:Int):Prop:=match k with
 | .i8=> -128≤n∧n≤127
 | .i16=> -32768≤n∧n≤32767
 | .i32=> -2147483648≤n∧n≤2147483647
 | .i64=> -9223372036854775808≤n∧n≤9223372036854775807
 | .u8=>0≤n∧n≤255
 | .u16=>0≤n∧n≤65535
 | .u32=>0≤n∧n≤4294967295
 | .u64=>0≤n∧n≤18446744073709551615
theorem wrap_in {k:IntKind} {n:Int} (h:inR k n):k.wrap n=n:=by
 by_cases h0:0≤n
 ·refine wrap_pos k n h0 ?_
  cases k<;>simp only[inR] at h<;>simp only[klim]<;>omega
 ·refine wrap_neg k n ?_ (by omega) ?_
  ·cases k<;>simp only[inR] at h<;>first | rfl | omega
  ·cases k<;>simp only[inR] at h<;>simp only[klim]<;>omega
def abinS (op:BinOp) (a b:AV):Option AV:=
 match a,b with
 | .int k x,.int k' y=>bif keq k k' then(match op with
     | .add=>some (.int k (k.wrap (x+y)))
     | .sub=>some (.int k (k.wrap (x-y)))
     | .mul=>some (.int k (k.wrap (x*y)))
     | .and=>some (.int k (k.wrap (BitVec.ofInt k.bits x &&& BitVec.ofInt k.bits y).toNat))
     | .or=>some (.int k (k.wrap (BitVec.ofInt k.bits x ||| BitVec.ofInt k.bits y).toNat))
     | .xor=>some (.int k (k.wrap (BitVec.ofInt k.bits x ^^^ BitVec.ofInt k.bits y).toNat))
     | .andNot=>some (.int k (k.wrap (BitVec.ofInt k.bits x &&& ~~~ BitVec.ofInt k.bits y).toNat))
     | .eql=>some (.bool (decide (x=y)))
     | .neq=>some (.bool (decide (x≠y)))
     | .lss=>some (.bool (decide (x<y)))
     | .leq=>some (.bool (decide (x≤y)))
     | .gtr=>some (.bool (decide (y<x)))
     | .geq=>some (.bool (decide (y≤x)))
     | _=>none) else none
 | .str s,.str t=>match op with
     | .eql=>some (.bool (decide (s=t)))
     | .neq=>some (.bool (decide (s≠t)))
     | .lss=>some (.bool (lless s t))
     | .gtr=>some (.bool (!(lless s t||lbeq s t)))
     | .leq=>some (.bool (lless s t||lbeq s t))
     | .geq=>some (.bool (!lless s t))
     | _=>none
 | _,_=>none
theorem ieq_dec (x y:Int):ieq x y=decide (x=y):=by
 rw[ieq_eq,Bool.eq_iff_iff];simp
theorem lbeq_dec (x y:List Nat):lbeq x y=decide (x=y):=by
 rw[Bool.eq_iff_iff,lbeq_iff];simp
theorem abinS_ok {op:BinOp} {a b v:AV} (h:abinS op a b=some v):abin op a b=some v:=by
 unfold abinS at h
 split at h
 ·rename_i k x k' y
  obtain⟨hk,h⟩:=of_bif h
  cases op<;>simp only[reduceCtorEq] at h<;>simp only[abin,hk,cond_true,wrapQ_eq,ieq_dec,ile_eq]<;>rw[←h]<;>
   first
   | rfl
   | (congr 2;rw[Bool.eq_iff_iff];simp)
 ·cases op<;>simp only[reduceCtorEq] at h<;>simp only[abin,lbeq_dec] at h ⊢<;>rw[←h]<;>
   first
   | rfl
   | (congr 2;rw[Bool.eq_iff_iff];simp)
 ·cases h
def ceqS:Nat→AV→AV→Option Bool
 | 1,.int k a,.int k' b=>bif keq k k' then some (decide (a=b)) else none
 | 0,.bool a,.bool b=>some (a==b)
 | 2,.str a,.str b=>some (decide (a=b))
 | _,_,_=>none
def ceqsS:List Nat→List AV→List AV→Option Bool
 | [],[],[]=>some true
 | k::ks,a::l,b::m=>match ceqS k a b,ceqsS ks l m with
   | some p,some q=>some (p&&q)
   | _,_=>none
 | _,_,_=>none
theorem ceqS_ok {k:Nat} {a b:AV} {p:Bool} (h:ceqS k a b=some p):ceq k a b=some p:=by
 unfold ceqS at h
 split at h
 ·obtain⟨hk,h⟩:=of_bif h
  simp only[ceq,hk,cond_true,ieq_dec];exact h
 ·exact h
 ·simp only[ceq,lbeq_dec];exact h
 ·cases h
theorem ceqsS_ok:∀ {ks:List Nat} {l m:List AV} {p:Bool},ceqsS ks l m=some p→ceqs ks l m=some p
 | [],[],[],p,h=>h
 | k::ks,a::l,b::m,p,h=>by
   simp only[ceqsS] at h
   split at h
   ·rename_i x y hx hy
    simp only[ceqs,ceqS_ok hx]
    cases x with
    | true=>simp only[Bool.true_and] at h;simp only[ceqsS_ok hy];exact h
    | false=>simpa using h
   ·cases h
 | [],[],_::_,_,h=>by cases h
 | [],_::_,_,_,h=>by cases h
 | _::_,[],_,_,h=>by cases h
 | _::_,_::_,[],_,h=>by cases h
def aeqfS (agg:Bool) (ks:List Nat) (a b:AV):Option Bool:=
 bif agg then(match a,b with
  | .agg l,.agg m=>bif l.length.beq ks.length&&m.length.beq ks.length then ceqsS ks l m else none
  | _,_=>none) else ceqsS ks [a] [b]
theorem aeqfS_ok {agg:Bool} {ks:List Nat} {a b:AV} {p:Bool} (h:aeqfS agg ks a b=some p):aeqf agg ks a b=some p:=by
 unfold aeqfS at h
 unfold aeqf
 cases agg with
 | false=>exact ceqsS_ok h
 | true=>
   simp only[cond_true] at h ⊢
   split at h
   ·obtain⟨hk,h⟩:=of_bif h
    simp only[hk,cond_true]
    exact ceqsS_ok h
   ·cases h
def aminS:AV→List AV→Option AV
 | x,[]=>some x
 | .int k x,.int _ y::r=>aminS (.int k (min x y)) r
 | _,_=>none
def amaxS:AV→List AV→Option AV
 | x,[]=>some x
 | .int k x,.int _ y::r=>amaxS (.int k (max x y)) r
 | _,_=>none
theorem aminS_ok:∀(l:List AV) (x:AV),aminS x l=amin x l
 | [],x=>by cases x<;>rfl
 | a::l,x=>by
   cases x<;>cases a<;>try rfl
   rename_i k n k' m
   simp only[aminS,amin,aminS_ok l]
   congr 2
   rw[ile_eq]
   by_cases h:n≤m<;>simp[h]<;>omega
theorem amaxS_ok:∀(l:List AV) (x:AV),amaxS x l=amax x l
 | [],x=>by cases x<;>rfl
 | a::l,x=>by
   cases x<;>cases a<;>try rfl
   rename_i k n k' m
   simp only[amaxS,amax,amaxS_ok l]
   congr 2
   rw[ile_eq]
   by_cases h:m≤n<;>simp[h]<;>omega
def popS (g:Opd→AV):I→Option AV
 | .bin op x y=>abinS op (g x) (g y)
 | .eqf n agg ks x y=>match aeqfS agg ks (g x) (g y) with
   | some b=>some (.bool (bif n then !b else b))
   | none=>none
 | .eqn n kd x y=>match aeqn kd (g x) (g y) with
   | some b=>some (.bool (bif n then !b else b))
   | none=>none
 | .neg x=>match g x with | .int k n=>some (.int k (k.wrap (-n))) | _=>none
 | .cvi k x=>match g x with | .int _ n=>some (.int k (k.wrap n)) | _=>none
 | .mins x xs=>aminS (g x) (xs.map g)
 | .maxs x xs=>amaxS (g x) (xs.map g)
 | i=>pop g i
theorem popS_ok {g:Opd→AV} {i:I} {v:AV} (h:popS g i=some v):pop g i=some v:=by
 cases i<;>try exact h
 case bin op x y=>exact abinS_ok h
 case eqf n agg ks x y=>
  simp only[popS] at h
  split at h
  ·rename_i b hb
   simp only[pop,aeqfS_ok hb]
   rw[←h];cases n<;>simp
  ·cases h
 case eqn n kd x y=>
  simp only[popS] at h
  split at h
  ·rename_i b hb
   simp only[pop,hb]
   rw[←h];cases n<;>simp
  ·cases h
 case neg x=>
  simp only[popS,pop] at h ⊢
  cases hx:g x<;>rw[hx] at h<;>first | (simp only[wrapQ_eq,Int.zero_sub];exact h) | cases h
 case cvi k x=>
  simp only[popS,pop] at h ⊢
  cases hx:g x<;>rw[hx] at h<;>first | (simp only[wrapQ_eq];exact h) | cases h
 case mins x xs=>simp only[popS,aminS_ok] at h;exact h
 case maxs x xs=>simp only[popS,amaxS_ok] at h;exact h
section
variable {t:Fr} {O:List Ent} {K:Fr→List Ent→Prop} {r:List COp} {d:Option Nat} {q:Bool} {ex:List Opd}
def knows (t:Fr) (i:I):Bool:=i.opds.all fun x=>(gv t x).isSome
theorem asNat {n:Int} (h:0≤n):n=Int.ofNat n.toNat:=by
 cases n with
 | ofNat n=>rfl
 | negSucc n=>omega
theorem FA.same {tm:Tr AV} (ht:FA t tm) {n:Nat} {v:AV} (h:lk t n=some v):FA ((n,v)::t) tm:=by
 intro m u hu
 simp only[lk,beq_dec] at hu
 by_cases hm:n=m
 ·subst hm
  simp only[decide_true,cond_true,Option.some.injEq] at hu
  subst hu
  exact ht _ _ h
 ·simp only[hm,decide_false,cond_false] at hu
  exact ht m u hu
end
end W
end Go.Vm
