/-
  The rules for operations that only compute.
-/
import Derived.Test.YtccefhabickfiaaGreatDoorVmWA
set_option linter.unusedSimpArgs false
set_option linter.unusedVariables false
set_option linter.unusedSectionVars false
set_option linter.unnecessarySimpa false
namespace Go.Vm
namespace W
variable {B:Base} {call:FuncId->List AV->Tr Blk->Nat->Nat->eQ} {ro:Nat}
def inR (k:IntKind) (n:Int):Prop:=match k with
 | .i8=> -128<=n/\n<=127
 | .i16=> -32768<=n/\n<=32767
 | .i32=> -2147483648<=n/\n<=2147483647
 | .i64=> -9223372036854775808<=n/\n<=9223372036854775807
 | .u8=>0<=n/\n<=255
 | .u16=>0<=n/\n<=65535
 | .u32=>0<=n/\n<=4294967295
 | .u64=>0<=n/\n<=18446744073709551615
theorem wrap_in {k:IntKind} {n:Int} (h:inR k n):k.wrap n=n:=by
 by_cases h0:0<=n
 ·refine jrk k n h0 ?_;cases k<;>simp only[inR] at h<;>simp only[D1]<;>omega
 ·refine j6g k n ?_ (by omega) ?_
  ·cases k<;>simp only[inR] at h<;>first | rfl | omega
  ·cases k<;>simp only[inR] at h<;>simp only[D1]<;>omega
def jcr (op:BinOp) (a b:AV):Option AV:=
 match a,b with
 | .int k x,.int k' y=>bif rV k k' then(match op with
     | .add=>some (.int k (k.wrap (x+y)))
     | .sub=>some (.int k (k.wrap (x-y)))
     | .mul=>some (.int k (k.wrap (x*y)))
     | .and=>some (.int k (k.wrap (BitVec.ofInt k.bits x &&& BitVec.ofInt k.bits y).toNat))
     | .or=>some (.int k (k.wrap (BitVec.ofInt k.bits x ||| BitVec.ofInt k.bits y).toNat))
     | .xor=>some (.int k (k.wrap (BitVec.ofInt k.bits x ^^^ BitVec.ofInt k.bits y).toNat))
     | .andNot=>some (.int k (k.wrap (BitVec.ofInt k.bits x &&& ~~~ BitVec.ofInt k.bits y).toNat))
     | .eql=>some (.bool (decide (x=y)))
     | .neq=>some (.bool (decide (x≠y)))
     | .lss=>some (.bool (decide (x<y)))
     | .leq=>some (.bool (decide (x<=y)))
     | .gtr=>some (.bool (decide (y<x)))
     | .geq=>some (.bool (decide (y<=x)))
     | _=>none) else none
 | .str s,.str t=>match op with
     | .eql=>some (.bool (decide (s=t)))
     | .neq=>some (.bool (decide (s≠t)))
     | .lss=>some (.bool (u6 s t))
     | .gtr=>some (.bool (!(u6 s t||uK s t)))
     | .leq=>some (.bool (u6 s t||uK s t))
     | .geq=>some (.bool (!u6 s t))
     | _=>none
 | _,_=>none
theorem uH (x y:Int):yE x y=decide (x=y):=by
 rw[jbm,qfs];simp
theorem j1w (x y:List Nat):uK x y=decide (x=y):=by
 rw[qfs,jui];simp
theorem jex {op:BinOp} {a b v:AV} (h:jcr op a b=some v):vD op a b=some v:=by
 unfold jcr at h;split at h
 ·rename_i k x k' y;obtain⟨hk,h⟩:=cF h;cases op<;>simp only[reduceCtorEq] at h<;>simp only[vD,hk,aH,A9,uH,K2]<;>rw[<-h]<;>
   first
   | rfl
   | (congr 2;rw[qfs];simp)
 ·cases op<;>simp only[reduceCtorEq] at h<;>simp only[vD,j1w] at h ⊢<;>rw[<-h]<;>
   first
   | rfl
   | (congr 2;rw[qfs];simp)
 ·cases h
def jog:Nat->AV->AV->Option Bool
 | 1,.int k a,.int k' b=>bif rV k k' then some (decide (a=b)) else none
 | 0,.bool a,.bool b=>some (a==b)
 | 2,.str a,.str b=>some (decide (a=b))
 | _,_,_=>none
def I9:List Nat->List AV->List AV->Option Bool
 | [],[],[]=>some true
 | k::ks,a::l,b::m=>match jog k a b,I9 ks l m with
   | some p,some q=>some (p&&q)
   | _,_=>none
 | _,_,_=>none
theorem kcj {k:Nat} {a b:AV} {p:Bool} (h:jog k a b=some p):sZ k a b=some p:=by
 unfold jog at h;split at h
 ·obtain⟨hk,h⟩:=cF h;simp only[sZ,hk,aH,uH];exact h
 ·exact h
 ·simp only[sZ,j1w];exact h
 ·cases h
theorem js4:∀ {ks:List Nat} {l m:List AV} {p:Bool},I9 ks l m=some p->mD ks l m=some p
 | [],[],[],p,h=>h
 | k::ks,a::l,b::m,p,h=>by
   simp only[I9] at h;split at h
   ·rename_i x y hx hy;simp only[mD,kcj hx];cases x with
    | true=>simp only[sK] at h;simp only[js4 hy];exact h
    | false=>simpa using h
   ·cases h
 | [],[],_::_,_,h=>by cases h
 | [],_::_,_,_,h=>by cases h
 | _::_,[],_,_,h=>by cases h
 | _::_,_::_,[],_,h=>by cases h
def jey (agg:Bool) (ks:List Nat) (a b:AV):Option Bool:=
 bif agg then(match a,b with
  | .agg l,.agg m=>bif l.length.beq ks.length&&m.length.beq ks.length then I9 ks l m else none
  | _,_=>none) else I9 ks [a] [b]
theorem j9s {agg:Bool} {ks:List Nat} {a b:AV} {p:Bool} (h:jey agg ks a b=some p):sF agg ks a b=some p:=by
 unfold jey at h;unfold sF;cases agg with
 | false=>exact js4 h
 | true=>
   simp only[aH] at h ⊢;split at h
   ·obtain⟨hk,h⟩:=cF h;simp only[hk,aH];exact js4 h
   ·cases h
def ji4:AV->List AV->Option AV
 | x,[]=>some x
 | .int k x,.int _ y::r=>ji4 (.int k (min x y)) r
 | _,_=>none
def ji3:AV->List AV->Option AV
 | x,[]=>some x
 | .int k x,.int _ y::r=>ji3 (.int k (max x y)) r
 | _,_=>none
theorem jyj:∀(l:List AV) (x:AV),ji4 x l=jct x l
 | [],x=>by cases x<;>rfl
 | a::l,x=>by
   cases x<;>cases a<;>try rfl
   rename_i k n k' m;simp only[ji4,jct,jyj l]
   congr 2
   rw[K2];by_cases h:n<=m<;>simp[h]<;>omega
theorem jyh:∀(l:List AV) (x:AV),ji3 x l=jcs x l
 | [],x=>by cases x<;>rfl
 | a::l,x=>by
   cases x<;>cases a<;>try rfl
   rename_i k n k' m;simp only[ji3,jcs,jyh l]
   congr 2
   rw[K2];by_cases h:m<=n<;>simp[h]<;>omega
def yP (g:Opd->AV):I->Option AV
 | .bin op x y=>jcr op (g x) (g y)
 | .eqf n agg ks x y=>match jey agg ks (g x) (g y) with
   | some b=>some (.bool (bif n then !b else b))
   | none=>none
 | .eqn n kd x y=>match p7 kd (g x) (g y) with
   | some b=>some (.bool (bif n then !b else b))
   | none=>none
 | .neg x=>match g x with | .int k n=>some (.int k (k.wrap (-n))) | _=>none
 | .cvi k x=>match g x with | .int _ n=>some (.int k (k.wrap n)) | _=>none
 | .mins x xs=>ji4 (g x) (xs.map g)
 | .maxs x xs=>ji3 (g x) (xs.map g)
 | i=>dQ g i
theorem jb4 {g:Opd->AV} {i:I} {v:AV} (h:yP g i=some v):dQ g i=some v:=by
 cases i<;>try exact h
 case bin op x y=>exact jex h
 case eqf n agg ks x y=>
  simp only[yP] at h;split at h
  ·rename_i b hb;simp only[dQ,j9s hb];rw[<-h];cases n<;>simp
  ·cases h
 case eqn n kd x y=>
  simp only[yP] at h;split at h
  ·rename_i b hb;simp only[dQ,hb];rw[<-h];cases n<;>simp
  ·cases h
 case neg x=>
  simp only[yP,dQ] at h ⊢;cases hx:g x<;>rw[hx] at h<;>first | (simp only[A9,Int.zero_sub];exact h) | cases h
 case cvi k x=>
  simp only[yP,dQ] at h ⊢;cases hx:g x<;>rw[hx] at h<;>first | (simp only[A9];exact h) | cases h
 case mins x xs=>simp only[yP,jyj] at h;exact h
 case maxs x xs=>simp only[yP,jyh] at h;exact h
section
variable {t:Fr} {O:List Ent} {K:Fr->List Ent->Prop} {r:List COp} {d:Option Nat} {q:Bool} {ex:List Opd}
def khx (t:Fr) (i:I):Bool:=i.opds.all λx=>(gv t x).isSome
theorem jja {n:Int} (h:0<=n):n=Int.ofNat n.toNat:=by
 cases n with
 | ofNat n=>rfl
 | negSucc n=>omega
def bnd (t:Fr):Option Opd->Int->Int->Prop
 | none,dflt,n=>n=dflt
 | some x,_,n=>∃k,gv t x=some (.int k n)
theorem bnd.of {x:Opd} {dflt n:Int} {k:IntKind} (h:gv t x=some (.int k n)):bnd t (some x) dflt n:=⟨k,h⟩
theorem bnd.no {dflt:Int}:bnd t none dflt dflt:=rfl
theorem FA.same {tm:Tr AV} (ht:FA t tm) {n:Nat} {v:AV} (h:lk t n=some v):FA ((n,v)::t) tm:=by
 intro m u hu;simp only[lk,bQ] at hu;by_cases hm:n=m
 ·subst hm;simp only[aU,aH,bA] at hu;subst hu;exact ht _ _ h
 ·simp only[hm,aT,aJ] at hu;exact ht m u hu
end
end W
end Go.Vm
