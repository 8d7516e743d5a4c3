/- The rules for operations that only compute. -/
import Derived.Test.YtccefhabickfiaaGreatDoorVmWA
set_option linter.unusedSimpArgs false
set_option linter.unusedVariables false
namespace Go.Vm
namespace W
variable {B:Base} {call:FuncId->List AV->Tr Blk->Nat->Nat->dR} {ro:Nat}
def inR (k:IntKind) (n:Int):Prop:=match k with
 | .i8=> -128<=n/\n<=127
 | .i16=> -32768<=n/\n<=32767
 | .i32=> -2147483648<=n/\n<=2147483647
 | .i64=> -9223372036854775808<=n/\n<=9223372036854775807
 | .u8=>0<=n/\n<=255
 | .u16=>0<=n/\n<=65535
 | .u32=>0<=n/\n<=4294967295
 | .u64=>0<=n/\n<=18446744073709551615
theorem wrap_in {k:IntKind} {n:Int} (h:inR k n):k.wrap n=n:=by
 by_cases h0:0<=n
 ·refine jqq k n h0 ?_;cases k<;>simp only[inR] at h<;>simp only[yO]<;>omega
 ·refine j6e k n ?_ (by omega) ?_
  ·cases k<;>simp only[inR] at h<;>first | rfl | omega
  ·cases k<;>simp only[inR] at h<;>simp only[yO]<;>omega
def ja1 (op:BinOp) (a b:AV):Option AV:=
 match a,b with
 | .int k x,.int k' y=>bif oX k k' then(match op with
     | .add=>some (.int k (k.wrap (x+y)))
     | .sub=>some (.int k (k.wrap (x-y)))
     | .mul=>some (.int k (k.wrap (x*y)))
     | .and=>some (.int k (k.wrap (BitVec.ofInt k.bits x &&& BitVec.ofInt k.bits y).toNat))
     | .or=>some (.int k (k.wrap (BitVec.ofInt k.bits x ||| BitVec.ofInt k.bits y).toNat))
     | .xor=>some (.int k (k.wrap (BitVec.ofInt k.bits x ^^^ BitVec.ofInt k.bits y).toNat))
     | .andNot=>some (.int k (k.wrap (BitVec.ofInt k.bits x &&& ~~~ BitVec.ofInt k.bits y).toNat))
     | .eql=>some (.bool (decide (x=y)))
     | .neq=>some (.bool (decide (x≠y)))
     | .lss=>some (.bool (decide (x<y)))
     | .leq=>some (.bool (decide (x<=y)))
     | .gtr=>some (.bool (decide (y<x)))
     | .geq=>some (.bool (decide (y<=x)))
     | _=>none) else none
 | .str s,.str t=>match op with
     | .eql=>some (.bool (decide (s=t)))
     | .neq=>some (.bool (decide (s≠t)))
     | .lss=>some (.bool (xD s t))
     | .gtr=>some (.bool (!(xD s t||qX s t)))
     | .leq=>some (.bool (xD s t||qX s t))
     | .geq=>some (.bool (!xD s t))
     | _=>none
 | _,_=>none
theorem vY (x y:Int):tZ x y=decide (x=y):=by
 rw[U7,P3];simp
theorem j03 (x y:List Nat):qX x y=decide (x=y):=by
 rw[P3,jtn];simp
theorem jdy {op:BinOp} {a b v:AV} (h:ja1 op a b=some v):rM op a b=some v:=by
 unfold ja1 at h;split at h
 ·rename_i k x k' y;obtain⟨hk,h⟩:=bS h;cases op<;>simp only[reduceCtorEq] at h<;>simp only[rM,hk,aF,xV,vY,m8]<;>rw[<-h]<;>
   first
   | rfl
   | (congr 2;rw[P3];simp)
 ·cases op<;>simp only[reduceCtorEq] at h<;>simp only[rM,j03] at h ⊢<;>rw[<-h]<;>
   first
   | rfl
   | (congr 2;rw[P3];simp)
 ·cases h
def jlp:Nat->AV->AV->Option Bool
 | 1,.int k a,.int k' b=>bif oX k k' then some (decide (a=b)) else none
 | 0,.bool a,.bool b=>some (a==b)
 | 2,.str a,.str b=>some (decide (a=b))
 | _,_,_=>none
def c8:List Nat->List AV->List AV->Option Bool
 | [],[],[]=>some true
 | k::ks,a::l,b::m=>match jlp k a b,c8 ks l m with
   | some p,some q=>some (p&&q)
   | _,_=>none
 | _,_,_=>none
theorem kb5 {k:Nat} {a b:AV} {p:Bool} (h:jlp k a b=some p):pX k a b=some p:=by
 unfold jlp at h;split at h
 ·obtain⟨hk,h⟩:=bS h;simp only[pX,hk,aF,vY];exact h
 ·exact h
 ·simp only[pX,j03];exact h
 ·cases h
theorem jr9:∀ {ks:List Nat} {l m:List AV} {p:Bool},c8 ks l m=some p->jZ ks l m=some p
 | [],[],[],p,h=>h
 | k::ks,a::l,b::m,p,h=>by
   simp only[c8] at h;split at h
   ·rename_i x y hx hy;simp only[jZ,kb5 hx];cases x with
    | true=>simp only[sY] at h;simp only[jr9 hy];exact h
    | false=>simpa using h
   ·cases h
 | [],[],_::_,_,h=>by cases h
 | [],_::_,_,_,h=>by cases h
 | _::_,[],_,_,h=>by cases h
 | _::_,_::_,[],_,h=>by cases h
def jdz (agg:Bool) (ks:List Nat) (a b:AV):Option Bool:=
 bif agg then(match a,b with
  | .agg l,.agg m=>bif l.length.beq ks.length&&m.length.beq ks.length then c8 ks l m else none
  | _,_=>none) else c8 ks [a] [b]
theorem j9m {agg:Bool} {ks:List Nat} {a b:AV} {p:Bool} (h:jdz agg ks a b=some p):pE agg ks a b=some p:=by
 unfold jdz at h;unfold pE;cases agg with
 | false=>exact jr9 h
 | true=>
   simp only[aF] at h ⊢;split at h
   ·obtain⟨hk,h⟩:=bS h;simp only[hk,aF];exact jr9 h
   ·cases h
def jgm:AV->List AV->Option AV
 | x,[]=>some x
 | .int k x,.int _ y::r=>jgm (.int k (min x y)) r
 | _,_=>none
def jgl:AV->List AV->Option AV
 | x,[]=>some x
 | .int k x,.int _ y::r=>jgl (.int k (max x y)) r
 | _,_=>none
theorem jxo:∀(l:List AV) (x:AV),jgm x l=ja3 x l
 | [],x=>by cases x<;>rfl
 | a::l,x=>by
   cases x<;>cases a<;>try rfl
   rename_i k n k' m;simp only[jgm,ja3,jxo l]
   congr 2
   rw[m8];by_cases h:n<=m<;>simp[h]<;>omega
theorem jxm:∀(l:List AV) (x:AV),jgl x l=ja2 x l
 | [],x=>by cases x<;>rfl
 | a::l,x=>by
   cases x<;>cases a<;>try rfl
   rename_i k n k' m;simp only[jgl,ja2,jxm l]
   congr 2
   rw[m8];by_cases h:m<=n<;>simp[h]<;>omega
def uN (g:Opd->AV):I->Option AV
 | .bin op x y=>ja1 op (g x) (g y)
 | .eqf n agg ks x y=>match jdz agg ks (g x) (g y) with
   | some b=>some (.bool (bif n then !b else b))
   | none=>none
 | .eqn n kd x y=>match wS kd (g x) (g y) with
   | some b=>some (.bool (bif n then !b else b))
   | none=>none
 | .neg x=>match g x with | .int k n=>some (.int k (k.wrap (-n))) | _=>none
 | .cvi k x=>match g x with | .int _ n=>some (.int k (k.wrap n)) | _=>none
 | .mins x xs=>jgm (g x) (xs.map g)
 | .maxs x xs=>jgl (g x) (xs.map g)
 | i=>cT g i
theorem X5 {g:Opd->AV} {i:I} {v:AV} (h:uN g i=some v):cT g i=some v:=by
 cases i<;>try exact h
 case bin op x y=>exact jdy h
 case eqf n agg ks x y=>
  simp only[uN] at h;split at h
  ·rename_i b hb;simp only[cT,j9m hb];rw[<-h];cases n<;>simp
  ·cases h
 case eqn n kd x y=>
  simp only[uN] at h;split at h
  ·rename_i b hb;simp only[cT,hb];rw[<-h];cases n<;>simp
  ·cases h
 case neg x=>
  simp only[uN,cT] at h ⊢;cases hx:g x<;>rw[hx] at h<;>first | (simp only[xV,Int.zero_sub];exact h) | cases h
 case cvi k x=>
  simp only[uN,cT] at h ⊢;cases hx:g x<;>rw[hx] at h<;>first | (simp only[xV];exact h) | cases h
 case mins x xs=>simp only[uN,jxo] at h;exact h
 case maxs x xs=>simp only[uN,jxm] at h;exact h
section
variable {t:Fr} {O:List Ent} {K:Fr->List Ent->Prop} {r:List COp} {d:Option Nat} {q:Bool} {ex:List Opd}
def knows (t:Fr) (i:I):Bool:=i.opds.all λx=>(gv t x).isSome
theorem jgs {n:Int} (h:0<=n):n=Int.ofNat n.toNat:=by
 cases n with
 | ofNat n=>rfl
 | negSucc n=>omega
theorem FA.same {tm:Tr AV} (ht:FA t tm) {n:Nat} {v:AV} (h:lk t n=some v):FA ((n,v)::t) tm:=by
 intro m u hu;simp only[lk,bE] at hu;by_cases hm:n=m
 ·subst hm;simp only[aZ,aF,aS] at hu;subst hu;exact ht _ _ h
 ·simp only[hm,bA,aG] at hu;exact ht m u hu
end
end W
end Go.Vm
