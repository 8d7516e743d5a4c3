/- Parts of the proof. -/
import Derived.Test.YtccefhabickfiaaGreatDoorVmWA
set_option linter.unusedSimpArgs false
set_option linter.defProp false
set_option linter.unusedVariables false
namespace Go.Vm
namespace W
variable {B:Base} {call:FuncId->List AV->Tr Blk->Nat->Nat->bN} {ro:Nat}
def inR (k:IntKind) (n:Int):Prop:=match k with
 | .i8=> -128<=n/\n<=127
 | .i16=> -32768<=n/\n<=32767
 | .i32=> -2147483648<=n/\n<=2147483647
 | .i64=> -9223372036854775808<=n/\n<=9223372036854775807
 | .u8=>0<=n/\n<=255
 | .u16=>0<=n/\n<=65535
 | .u32=>0<=n/\n<=4294967295
 | .u64=>0<=n/\n<=18446744073709551615
def wrap_in {k:IntKind} {n:Int} (h:inR k n):k.wrap n=n:=by
 by_cases h0:0<=n
 ·refine Ww k n h0 ?_;cases k<;>simp only[inR] at h<;>simp only[qU]<;>omega
 ·refine jrt k n ?_ (by omega) ?_
  ·cases k<;>simp only[inR] at h<;>first | rfl | omega
  ·cases k<;>simp only[inR] at h<;>simp only[qU]<;>omega
def zL (op:BinOp) (a b:AV):Option AV:=
 match a,b with
 | .int k x,.int k' y=>bif jO k k' then(match op with
     | .add=>some (.int k (k.wrap (x+y)))
     | .sub=>some (.int k (k.wrap (x-y)))
     | .mul=>some (.int k (k.wrap (x*y)))
     | .and=>some (.int k (k.wrap (BitVec.ofInt k.bits x &&& BitVec.ofInt k.bits y).toNat))
     | .or=>some (.int k (k.wrap (BitVec.ofInt k.bits x ||| BitVec.ofInt k.bits y).toNat))
     | .xor=>some (.int k (k.wrap (BitVec.ofInt k.bits x ^^^ BitVec.ofInt k.bits y).toNat))
     | .andNot=>some (.int k (k.wrap (BitVec.ofInt k.bits x &&& ~~~ BitVec.ofInt k.bits y).toNat))
     | .eql=>some (.bool (decide (x=y)))
     | .neq=>some (.bool (decide (x≠y)))
     | .lss=>some (.bool (decide (x<y)))
     | .leq=>some (.bool (decide (x<=y)))
     | .gtr=>some (.bool (decide (y<x)))
     | .geq=>some (.bool (decide (y<=x)))
     | _=>none) else none
 | .str s,.str t=>match op with
     | .eql=>some (.bool (decide (s=t)))
     | .neq=>some (.bool (decide (s≠t)))
     | .lss=>some (.bool (pI s t))
     | .gtr=>some (.bool (!(pI s t||lJ s t)))
     | .leq=>some (.bool (pI s t||lJ s t))
     | .geq=>some (.bool (!pI s t))
     | _=>none
 | _,_=>none
def xF (x y:Int):nD x y=decide (x=y):=by
 rw[xG,vR];simp
def jll (x y:List Nat):lJ x y=decide (x=y):=by
 rw[vR,jbh];simp
def Cz {op:BinOp} {a b v:AV} (h:zL op a b=some v):lU op a b=some v:=by
 unfold zL at h;split at h
 ·rename_i k x k' y;obtain⟨hk,h⟩:=aR h;cases op<;>simp only[reduceCtorEq] at h<;>simp only[lU,hk,aB,pY,xF,sD]<;>rw[<-h]<;>
   first
   | rfl
   | (congr 2;rw[vR];simp)
 ·cases op<;>simp only[reduceCtorEq] at h<;>simp only[lU,jll] at h ⊢<;>rw[<-h]<;>
   first
   | rfl
   | (congr 2;rw[vR];simp)
 ·cases h
def Py:Nat->AV->AV->Option Bool
 | 1,.int k a,.int k' b=>bif jO k k' then some (decide (a=b)) else none
 | 0,.bool a,.bool b=>some (a==b)
 | 2,.str a,.str b=>some (decide (a=b))
 | _,_,_=>none
def sA:List Nat->List AV->List AV->Option Bool
 | [],[],[]=>some true
 | k::ks,a::l,b::m=>match Py k a b,sA ks l m with
   | some p,some q=>some (p&&q)
   | _,_=>none
 | _,_,_=>none
def jxh {k:Nat} {a b:AV} {p:Bool} (h:Py k a b=some p):kP k a b=some p:=by
 unfold Py at h;split at h
 ·obtain⟨hk,h⟩:=aR h;simp only[kP,hk,aB,xF];exact h
 ·exact h
 ·simp only[kP,jll];exact h
 ·cases h
def Yy:∀ {ks:List Nat} {l m:List AV} {p:Bool},sA ks l m=some p->fJ ks l m=some p
 | [],[],[],p,h=>h
 | k::ks,a::l,b::m,p,h=>by
   simp only[sA] at h;split at h
   ·rename_i x y hx hy;simp only[fJ,jxh hx];cases x with
    | true=>simp only[sV] at h;simp only[Yy hy];exact h
    | false=>simpa using h
   ·cases h
 | [],[],_::_,_,h=>by cases h
 | [],_::_,_,_,h=>by cases h
 | _::_,[],_,_,h=>by cases h
 | _::_,_::_,[],_,h=>by cases h
def Da (agg:Bool) (ks:List Nat) (a b:AV):Option Bool:=
 bif agg then(match a,b with
  | .agg l,.agg m=>bif l.length.beq ks.length&&m.length.beq ks.length then sA ks l m else none
  | _,_=>none) else sA ks [a] [b]
def ju2 {agg:Bool} {ks:List Nat} {a b:AV} {p:Bool} (h:Da agg ks a b=some p):jV agg ks a b=some p:=by
 unfold Da at h;unfold jV;cases agg with
 | false=>exact Yy h
 | true=>
   simp only[aB] at h ⊢;split at h
   ·obtain⟨hk,h⟩:=aR h;simp only[hk,aB];exact Yy h
   ·cases h
def Ij:AV->List AV->Option AV
 | x,[]=>some x
 | .int k x,.int _ y::r=>Ij (.int k (min x y)) r
 | _,_=>none
def Ii:AV->List AV->Option AV
 | x,[]=>some x
 | .int k x,.int _ y::r=>Ii (.int k (max x y)) r
 | _,_=>none
def jgw:∀(l:List AV) (x:AV),Ij x l=zN x l
 | [],x=>by cases x<;>rfl
 | a::l,x=>by
   cases x<;>cases a<;>try rfl
   rename_i k n k' m;simp only[Ij,zN,jgw l]
   congr 2
   rw[sD];by_cases h:n<=m<;>simp[h]<;>omega
def jgu:∀(l:List AV) (x:AV),Ii x l=zM x l
 | [],x=>by cases x<;>rfl
 | a::l,x=>by
   cases x<;>cases a<;>try rfl
   rename_i k n k' m;simp only[Ii,zM,jgu l]
   congr 2
   rw[sD];by_cases h:m<=n<;>simp[h]<;>omega
def nJ (g:Opd->AV):I->Option AV
 | .bin op x y=>zL op (g x) (g y)
 | .eqf n agg ks x y=>match Da agg ks (g x) (g y) with
   | some b=>some (.bool (bif n then !b else b))
   | none=>none
 | .eqn n kd x y=>match oY kd (g x) (g y) with
   | some b=>some (.bool (bif n then !b else b))
   | none=>none
 | .neg x=>match g x with | .int k n=>some (.int k (k.wrap (-n))) | _=>none
 | .cvi k x=>match g x with | .int _ n=>some (.int k (k.wrap n)) | _=>none
 | .mins x xs=>Ij (g x) (xs.map g)
 | .maxs x xs=>Ii (g x) (xs.map g)
 | i=>bD g i
def yE {g:Opd->AV} {i:I} {v:AV} (h:nJ g i=some v):bD g i=some v:=by
 cases i<;>try exact h
 case bin op x y=>exact Cz h
 case eqf n agg ks x y=>
  simp only[nJ] at h;split at h
  ·rename_i b hb;simp only[bD,ju2 hb];rw[<-h];cases n<;>simp
  ·cases h
 case eqn n kd x y=>
  simp only[nJ] at h;split at h
  ·rename_i b hb;simp only[bD,hb];rw[<-h];cases n<;>simp
  ·cases h
 case neg x=>
  simp only[nJ,bD] at h ⊢;cases hx:g x<;>rw[hx] at h<;>first | (simp only[pY,Int.zero_sub];exact h) | cases h
 case cvi k x=>
  simp only[nJ,bD] at h ⊢;cases hx:g x<;>rw[hx] at h<;>first | (simp only[pY];exact h) | cases h
 case mins x xs=>simp only[nJ,jgw] at h;exact h
 case maxs x xs=>simp only[nJ,jgu] at h;exact h
section
variable {t:Fr} {O:List Ent} {K:Fr->List Ent->Prop} {r:List COp} {d:Option Nat} {q:Bool} {ex:List Opd}
def knows (t:Fr) (i:I):Bool:=i.opds.all λx=>(gv t x).isSome
def Iq {n:Int} (h:0<=n):n=Int.ofNat n.toNat:=by
 cases n with
 | ofNat n=>rfl
 | negSucc n=>omega
def FA.same {tm:Tr AV} (ht:FA t tm) {n:Nat} {v:AV} (h:lk t n=some v):FA ((n,v)::t) tm:=by
 intro m u hu;simp only[lk,aL] at hu;by_cases hm:n=m
 ·subst hm;simp only[bA,aB,aG] at hu;subst hu;exact ht _ _ h
 ·simp only[hm,bM,aF] at hu;exact ht m u hu
end
end W
end Go.Vm
