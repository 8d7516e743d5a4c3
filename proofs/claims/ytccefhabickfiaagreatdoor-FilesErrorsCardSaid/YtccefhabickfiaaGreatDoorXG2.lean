/-
  Operations that only compute, on symbolic values: what comes out, and what must hold.
  Operations that only compute, on symbolic values: that the machine does the same.
  Operations that only compute, on symbolic values: that the machine does the same, all of them.
  Operations that only compute, on symbolic values: that the machine does the same.
-/
import Derived.Test.YtccefhabickfiaaGreatDoorXG1
set_option linter.unusedSimpArgs false
set_option linter.unusedVariables false
set_option linter.unusedSectionVars false
set_option linter.unnecessarySimpa false
namespace Go.Vm
namespace X
open W
def aR (n:Int):Bool:=match n with
 | .ofNat m=>m.ble 9223372036854775807
 | .negSucc m=>m.ble 9223372036854775807
theorem j1b {n:Int}:aR n=true↔ -9223372036854775808<=n/\n<=9223372036854775807:=by
 cases n<;>simp only[aR,bE,aQ,qhy]<;>omega
theorem jdd {n:Int} (h:aR n=true):IntKind.i64.wrap n=n:=by
 have:=j1b.1 h;exact wrap_in (k:=.i64) (by simp only[inR];omega)
def bB (i:Int) (n:Nat):Bool:=decide (0<=i)&&decide (i< (n:Int))
theorem j1h {i:Int} {n:Nat}:bB i n=true↔0<=i/\i< (n:Int):=by simp[bB]
def cU (l h:Int) (n:Nat):Bool:=decide (0<=l)&&decide (l<=h)&&decide (h<=(n:Int))
theorem cN {l h:Int} {n:Nat}:cU l h n=true↔0<=l/\l<=h/\h<=(n:Int):=by simp[cU,and_assoc]
abbrev PS:=Option (Option Bool×SV)
abbrev kG (c:Option Bool):Bool:=match c with
 | none=>true
 | some b=>b
def jbb:Option Bool->Option Bool->Option Bool
 | none,b=>b
 | some a,none=>some a
 | some a,some b=>some (a&&b)
theorem jk7 {a b:Option Bool}:kG (jbb a b)=true↔kG a=true/\kG b=true:=by
 cases a<;>cases b<;>simp[jbb,kG]
def arS (k:IntKind) (n:Int):Option Bool×SV:=match k with
 | .i64=>(some (aR n),.int .i64 n)
 | k=>(none,.int k (k.wrap n))
theorem ji8 {k:IntKind} {n:Int} {c:Option Bool} {s:SV} (h:arS k n=(c,s)) (hc:kG c=true) {ν:Nm} {F:cE}:bO ν F s (.int k (k.wrap n)):=by
 unfold arS at h;split at h<;>simp only[bK] at h<;>obtain⟨rfl,rfl⟩:=h
 ·simp only[bO,jdd (show aR n=true from hc)]
 ·rfl
def asB:SV->Option Bool
 | .bool b=>some b
 | .tt=>some true
 | .ff=>some false
 | _=>none
theorem ji9 {s:SV} {b:Bool} (h:asB s=some b) {ν:Nm} {F:cE} {v:AV} (hv:bO ν F s v):v=.bool b:=by
 cases s<;>simp only[asB,bA,reduceCtorEq] at h<;>subst h<;>exact hv
def khz (k:IntKind) (x y:Int):Int:=k.wrap (BitVec.ofInt k.bits x &&& BitVec.ofInt k.bits y).toNat
def jv0 (op:BinOp) (td:Bool) (a b:SV):PS:=
 match a,b with
 | .int k x,.int k' y=>match op with
   | .shl=>some (some (decide (0<=y)),.int k (k.wrap (x*2^ (min y.toNat k.bits))))
   | .shr=>some (some (decide (0<=y)),.int k (x.fdiv (2^ (min y.toNat k.bits))))
   | op=>bif rV k k' then(match op with
     | .add=>some (arS k (x+y))
     | .sub=>some (arS k (x-y))
     | .mul=>some (arS k (x*y))
     | .quo=>bif td then some (some (decide (y≠0)),.int k (k.wrap (x.tdiv y))) else some (some (decide (0<=x)&&decide (0<y)&&decide (k.wrap (x / y)=x / y)),.int k (x / y))
     | .rem=>bif td then some (some (decide (y≠0)),.int k (x.tmod y)) else some (some (decide (0<=x)&&decide (0<y)),.int k (x%y))
     | .and=>some (none,.int k (khz k x y))
     | .eql=>some (none,.bool (decide (x=y)))
     | .neq=>some (none,.bool (decide (x≠y)))
     | .lss=>some (none,.bool (decide (x<y)))
     | .leq=>some (none,.bool (decide (x<=y)))
     | .gtr=>some (none,.bool (decide (y<x)))
     | .geq=>some (none,.bool (decide (y<=x)))
     | _=>none) else none
 | .str s,.str t=>match op with
   | .add=>some (some (decide (s.length+t.length<=4000000000)),.str (s++t))
   | .eql=>some (none,.bool (decide (s=t)))
   | .neq=>some (none,.bool (decide (s≠t)))
   | .lss=>some (none,.bool (u6 s t))
   | .gtr=>some (none,.bool (!(u6 s t||uK s t)))
   | _=>none
 | _,_=>none
def js2:Nat->SV->SV->Option Bool
 | 1,.int k x,.int k' y=>bif rV k k' then some (decide (x=y)) else none
 | 0,a,b=>match asB a,asB b with
   | some p,some q=>some (p==q)
   | _,_=>none
 | 2,.str s,.str t=>some (decide (s=t))
 | _,_,_=>none
def je4:List Nat->List SV->List SV->Option Bool
 | [],l,m=>match l,m with
   | [],[]=>some true
   | _,_=>none
 | k::ks,l,m=>match l,m with
   | a::l,b::m=>match js2 k a b with
     | some p=>match ks with
       | []=>match l,m with
         | [],[]=>some p
         | _,_=>none
       | k'::ks=>match je4 (k'::ks) l m with
         | some q=>some (p&&q)
         | none=>none
     | none=>none
   | _,_=>none
def jsk (s:Option SB) (b o n z j:Nat):SV:=match s with
 | some (.fix t k _)=>bif !(t.size.beq z)&&(o / t.size).blt k&&(o / t.size*t.size).beq o then .aptr2 b 0 k t.size (o / t.size) 0 n z j 0 else .aptr b o n z j 0
 | _=>.aptr b o n z j 0
def SV.aggL:SV->Option (List SV)
 | .agg l=>some l
 | .ag n t L=>bif(Ty.arr n t).ok then some (C3 (.arr n t) L) else none
 | _=>none
def mkS (agg:Bool) (l:List SV):Option SV:=bif agg then some (.agg l) else match l with
 | [x]=>some x
 | _=>none
def cst?:Opd->Option Nat
 | .c (.int _ (.ofNat n))=>some n
 | _=>none
def jjq:List SV->List (Nat×Nat×SV)->Option (List SV)
 | l,[]=>some l
 | l,(off,size,s)::r=>bif s.cells.length.beq size&&(off+size).ble l.length&&s.cells.all SV.one then jjq (l.take off++(s.cells++l.drop (off+size))) r else none
def jk5:AV->Option SV
 | .int k n=>some (.int k n)
 | .bool true=>some .tt
 | .bool false=>some .ff
 | .str s=>some (.str s)
 | .nils=>some .nils
 | .nilp=>some .nilp
 | .nilf=>some .nilf
 | .nili=>some .nili
 | .nilm=>some .nilm
 | .ptr b o=>some (.ptr (gB+b) o)
 | .fn (.func f) [] []=>some (.fn f [] [])
 | _=>none
def jao:List AV->Option (List SV)
 | []=>some []
 | a::l=>match jk5 a,jao l with
   | some s,some r=>some (s::r)
   | _,_=>none
def jfp (k:IntKind):List SV->Option (List Int)
 | []=>some []
 | .int k' n::l=>bif rV k' k then(match jfp k l with
   | some r=>some (n::r)
   | none=>none) else none
 | _=>none
def jd5 (g:Opd->Option SV):List Opd->Option (List SV)
 | []=>some []
 | x::l=>match g x,jd5 g l with
   | some s,some r=>some (s::r)
   | _,_=>none
def jlx (g:Opd->Option SV):List (Nat×Nat×Opd)->Option (List (Nat×Nat×SV))
 | []=>some []
 | (o,z,x)::l=>match g x,jlx g l with
   | some s,some r=>some ((o,z,s)::r)
   | _,_=>none
def nQ (g:Opd->Option SV):Option Opd->Int->Option Int
 | none,d=>some d
 | some x,_=>match g x with
   | some (.int _ n)=>some n
   | _=>none
section
variable (g:Opd->Option SV) (lm:Nat->Option SB) (td:Bool)
def ssl (z:Nat) (x:SV) (lo hi mx:Option Opd):PS:=
 match x with
 | .own b=>match lm b with
   | some (.arr t L cap)=>bif t.size.beq z then(match mx with
     | none=>bif lo.isNone&&hi.isNone then some (none,.own b) else match nQ g lo 0,nQ g hi L.length with
       | some l,some h=>some (some (cU l h L.length),.view b l.toNat (h.toNat-l.toNat) (cap.map (·- l.toNat)) z)
       | _,_=>none
     | some mx=>match hi with
       | some hi=>match nQ g lo 0,nQ g (some hi) 0,nQ g (some mx) 0 with
         | some l,some h,some m=>some (some (cU l h L.length&&decide (h<=m)&&decide (m<=(L.length:Int))),.view b l.toNat (h.toNat-l.toNat) (some (m.toNat-l.toNat)) z)
         | _,_,_=>none
       | none=>none) else none
   | _=>none
 | .view b o n cap z'=>bif z'.beq z then(match mx with
     | none=>match nQ g lo 0,nQ g hi n with
       | some l,some h=>some (some (cU l h n),.view b (o+l.toNat) (h.toNat-l.toNat) (cap.map (·- l.toNat)) z)
       | _,_=>none
     | some mx=>match hi with
       | some hi=>match nQ g lo 0,nQ g (some hi) 0,nQ g (some mx) 0 with
         | some l,some h,some m=>some (some (cU l h n&&decide (h<=m)&&decide (m<=(n:Int))),.view b (o+l.toNat) (h.toNat-l.toNat) (some (m.toNat-l.toNat)) z)
         | _,_,_=>none
       | none=>none) else none
 | .fz t L=>bif t.size.beq z then(match mx with
     | none=>match nQ g lo 0,nQ g hi L.length with
       | some l,some h=>some (some (cU l h L.length),.fz t ((L.drop l.toNat).take (h.toNat-l.toNat)))
       | _,_=>none
     | some mx=>match hi with
       | some hi=>match nQ g lo 0,nQ g (some hi) 0,nQ g (some mx) 0 with
         | some l,some h,some m=>some (some (cU l h L.length&&decide (h<=m)&&decide (m<=(L.length:Int))),.fz t ((L.drop l.toNat).take (h.toNat-l.toNat)))
         | _,_,_=>none
       | none=>none) else none
 | _=>none
def sp:I->PS
 | .mov x=>(g x).map λs=>(none,s)
 | .pick c a b=>match g c with
   | some .tt=>(g a).map λs=>(none,s)
   | some .ff=>(g b).map λs=>(none,s)
   | some (.bool p)=>match g a,g b with
     | some (.int k x),some (.int k' y)=>bif rV k k' then some (none,.int k (bif p then x else y)) else none
     | some a,some b=>match asB a,asB b with
       | some x,some y=>some (none,.bool (bif p then x else y))
       | _,_=>none
     | _,_=>none
   | _=>none
 | .build z ps=>match jao z,jlx g ps with
   | some l,some ps=>(jjq l ps).map λl=>(none,.agg l)
   | _,_=>none
 | .nilck x=>match g x with
   | some (.ptr b o)=>some (none,.ptr b o)
   | some (.fn f a c)=>some (none,.fn f a c)
   | _=>none
 | .bin op x y=>match g x,g y with
   | some a,some b=>jv0 op td a b
   | _,_=>none
 | .eqf n agg ks x y=>match g x,g y with
   | some a,some b=>match bif agg then(match a.aggL,b.aggL with
      | some l,some m=>je4 ks l m
      | _,_=>none) else je4 ks [a] [b] with
     | some p=>some (none,.bool (bif n then !p else p))
     | none=>none
   | _,_=>none
 | .eqn n kd x y=>match kd,g x,g y with
   | 0,some (.err b),some .nili=>some (none,.bool (bif n then !b else b))
   | 0,some .nili,some .nili=>some (none,bif n then .ff else .tt)
   | 2,some (.fzn _ _),some .nils=>some (none,bif n then .tt else .ff)
   | 2,some .nils,some .nils=>some (none,bif n then .ff else .tt)
   | 3,some (.fn _ _ _),some .nilf=>some (none,bif n then .tt else .ff)
   | _,_,_=>none
 | .neg x=>match g x with
   | some (.int k n)=>some (arS k (-n))
   | _=>none
 | .not x=>match g x with
   | some .tt=>some (none,.ff)
   | some .ff=>some (none,.tt)
   | some (.bool p)=>some (none,.bool !p)
   | _=>none
 | .cvi k x=>match g x with
   | some (.int _ n)=>some (arS k n)
   | _=>none
 | .cvs x=>match g x with
   | some (.str s)=>some (none,.str s)
   | some (.int _ n)=>some (some (bB n 128),.str [n.toNat])
   | _=>none
 | .mkfn (.func f) a c=>match jd5 g a,jd5 g c with
   | some a,some c=>some (none,.fn f a c)
   | _,_=>none
 | .fad off x=>match g x with
   | some (.ptr b o)=>some (none,.ptr b (o+off))
   | some (.eptr b i z f)=>some (none,.eptr b i z (f+off))
   | some (.aptr b o n z i f)=>some (none,.aptr b o n z i (f+off))
   | some (.aptr2 b o n z i f m y j g)=>some (none,.aptr2 b o n z i f m y j (g+off))
   | some (.fptr t x f)=>some (none,.fptr t x (f+off))
   | some (.nptr b t x f)=>some (none,.nptr b t x (f+off))
   | _=>none
 | .fld agg size off x=>match g x with
   | some (.agg l)=>bif(off+size).ble l.length then(mkS agg ((l.drop off).take size)).map λs=>(none,s) else none
   | _=>none
 | .iadA n z x i=>match cst? i with
   | some j=>bif n.ble j then none else match g x with
     | some (.ptr b o)=>some (none,.ptr b (o+j*z))
     | some (.eptr b i z' f)=>some (none,.eptr b i z' (f+j*z))
     | some (.fptr t x f)=>some (none,.fptr t x (f+j*z))
     | some (.aptr b o n z' i f)=>some (none,.aptr b o n z' i (f+j*z))
     | _=>none
   | none=>match g x,g i with
     | some (.ptr b o),some (.int _ m)=>some (some (bB m n),jsk (lm b) b o n z m.toNat)
     | some (.aptr b o k y j f),some (.int _ m)=>some (some (bB m n),.aptr2 b o k y j f n z m.toNat 0)
     | _,_=>none
 | .iadS z x i=>match g x,g i with
   | some (.own b),some (.int _ m)=>match lm b with
     | some (.arr t L cap)=>bif t.size.beq z then some (some (bB m L.length),.eptr b m.toNat z 0) else none
     | _=>none
   | some (.view b o n cap z'),some (.int _ m)=>bif z'.beq z then some (some (bB m n),.eptr b (o+m.toNat) z 0) else none
   | some (.aview b n o k z'),some (.int _ m)=>bif z'.beq z then some (some (bB m k),.aptr b 0 n z (o+m.toNat) 0) else none
   | some (.fz t L),some (.int _ m)=>bif t.size.beq z then some (some (bB m L.length),.fptr t (L.getD m.toNat t.df) 0) else none
   | some (.fzx t L),some (.int _ m)=>bif t.size.beq z then some (some (bB m L.length),.fptr t (L.getD m.toNat t.df) 0) else none
   | _,_=>none
 | .idxA agg n z x i=>match cst? i with
   | some j=>match g x with
     | some (.agg l)=>bif n.ble j|| !((j*z+z).ble l.length) then none else(mkS agg ((l.drop (j*z)).take z)).map λs=>(none,s)
     | _=>none
   | none=>match g x,g i with
     | some (.agg (.int k y::l)),some (.int _ m)=>bif z.beq 1&& !agg&&n.beq (l.length+1) then(match jfp k (.int k y::l) with
       | some r=>some (some (bB m n),.int k (r.getD m.toNat 0))
       | none=>none) else none
     | some (.ag n' t L),some (.int _ m)=>bif t.size.beq z&&t.ok&&n.beq n'&&(t.agg==agg) then some (some (bB m n),D0 t (L.getD m.toNat t.df)) else none
     | _,_=>none
 | .idxS x i=>match g x,g i with
   | some (.str s),some (.int _ m)=>some (some (bB m s.length),.int .u8 ((s.getD m.toNat 0:Nat):Int))
   | _,_=>none
 | .slS z x lo hi mx=>match g x with
   | some s=>ssl g lm z s lo hi mx
   | none=>none
 | .slT x lo hi=>match g x,nQ g lo 0 with
   | some (.str s),some l=>match nQ g hi s.length with
     | some h=>some (some (cU l h s.length),.str ((s.drop l.toNat).take (h.toNat-l.toNat)))
     | none=>none
   | _,_=>none
 | .ext n x=>match g x with
   | some (.tup l)=>match l[n]? with
     | some s=>some (none,s)
     | none=>none
   | _=>none
 | .len x=>match g x with
   | some (.own b)=>match lm b with
     | some (.arr t L cap)=>some (none,.int .i64 (L.length:Nat))
     | _=>none
   | some (.view b o n cap z)=>some (none,.int .i64 (n:Nat))
   | some (.aview b n o m z)=>some (none,.int .i64 (m:Nat))
   | some (.fz t L)=>some (none,.int .i64 (L.length:Nat))
   | some (.fzx t L)=>some (none,.int .i64 (L.length:Nat))
   | some .nils=>some (none,.int .i64 0)
   | some (.emp _)=>some (none,.int .i64 0)
   | _=>none
 | .lenS x=>match g x with
   | some (.str s)=>some (none,.int .i64 (s.length:Nat))
   | _=>none
 | .lenc n=>some (none,.int .i64 (n:Nat))
 | .cap x=>match g x with
   | some (.own b)=>match lm b with
     | some (.arr t L cap)=>some (some (cap.isSome),.int .i64 (cap.getD 0:Nat))
     | _=>none
   | some (.view b o n cap z)=>some (some (cap.isSome),.int .i64 (cap.getD 0:Nat))
   | some (.fzx t L)=>some (none,.int .i64 (L.length:Nat))
   | some .nils=>some (none,.int .i64 0)
   | _=>none
 | .mins x [y]=>match g x,g y with
   | some (.int k a),some (.int k' b)=>bif rV k k' then some (none,.int k (min a b)) else none
   | _,_=>none
 | .maxs x [y]=>match g x,g y with
   | some (.int k a),some (.int k' b)=>bif rV k k' then some (none,.int k (max a b)) else none
   | _,_=>none
 | _=>none
end
end X
end Go.Vm
namespace Go.Vm
namespace X
open W
variable {ν:Nm} {F:cE}
theorem kk (d:IntKind):rV d d=true:=t7.2 rfl
theorem knq {op:BinOp} {td:Bool} {a b s:SV} {c:Option Bool} (h:jv0 op td a b=some (c,s)) (hc:kG c=true) {u v:AV} (hu:bO ν F a u) (hv:bO ν F b v):∃r,vD op u v=some r/\bO ν F s r:=by
 unfold jv0 at h;split at h<;>try (cases h;done)
 ·rename_i k x k' y;simp only[bO] at hu hv;subst hu;subst hv;split at h
  ·simp only[bA,bK] at h;obtain⟨rfl,rfl⟩:=h;simp only[kG,aQ] at hc;refine⟨_,?_,rfl⟩;simp only[vD,K2,hc,aU,aH,A9]
  ·simp only[bA,bK] at h;obtain⟨rfl,rfl⟩:=h;simp only[kG,aQ] at hc;refine⟨_,?_,rfl⟩;simp only[vD,K2,hc,aU,aH]
  ·obtain⟨hk,h2⟩:=cF h;clear h;revert h2;intro h
   rw[t7] at hk;subst hk;cases op<;>try (first | (cases h;done) | (exact absurd rfl (by assumption)))
   case add=>exact⟨_,jex (by simp only[jcr,kk,aH]),ji8 (lV h) hc⟩
   case sub=>exact⟨_,jex (by simp only[jcr,kk,aH]),ji8 (lV h) hc⟩
   case mul=>exact⟨_,jex (by simp only[jcr,kk,aH]),ji8 (lV h) hc⟩
   case quo=>
    cases td with
    | true=>
      simp only[aH,bA,bK] at h;obtain⟨rfl,rfl⟩:=h;simp only[kG,aQ] at hc;have e1:yE y 0=false:=by rw[uH];simp[hc]
      exact⟨_,by simp only[vD,kk,aH,e1,aJ,A9],rfl⟩
    | false=>
      simp only[aJ,bA,bK] at h;obtain⟨rfl,rfl⟩:=h;simp only[kG,aW,aQ] at hc;obtain⟨⟨h0,h1⟩,h2⟩:=hc;have e1:yE y 0=false:=by rw[uH];simp;omega
      exact⟨_,by simp only[vD,kk,aH,e1,aJ,A9,Int.tdiv_eq_ediv_of_nonneg h0,h2],rfl⟩
   case rem=>
    cases td with
    | true=>
      simp only[aH,bA,bK] at h;obtain⟨rfl,rfl⟩:=h;simp only[kG,aQ] at hc;have e1:yE y 0=false:=by rw[uH];simp[hc]
      exact⟨_,by simp only[vD,kk,aH,e1,aJ],rfl⟩
    | false=>
      simp only[aJ,bA,bK] at h;obtain⟨rfl,rfl⟩:=h;simp only[kG,aW,aQ] at hc;obtain⟨h0,h1⟩:=hc;have e1:yE y 0=false:=by rw[uH];simp;omega
      exact⟨_,by simp only[vD,kk,aH,e1,aJ,qf9 h0],rfl⟩
   case and=>
    simp only[bA,bK] at h;obtain⟨rfl,rfl⟩:=h;exact⟨_,by simp only[vD,kk,aH];rfl,rfl⟩
   all_goals
    simp only[bA,bK] at h;obtain⟨rfl,rfl⟩:=h;exact⟨_,jex (by simp only[jcr,kk,aH]),rfl⟩
 ·rename_i x y;simp only[bO] at hu hv;subst hu;subst hv;split at h<;>try (cases h;done)
  ·simp only[bA,bK] at h;obtain⟨rfl,rfl⟩:=h;simp only[kG,aQ] at hc;exact⟨_,by simp only[vD,bE,hc,aU,aH],rfl⟩
  all_goals
   simp only[bA,bK] at h;obtain⟨rfl,rfl⟩:=h;exact⟨_,jex rfl,rfl⟩
theorem jzu {k:Nat} {a b:SV} {p:Bool} (h:js2 k a b=some p) {u v:AV} (hu:bO ν F a u) (hv:bO ν F b v):jog k u v=some p:=by
 unfold js2 at h;split at h<;>try (cases h;done)
 ·simp only[bO] at hu hv;subst hu;subst hv;exact h
 ·split at h<;>try (cases h;done)
  rename_i x y hx hy;have e1:=ji9 hx hu;have e2:=ji9 hy hv;subst e1;subst e2;exact h
 ·simp only[bO] at hu hv;subst hu;subst hv;exact h
theorem j93 {s:Option SB} {b o n z j:Nat} (hj:j<n):bO ν F (jsk s b o n z j) (.ptr (ν b).1 (o+j*z)):=by
 have d:bO ν F (.aptr b o n z j 0) (.ptr (ν b).1 (o+j*z)):=⟨by rw[nX],hj⟩
 unfold jsk;split
 ·rename_i t k L;cases hb:(!(t.size.beq z)&&(o / t.size).blt k&&(o / t.size*t.size).beq o) with
  | false=>exact d
  | true=>
    simp only[aW,kL,bQ,aQ,iU] at hb;obtain⟨⟨_,h1⟩,h2⟩:=hb;refine⟨?_,by simp[Nat.blt] at h1;omega,hj⟩;show AV.ptr _ _=AV.ptr _ _
    congr 1
    omega
 ·exact d
theorem jyg {s:SV} {l:List SV} {v:AV} (h:s.aggL=some l) (hv:bO ν F s v):∃m,v=.agg m/\dO ν F l m:=by
 unfold SV.aggL at h;split at h<;>try (cases h;done)
 ·cases h;exact hv
 ·rename_i n t L;cases hk:(Ty.arr n t).ok<;>rw[hk] at h<;>cases h
  obtain⟨m,e,hm⟩:=hv;exact⟨m,e,Z8 _ hk _ _ hm⟩
theorem js3:∀ {ks:List Nat} {l m:List SV} {p:Bool},je4 ks l m=some p->∀ {u v:List AV},dO ν F l u->dO ν F m v->I9 ks u v=some p
 | [],l,m,p,h,u,v,hu,hv=>by
   unfold je4 at h;split at h
   ·simp only[dO] at hu hv;subst hu;subst hv;exact h
   ·cases h
 | k::ks,l,m,p,h,u,v,hu,hv=>by
   unfold je4 at h;split at h<;>try (cases h;done)
   rename_i a l b m;obtain⟨x,u',rfl,h1,h2⟩:=hu;obtain⟨y,v',rfl,h3,h4⟩:=hv;split at h<;>try (cases h;done)
   rename_i p1 g1;cases ks with
   | nil=>
     simp only at h;split at h<;>try (cases h;done)
     cases h;simp only[dO] at h2 h4;subst h2;subst h4;simp only[I9,jzu g1 h1 h3,rN]
   | cons k' ks=>
     simp only at h;split at h<;>try (cases h;done)
     rename_i q g2;cases h;have ih:=js3 g2 h2 h4;rw[I9,jzu g1 h1 h3,ih]
theorem jk0 {agg:Bool} {l:List SV} {s:SV} (h:mkS agg l=some s) {m:List AV} (hm:dO ν F l m):∃v,yM agg m=some v/\bO ν F s v:=by
 unfold mkS at h;cases agg with
 | true=>cases h;exact⟨.agg m,rfl,m,rfl,hm⟩
 | false=>
   simp only[aJ] at h;split at h<;>cases h
   obtain⟨v,_,rfl,h1,rfl⟩:=hm;exact⟨v,rfl,h1⟩
theorem ju6 (hν:∀b,ν (gB+b)=(b,.nils)) {a:AV} {s:SV} (h:jk5 a=some s):bO ν F s a:=by
 unfold jk5 at h;split at h<;>cases h<;>simp only[bO,hν]
 exact⟨[],[],rfl,rfl,rfl⟩
theorem jgz (hν:∀b,ν (gB+b)=(b,.nils)):∀ {l:List AV} {r:List SV},jao l=some r->dO ν F r l
 | [],r,h=>by cases h;rfl
 | a::l,r,h=>by
   simp only[jao] at h;split at h<;>cases h
   rename_i s r h1 h2;exact⟨a,l,rfl,ju6 hν h1,jgz hν h2⟩
theorem jtq:∀ {ps:List (Nat×Nat×SV)} {l r:List SV},jjq l ps=some r->∀ {m:List AV} {qs:List (Nat×Nat×AV)},dO ν F l m->
  (∀(i:Nat) (x:Nat×Nat×SV),ps[i]?=some x->∃v,qs[i]?=some (x.1,x.2.1,v)/\bO ν F x.2.2 v)->ps.length=qs.length->∃m',jba m qs=some m'/\dO ν F r m'
 | [],l,r,h,m,qs,hm,_,hl=>by
   cases h;cases qs with
   | nil=>exact⟨m,rfl,hm⟩
   | cons q qs=>simp at hl
 | (off,size,s)::ps,l,r,h,m,qs,hm,hq,hl=>by
   simp only[jjq] at h;obtain⟨hb,h⟩:=cF h;simp only[aW,bQ,bE,aQ] at hb;obtain⟨⟨b1,b2⟩,b3⟩:=hb;cases qs with
   | nil=>simp at hl
   | cons q qs=>
     obtain⟨v,e,hv⟩:=hq 0 _ rfl;simp only[z7,bA] at e;subst e;have hcs:=jr5 b3 hv;have hlen:=rS hcs;have hml:=rS hm;have e2:((nA v).length.beq size&&(off+size).ble m.length)=true:=by
      rw[bQ,bE];simp;omega
     simp only[jba,e2,aH];refine jtq h ?_ (λi x hx=>hq (i+1) x hx) (by simpa using hl);have:=jr9 (o:=off) hm hcs;rw[jV,<-hlen,b1] at this;exact this
theorem jo9 {k:IntKind}:∀ {l:List SV} {r:List Int},jfp k l=some r->∀ {m:List AV},dO ν F l m->m=r.map (AV.int k)
 | [],r,h,m,hm=>by cases h;exact hm
 | s::l,r,h,m,hm=>by
   unfold jfp at h;split at h
   ·rename_i e;cases e
   ·rename_i k' n l' e;cases e;obtain⟨hk,h⟩:=cF h;rw[t7] at hk;subst hk;split at h<;>cases h
    rename_i r hr;obtain⟨v,m',rfl,h1,h2⟩:=hm;simp only[bO] at h1;rw[h1,jo9 hr h2];rfl
   ·cases h
section
variable {g:Opd->Option SV} {g':Opd->AV} {lm:Nat->Option SB} (hg:∀x s,g x=some s->bO ν F s (g' x))
include hg
theorem jlw:∀ {l:List Opd} {r:List SV},jd5 g l=some r->dO ν F r (l.map g')
 | [],r,h=>by cases h;rfl
 | x::l,r,h=>by
   simp only[jd5] at h;split at h<;>cases h
   rename_i s r h1 h2;exact⟨_,_,rfl,hg _ _ h1,jlw h2⟩
theorem jv7:∀ {l:List (Nat×Nat×Opd)} {r:List (Nat×Nat×SV)},jlx g l=some r->r.length=l.length/\∀(i:Nat) (x:Nat×Nat×SV),r[i]?=some x->∃v,(l.map fun(o,s,x)=>(o,s,g' x))[i]?=some (x.1,x.2.1,v)/\bO ν F x.2.2 v
 | [],r,h=>by cases h;exact⟨rfl,λi x hx=>by simp at hx⟩
 | (o,z,y)::l,r,h=>by
   simp only[jlx] at h;split at h<;>cases h
   rename_i s r h1 h2;obtain⟨k1,k2⟩:=jv7 h2;refine⟨by simp[k1],λi x hx=>?_⟩;cases i with
   | zero=>simp at hx;subst hx;exact⟨_,rfl,hg _ _ h1⟩
   | succ i=>simp only[qeh] at hx;exact k2 i x hx
theorem jhg {x:Opd} {d n:Int} (h:nQ g (some x) d=some n):∃k,g' x=.int k n:=by
 simp only[nQ] at h;split at h<;>cases h
 rename_i hx;exact⟨_,hg _ _ hx⟩
theorem I6 {len cap:Nat} {lo hi:Option Opd} {l h:Int} (hlo:nQ g lo 0=some l) (hhi:nQ g hi len=some h) (h0:0<=l) (h1:l<=h) (h2:h<=cap):
  xW len cap (lo.map g') (hi.map g') none=some (l.toNat,h.toNat,cap):=by
 have k2:∀k,C1 cap (.int k h)=some h.toNat:=λk=>by
  rw[jja (show 0<=h by omega)];simp only[C1,bE];rw[bD (by simp;omega)];rfl
 have k1:∀k,C1 h.toNat (.int k l)=some l.toNat:=λk=>by
  rw[jja h0];simp only[C1,bE];rw[bD (by simp;omega)];rfl
 cases hi with
 | none=>
   simp only[nQ,bA] at hhi;subst hhi;cases lo with
   | none=>
     simp only[nQ,bA] at hlo;subst hlo;rfl
   | some y=>
     obtain⟨k,hk⟩:=jhg hg hlo;have k1':C1 len (.int k l)=some l.toNat:=k1 k;unfold xW;simp only[iS,sL,hk,k1'];rfl
 | some x=>
   obtain⟨k,hk⟩:=jhg hg hhi;cases lo with
   | none=>
     simp only[nQ,bA] at hlo;subst hlo;unfold xW;simp only[iS,sL,hk,k2];rfl
   | some y=>
     obtain⟨k',hk'⟩:=jhg hg hlo;unfold xW;simp only[iS,hk,hk',k1,k2]
theorem Z7 {len cap:Nat} {lo:Option Opd} {hi mx:Opd} {l h m:Int} (hlo:nQ g lo 0=some l) (hhi:nQ g (some hi) 0=some h) (hmx:nQ g (some mx) 0=some m) (h0:0<=l) (h1:l<=h) (h2:h<=m) (h3:m<=cap):
  xW len cap (lo.map g') (some (g' hi)) (some (g' mx))=some (l.toNat,h.toNat,m.toNat):=by
 have key:∀(n:Nat) (y:Int) (k:IntKind),0<=y->y<=n->C1 n (.int k y)=some y.toNat:=λn y k a b=>by
  rw[jja a];simp only[C1,bE];rw[bD (by simp;omega)];rfl
 obtain⟨k,hk⟩:=jhg hg hhi;obtain⟨k',hk'⟩:=jhg hg hmx;cases lo with
 | none=>
   simp only[nQ,bA] at hlo;subst hlo;unfold xW;simp only[sL,hk,hk',key cap m k' (by omega) h3,key m.toNat h k (by omega) (by omega)];rfl
 | some y=>
   obtain⟨k'',hk''⟩:=jhg hg hlo;unfold xW;simp only[iS,hk,hk',hk'',key cap m k' (by omega) h3,key m.toNat h k (by omega) (by omega),key h.toNat l k'' h0 (by omega)]
end
end X
end Go.Vm
namespace Go.Vm
namespace X
open W
variable {ν:Nm} {F:cE} {g:Opd->Option SV} {g':Opd->AV} {lm:Nat->Option SB}
def jrr (ν:Nm) (lm:Nat->Option SB):Prop:=∀b t L cap,lm b=some (.arr t L cap)->t.size≠0/\∃sz,H5 (ν b) t.size (List.length (α:=t.den) L) cap sz
theorem map_some {α β:Type} {f:α->β} {x:Option α} {y:β} (h:x.map f=some y):∃a,x=some a/\y=f a:=by
 cases x with
 | none=>cases h
 | some a=>exact⟨a,rfl,(lV h).symm⟩
theorem jz1 {i:Opd} {j:Nat} (h:cst? i=some j):∃k,i=.c (.int k (.ofNat j)):=by
 unfold cst? at h;split at h<;>cases h
 exact⟨_,rfl⟩
theorem jv6 {z l h n:Nat} {c:Option Nat} (hl:l<=h) (hh:h<=n) (hc:∀m,c=some m->n<=m):∀m,c.map (·- l)=some m->h-l<=m:=by
 intro m hm;obtain⟨a,rfl,rfl⟩:=map_some hm;have:=hc a rfl;omega
section
variable (hg:∀x s,g x=some s->bO ν F s (g' x)) (hl:jrr ν lm)
include hg hl
theorem kn7 {z:Nat} {x:SV} {v:AV} (hv:bO ν F x v) {lo hi mx:Option Opd} {c:Option Bool} {s:SV} (h:ssl g lm z x lo hi mx=some (c,s)) (hc:kG c=true):
  ∃r,pJ z v (lo.map g') (hi.map g') (mx.map g')=some r/\bO ν F s r:=by
 unfold ssl at h;split at h
 ·rename_i b;split at h<;>try (cases h;done)
  rename_i t L cap hb;obtain⟨hz,h2⟩:=cF h;clear h;revert h2;intro h
  rw[bQ,aQ] at hz;subst hz;obtain⟨h0,sz,hd⟩:=hl _ _ _ _ hb;obtain⟨rfl,hsl⟩:=hv;cases mx with
  | none=>
   simp only at h;cases hn:lo.isNone&&hi.isNone with
   | true=>
    rw[hn] at h;simp only[aW,qhh] at hn;obtain⟨rfl,rfl⟩:=hn;cases h;rcases hd with⟨e,_,e2,_⟩ | ⟨c',n,e,_,h1,h3,h4⟩
    ·refine⟨_,?_,rfl,hsl⟩;rw[e];rfl
    ·refine⟨_,?_,rfl,hsl⟩;rw[e];cases c' with
     | none=>
       simp only[pJ,iW,aH,sL];show some (AV.sl _ (0+0*t.size) (L.length-0) none t.size)=_;rw[P0];rfl
     | some c'=>
       simp only[pJ,iW,aH,sL];show some (AV.sl _ (0+0*t.size) (L.length-0) (some (c'-0)) t.size)=_;rw[P0];rfl
   | false=>
    rw[hn] at h;simp only[aJ] at h;split at h<;>try (cases h;done)
    rename_i l k hlo hhi;simp only[bA,bK] at h;obtain⟨rfl,rfl⟩:=h;obtain⟨b0,b1,b2⟩:=cN.1 hc;rcases hd with⟨e,_,e2,e3⟩ | ⟨c',n,e,_,h1,h3,h4⟩
    ·have:=I6 hg (cap:=0) (len:=0) hlo (by rw[e2] at hhi;exact hhi) b0 b1 (by omega);refine⟨.nils,?_,.inl ⟨rfl,by omega,?_,e⟩⟩
     ·rw[e];simp only[pJ,sL,this]
     ·rcases e3 with rfl | rfl
      ·exact .inl rfl
      ·exact .inr (by simp)
    ·have hcc:∀m,c'=some m->L.length<=m:=λm hm=>(h3 m hm).2
     have hcap:∀m,cap.map (·- l.toNat)=some m->c'.map (·- l.toNat)=some m:=λm hm=>by
      obtain⟨a,rfl,rfl⟩:=map_some hm;rw[h4 a rfl];rfl
     refine⟨.sl (ν b).1 (0+l.toNat*t.size) (k.toNat-l.toNat) (c'.map (·- l.toNat)) t.size,?_,.inr ⟨_,by rw[mV],hcap,jv6 (z:=t.size) (n:=L.length) (by omega) (by omega) hcc,⟨_,_,e,by omega,λm hm=>by
      obtain⟨a,ha,rfl⟩:=map_some hm;have:=hcc a ha;exact .inr ⟨a,ha,by omega⟩⟩⟩⟩
     rw[e];cases c' with
     | none=>
       have:=I6 hg (cap:=L.length) hlo hhi b0 b1 (by omega);simp only[pJ,iW,aH,sL,this]
     | some c'=>
       have:=I6 hg (cap:=c') hlo hhi b0 b1 (by have:=hcc c' rfl;omega);simp only[pJ,iW,aH,sL,this,iS]
  | some mx=>
   cases hi with
   | none=>cases h
   | some hi=>
    simp only at h;split at h<;>try (cases h;done)
    rename_i l k m hlo hhi hmx;simp only[bA,bK] at h;obtain⟨rfl,rfl⟩:=h;simp only[kG,aW,aQ] at hc;obtain⟨⟨hc,c1⟩,c2⟩:=hc;obtain⟨b0,b1,b2⟩:=cN.1 hc;rcases hd with⟨e,_,e2,e3⟩ | ⟨c',n,e,_,h1,h3,h4⟩
    ·have:=Z7 hg (cap:=0) (len:=0) hlo hhi hmx b0 b1 c1 (by omega);refine⟨.nils,?_,.inl ⟨rfl,by omega,.inr (by simp;omega),e⟩⟩;rw[e];simp only[pJ,iS,this]
    ·have hcc:∀m,c'=some m->L.length<=m:=λm hm=>(h3 m hm).2
     refine⟨.sl (ν b).1 (0+l.toNat*t.size) (k.toNat-l.toNat) (some (m.toNat-l.toNat)) t.size,?_,.inr ⟨_,by rw[mV],λ_ h=>h,λy hy=>by cases hy;omega,⟨_,_,e,by omega,λy hy=>by cases hy;exact .inl (by omega)⟩⟩⟩;rw[e];cases c' with
     | none=>
       have:=Z7 hg (len:=L.length) (cap:=L.length) hlo hhi hmx b0 b1 c1 c2;simp only[pJ,iW,aH,iS,this]
     | some c'=>
       have:=Z7 hg (len:=L.length) (cap:=c') hlo hhi hmx b0 b1 c1 (by have:=hcc c' rfl;omega);simp only[pJ,iW,aH,iS,this]
 ·rename_i b o n cap z';obtain⟨hz,h2⟩:=cF h;clear h;revert h2;intro h
  rw[bQ,aQ] at hz;subst hz;cases mx with
  | none=>
   simp only at h;split at h<;>try (cases h;done)
   rename_i l k hlo hhi;simp only[bA,bK] at h;obtain⟨rfl,rfl⟩:=h;obtain⟨b0,b1,b2⟩:=cN.1 hc;rcases hv with⟨rfl,rfl,e3,e⟩ | ⟨c',rfl,h1,h2,len,cp,e,h5,h6⟩
   ·have:=I6 hg (cap:=0) (len:=0) hlo hhi b0 b1 b2;refine⟨.nils,by simp only[pJ,sL,this],.inl ⟨rfl,by omega,?_,e⟩⟩;rcases e3 with rfl | rfl
    ·exact .inl rfl
    ·exact .inr (by simp)
   ·have hcap:∀m,cap.map (·- l.toNat)=some m->c'.map (·- l.toNat)=some m:=λm hm=>by
     obtain⟨a,rfl,rfl⟩:=map_some hm;rw[h1 a rfl];rfl
    refine⟨.sl (ν b).1 (o*z'+l.toNat*z') (k.toNat-l.toNat) (c'.map (·- l.toNat)) z',?_,.inr ⟨_,by rw[mQ],hcap,jv6 (z:=z') (n:=n) (by omega) (by omega) h2,⟨_,_,e,by omega,λm hm=>by
     obtain⟨a,ha,rfl⟩:=map_some hm;have hna:=h2 a ha;rcases h6 a ha with h7 | ⟨q,hq,h7⟩
     ·exact .inl (by omega)
     ·exact .inr ⟨q,hq,by omega⟩⟩⟩⟩
    cases c' with
    | none=>
      have:=I6 hg (cap:=n) hlo hhi b0 b1 (by omega);simp only[pJ,iW,aH,sL,this]
    | some c'=>
      have:=I6 hg (cap:=c') hlo hhi b0 b1 (by have:=h2 c' rfl;omega);simp only[pJ,iW,aH,sL,this,iS]
  | some mx=>
   cases hi with
   | none=>cases h
   | some hi=>
    simp only at h;split at h<;>try (cases h;done)
    rename_i l k m hlo hhi hmx;simp only[bA,bK] at h;obtain⟨rfl,rfl⟩:=h;simp only[kG,aW,aQ] at hc;obtain⟨⟨hc,c1⟩,c2⟩:=hc;obtain⟨b0,b1,b2⟩:=cN.1 hc;rcases hv with⟨rfl,rfl,e3,e⟩ | ⟨c',rfl,h1,h2,len,cp,e,h5,h6⟩
    ·have:=Z7 hg (cap:=0) (len:=0) hlo hhi hmx b0 b1 c1 (by omega);exact⟨.nils,by simp only[pJ,iS,this],.inl ⟨rfl,by omega,.inr (by simp;omega),e⟩⟩
    ·refine⟨.sl (ν b).1 (o*z'+l.toNat*z') (k.toNat-l.toNat) (some (m.toNat-l.toNat)) z',?_,.inr ⟨_,by rw[mQ],λ_ h=>h,λy hy=>by cases hy;omega,⟨_,_,e,by omega,λy hy=>by cases hy;exact .inl (by omega)⟩⟩⟩;cases c' with
     | none=>
       have:=Z7 hg (len:=n) (cap:=n) hlo hhi hmx b0 b1 c1 c2;simp only[pJ,iW,aH,iS,this]
     | some c'=>
       have:=Z7 hg (len:=n) (cap:=c') hlo hhi hmx b0 b1 c1 (by have:=h2 c' rfl;omega);simp only[pJ,iW,aH,iS,this]
 ·rename_i t L;obtain⟨hz,h2⟩:=cF h;clear h;revert h2;intro h
  rw[bQ,aQ] at hz;subst hz;obtain⟨h0,hv⟩:=hv
  have part:∀ {l k:Int} {b o:Nat} {cap cap':Option Nat} {m:List AV},0<=l->l<=k->k<=L.length->(b,HB.cells m)∈F->(∀c,cap'=some c->k.toNat-l.toNat<=c)->o+L.length*t.size<=m.length->eM (cT F t) L ((m.drop o).take (L.length*t.size))->
    bO ν F (.fz t ((L.drop l.toNat).take (k.toNat-l.toNat))) (.sl b (o+l.toNat*t.size) (k.toNat-l.toNat) cap' t.size):=by
   intro l k b o cap cap' m b0 b1 b2 hF hcap hle hr;have hlen:((L.drop l.toNat).take (k.toNat-l.toNat)).length=k.toNat-l.toNat:=by simp;omega
   refine⟨h0,.inr ⟨b,o+l.toNat*t.size,cap',m,by rw[hlen],hF,by rw[hlen];exact hcap,?_,?_⟩⟩
   ·rw[hlen];have:l.toNat*t.size+ (k.toNat-l.toNat)*t.size<=L.length*t.size:=by rw[<-mQ];exact oT _ (by omega)
    omega
   ·rw[hlen];have h1:=Z5 (gZ t) (k.toNat-l.toNat) (jiw (gZ t) l.toNat hr);have e:List.take ((k.toNat-l.toNat)*t.size) (List.drop (l.toNat*t.size) (List.take (L.length*t.size) (List.drop o m)))=List.take ((k.toNat-l.toNat)*t.size) (List.drop (o+l.toNat*t.size) m):=by
     rw[qgn,P1,F6,m5];have:(k.toNat-l.toNat)*t.size+l.toNat*t.size<=L.length*t.size:=by rw[<-mQ];exact oT _ (by omega)
     omega
    rw[e] at h1;exact h1
  have nilp:∀ {l k:Int},0<=l->l<=k->k<=L.length->L=[]->bO ν F (.fz t ((L.drop l.toNat).take (k.toNat-l.toNat))) .nils:=by
   intro l k _ _ _ e;refine⟨h0,.inl ⟨?_,rfl⟩⟩;rw[e];simp
  cases mx with
  | none=>
    simp only at h;split at h<;>try (cases h;done)
    rename_i l k hlo hhi;simp only[bA,bK] at h;obtain⟨rfl,rfl⟩:=h;obtain⟨b0,b1,b2⟩:=cN.1 hc;rcases hv with⟨e,rfl⟩ | ⟨b,o,cap,m,rfl,hF,hcap,hle,hr⟩
    ·have:=I6 hg (cap:=0) (len:=0) hlo (by rw[e] at hhi;exact hhi) b0 b1 (by rw[e] at b2;exact b2);exact⟨.nils,by simp only[pJ,sL,this],nilp b0 b1 b2 e⟩
    ·refine⟨_,?_,part (cap:=cap) (cap':=cap.map (·- l.toNat)) b0 b1 b2 hF (jv6 (z:=t.size) (n:=L.length) (by omega) (by omega) hcap) hle hr⟩;cases cap with
     | none=>
       have:=I6 hg (cap:=L.length) hlo hhi b0 b1 (by omega);simp only[pJ,iW,aH,sL,this]
     | some c'=>
       have:=I6 hg (cap:=c') hlo hhi b0 b1 (by have:=hcap c' rfl;omega);simp only[pJ,iW,aH,sL,this,iS]
  | some mx=>
   cases hi with
   | none=>cases h
   | some hi=>
    simp only at h;split at h<;>try (cases h;done)
    rename_i l k m hlo hhi hmx;simp only[bA,bK] at h;obtain⟨rfl,rfl⟩:=h;simp only[kG,aW,aQ] at hc;obtain⟨⟨hc,c1⟩,c2⟩:=hc;obtain⟨b0,b1,b2⟩:=cN.1 hc;rcases hv with⟨e,rfl⟩ | ⟨b,o,cap,m',rfl,hF,hcap,hle,hr⟩
    ·have:=Z7 hg (cap:=0) (len:=0) hlo hhi hmx b0 b1 c1 (by rw[e] at c2;exact c2);exact⟨.nils,by simp only[pJ,iS,this],nilp b0 b1 b2 e⟩
    ·refine⟨_,?_,part (cap:=cap) (cap':=some (m.toNat-l.toNat)) b0 b1 b2 hF (λy hy=>by cases hy;omega) hle hr⟩;cases cap with
     | none=>
       have:=Z7 hg (len:=L.length) (cap:=L.length) hlo hhi hmx b0 b1 c1 c2;simp only[pJ,iW,aH,iS,this]
     | some c'=>
       have:=Z7 hg (len:=L.length) (cap:=c') hlo hhi hmx b0 b1 c1 (by have:=hcap c' rfl;omega);simp only[pJ,iW,aH,iS,this]
 ·cases h
end
end X
end Go.Vm
namespace Go.Vm
namespace X
open W
variable {ν:Nm} {F:cE} {g:Opd->Option SV} {g':Opd->AV} {lm:Nat->Option SB}
theorem K4 {m:Int} {n:Nat} (h:bB m n=true):∃j:Nat,m=.ofNat j/\j<n/\m.toNat=j/\n.ble j=false:=by
 obtain⟨h0,h1⟩:=j1h.1 h;cases m with
 | ofNat j=>exact⟨j,rfl,by simpa using h1,rfl,by rw[bE];simp;simpa using h1⟩
 | negSucc j=>omega
theorem j4w {z:Nat} {α:Type} {P:List α->List AV->Prop} {L:List α} {v:AV} (h:sE F z P L v) {i:Nat} (hi:i<L.length):∃b o cap l,v=.sl b o L.length cap z/\(b,HB.cells l)∈F/\o+L.length*z<=l.length/\P L ((l.drop o).take (L.length*z)):=by
 rcases h with⟨rfl,_⟩ | ⟨b,o,cap,l,h1,h2,h3,h4,h5⟩
 ·simp at hi
 ·exact⟨b,o,cap,l,h1,h2,h4,h5⟩
theorem kn2 (hg:∀x s,g x=some s->bO ν F s (g' x)) (hl:jrr ν lm) (hν:∀b,ν (gB+b)=(b,.nils)) (hk:∀v,g' (.c v)=v) {td:Bool} {i:I} {c:Option Bool} {s:SV}
  (h:sp g lm td i=some (c,s)) (hc:kG c=true):∃r,dQ g' i=some r/\bO ν F s r:=by
 cases i<;>simp only[sp] at h<;>try (cases h;done)
 case mov x=>
  obtain⟨a,ha,e⟩:=map_some h;cases e;exact⟨_,rfl,hg _ _ ha⟩
 case pick cc a b=>
  split at h<;>try (cases h;done)
  ·rename_i hcc;have e:=hg _ _ hcc;simp only[bO] at e;obtain⟨u,hu,e2⟩:=map_some h;cases e2;exact⟨_,by simp only[dQ,e],hg _ _ hu⟩
  ·rename_i hcc;have e:=hg _ _ hcc;simp only[bO] at e;obtain⟨u,hu,e2⟩:=map_some h;cases e2;exact⟨_,by simp only[dQ,e],hg _ _ hu⟩
  ·rename_i p hcc;have e:=hg _ _ hcc;simp only[bO] at e;split at h<;>try (cases h;done)
   ·rename_i k x k' y ha hb;obtain⟨hk,h2⟩:=cF h;rw[t7] at hk;subst hk;cases h2;have e1:=hg _ _ ha;have e2:=hg _ _ hb;simp only[bO] at e1 e2;cases p with
    | true=>exact⟨g' a,by simp only[dQ,e],by simp only[aH];exact e1⟩
    | false=>exact⟨g' b,by simp only[dQ,e],by simp only[aJ];exact e2⟩
   ·rename_i sa sb _ ha hb;split at h<;>try (cases h;done)
    rename_i x y hx hy;cases h;have e1:=ji9 hx (hg _ _ ha);have e2:=ji9 hy (hg _ _ hb);cases p with
    | true=>exact⟨g' a,by simp only[dQ,e],by simp only[aH];exact e1⟩
    | false=>exact⟨g' b,by simp only[dQ,e],by simp only[aJ];exact e2⟩
 case build z ps=>
  split at h<;>try (cases h;done)
  rename_i l ps' hz hp;obtain⟨l',hf,e⟩:=map_some h;cases e;obtain⟨k1,k2⟩:=jv7 hg hp;obtain⟨m',e1,e2⟩:=jtq hf (jgz hν hz) k2 (by simpa using k1);refine⟨.agg m',?_,m',rfl,e2⟩;simp only[dQ,e1,iS]
 case nilck x=>
  split at h<;>try (cases h;done)
  ·rename_i b o hx;cases h;have e:=hg _ _ hx;simp only[bO] at e;exact⟨_,by simp only[dQ,e],rfl⟩
  ·rename_i f a cc hx;cases h;obtain⟨a',c',e,h1,h2⟩:=hg _ _ hx;exact⟨_,by simp only[dQ,e],a',c',rfl,h1,h2⟩
 case bin op x y=>
  split at h<;>try (cases h;done)
  rename_i a b ha hb;exact knq h hc (hg _ _ ha) (hg _ _ hb)
 case eqf n agg ks x y=>
  split at h<;>try (cases h;done)
  rename_i a b ha hb;split at h<;>try (cases h;done)
  rename_i p hp;cases h;refine⟨_,jb4 (v:=.bool (bif n then !p else p)) ?_,rfl⟩;simp only[yP];have h1:=hg _ _ ha;have h2:=hg _ _ hb;have key:jey agg ks (g' x) (g' y)=some p:=by
   cases agg with
   | true=>
     simp only[aH] at hp;split at hp<;>try (cases hp;done)
     rename_i l m g1 g2;obtain⟨l',e1,r1⟩:=jyg g1 h1;obtain⟨m',e2,r2⟩:=jyg g2 h2;have k:=js3 hp r1 r2;have hlen:∀ {ks:List Nat} {u v:List AV} {p:Bool},I9 ks u v=some p->u.length=ks.length/\v.length=ks.length:=by
      intro ks;induction ks with
      | nil=>
        intro u v p h;cases u<;>cases v<;>simp[I9] at h ⊢
      | cons k ks ih=>
        intro u v p h;cases u<;>cases v<;>simp only[I9] at h<;>try (cases h;done)
        split at h<;>try (cases h;done)
        rename_i q1 q2;obtain⟨i1,i2⟩:=ih q2;simp[i1,i2]
     obtain⟨q1,q2⟩:=hlen k;simp only[jey,aH,e1,e2,q1,q2,iW,kP,k]
   | false=>
     simp only[aJ] at hp;simp only[jey,aJ];exact js3 hp ⟨_,[],rfl,h1,rfl⟩ ⟨_,[],rfl,h2,rfl⟩
  simp only[key]
 case eqn n kd x y=>
  split at h<;>try (cases h;done)
  ·rename_i b hx hy;cases h;have e1:=hg _ _ hx;have e2:=hg _ _ hy;simp only[bO] at e1 e2;refine⟨.bool (bif n then !b else b),jb4 ?_,rfl⟩;rcases e1 with⟨rfl,e1⟩ | ⟨rfl,t,u,e1⟩<;>simp only[yP,e1,e2,p7]
  ·rename_i hx hy;cases h;have e1:=hg _ _ hx;have e2:=hg _ _ hy;simp only[bO] at e1 e2;refine⟨.bool (bif n then false else true),jb4 ?_,?_⟩
   ·simp only[yP,e1,e2,p7];cases n<;>rfl
   ·cases n<;>rfl
  ·rename_i t L hx hy;cases h;obtain⟨_,b,o,cap,l,e1,_⟩:=hg _ _ hx;have e2:=hg _ _ hy;simp only[bO] at e2;refine⟨.bool (bif n then true else false),jb4 ?_,?_⟩
   ·simp only[yP,e1,e2,p7];cases n<;>rfl
   ·cases n<;>rfl
  ·rename_i hx hy;cases h;have e1:=hg _ _ hx;have e2:=hg _ _ hy;simp only[bO] at e1 e2;refine⟨.bool (bif n then false else true),jb4 ?_,?_⟩
   ·simp only[yP,e1,e2,p7];cases n<;>rfl
   ·cases n<;>rfl
  ·rename_i f a cc hx hy;cases h;obtain⟨a',c',e1,_⟩:=hg _ _ hx;have e2:=hg _ _ hy;simp only[bO] at e2;refine⟨.bool (bif n then true else false),jb4 ?_,?_⟩
   ·simp only[yP,e1,e2,p7];cases n<;>rfl
   ·cases n<;>rfl
 case neg x=>
  split at h<;>try (cases h;done)
  rename_i k n hx;have e:=hg _ _ hx;simp only[bO] at e;exact⟨_,by simp only[dQ,e,A9,Int.zero_sub],ji8 (lV h) hc⟩
 case not x=>
  split at h<;>try (cases h;done)
  all_goals
   rename_i hx;cases h;have e:=hg _ _ hx;simp only[bO] at e;exact⟨_,(by simp only[dQ,e]<;>rfl),rfl⟩
 case cvi k x=>
  split at h<;>try (cases h;done)
  rename_i k' n hx;have e:=hg _ _ hx;simp only[bO] at e;exact⟨_,by simp only[dQ,e,A9],ji8 (lV h) hc⟩
 case cvs x=>
  split at h<;>try (cases h;done)
  ·rename_i hx;cases h;have e:=hg _ _ hx;simp only[bO] at e;exact⟨_,by simp only[dQ,e],rfl⟩
  ·rename_i k n hx;cases h;have e:=hg _ _ hx;simp only[bO] at e;obtain⟨j,rfl,h1,h2,h3⟩:=K4 hc;have h4:j.ble 127=true:=by rw[bE,aQ];omega
   exact⟨.str [j],by simp only[dQ,e,h4,aH],by simp only[bO,h2]⟩
 case mkfn f a cc=>
  cases f with
  | func f=>
    simp only at h;split at h<;>try (cases h;done)
    rename_i a' c' h1 h2;cases h;exact⟨_,rfl,_,_,rfl,jlw hg h1,jlw hg h2⟩
  | _=>cases h
 case fad off x=>
  split at h<;>try (cases h;done)
  ·rename_i b o hx;cases h;have e:=hg _ _ hx;simp only[bO] at e;exact⟨_,by simp only[dQ,e],rfl⟩
  ·rename_i b i z f hx;cases h;obtain⟨e,h2⟩:=hg _ _ hx;exact⟨.ptr (ν b).1 (i*z+ (f+off)),by simp only[dQ,e,rZ],rfl,h2⟩
  ·rename_i b o n z i f hx;cases h;obtain⟨e,h2⟩:=hg _ _ hx;exact⟨.ptr (ν b).1 (o+i*z+ (f+off)),by simp only[dQ,e,rZ],rfl,h2⟩
  ·rename_i b o n z i f m y j g' hx;cases h;obtain⟨e,h2⟩:=hg _ _ hx;exact⟨.ptr (ν b).1 (o+i*z+f+j*y+ (g'+off)),by simp only[dQ,e,rZ],rfl,h2⟩
  ·rename_i t y f hx;cases h;obtain⟨b,o,l,e,h2⟩:=hg _ _ hx;exact⟨.ptr b (o+ (f+off)),by simp only[dQ,e,rZ],b,o,l,rfl,h2⟩
  ·rename_i b t y f hx;cases h;obtain⟨e,h2⟩:=hg _ _ hx;exact⟨.ptr (ν b).1 (f+off),by simp only[dQ,e],rfl,h2⟩
 case fld agg size off x=>
  split at h<;>try (cases h;done)
  rename_i l hx;obtain⟨hb,h2⟩:=cF h;obtain⟨s',hs,e⟩:=map_some h2;cases e;obtain⟨m,e,hm⟩:=hg _ _ hx;obtain⟨v,k1,k2⟩:=jk0 hs (o9 size (zR off hm));refine⟨v,?_,k2⟩;rw[rS hm] at hb;simp only[dQ,e,hb,aH,k1]
 case iadA n z x i=>
  split at h
  ·rename_i j hj;obtain⟨k,rfl⟩:=jz1 hj;obtain⟨hb,h2⟩:=X0 h;split at h2<;>try (cases h2;done)
   ·rename_i b o hx;cases h2;have e:=hg _ _ hx;simp only[bO] at e;exact⟨_,by simp only[dQ,e,hk,hb,aJ],rfl⟩
   ·rename_i b i z' f hx;cases h2;obtain⟨e,h3⟩:=hg _ _ hx;exact⟨.ptr (ν b).1 (i*z'+ (f+j*z)),by simp only[dQ,e,hk,hb,aJ,rZ],rfl,h3⟩
   ·rename_i t y f hx;cases h2;obtain⟨b,o,l,e,h3⟩:=hg _ _ hx;exact⟨.ptr b (o+ (f+j*z)),by simp only[dQ,e,hk,hb,aJ,rZ],b,o,l,rfl,h3⟩
   ·rename_i b o n' z' i f hx;cases h2;obtain⟨e,h3⟩:=hg _ _ hx;exact⟨.ptr (ν b).1 (o+i*z'+ (f+j*z)),by simp only[dQ,e,hk,hb,aJ,rZ],rfl,h3⟩
  ·split at h<;>try (cases h;done)
   ·rename_i b o k m hx hi;cases h;obtain⟨j,rfl,h1,h2,h3⟩:=K4 hc;have e1:=hg _ _ hx;have e2:=hg _ _ hi;simp only[bO] at e1 e2;exact⟨.ptr (ν b).1 (o+j*z),by simp only[dQ,e1,e2,h3,aJ],by rw[h2];exact j93 (by omega)⟩
   ·rename_i b o k' y j' f k m hx hi;cases h;obtain⟨j,rfl,h1,h2,h3⟩:=K4 hc;obtain⟨e1,h4⟩:=hg _ _ hx;have e2:=hg _ _ hi;simp only[bO] at e2;exact⟨.ptr (ν b).1 (o+j'*y+f+j*z),by simp only[dQ,e1,e2,h3,aJ],by rw[h2,nX],h4,by omega⟩
 case iadS z x i=>
  split at h<;>try (cases h;done)
  ·rename_i b k m hx hi;split at h<;>try (cases h;done)
   rename_i t L cap hb;obtain⟨hz,h2⟩:=cF h;rw[bQ,aQ] at hz;subst hz;cases h2;obtain⟨j,rfl,h1,h2,h3⟩:=K4 hc;have e1:=hg _ _ hx;have e2:=hg _ _ hi;simp only[bO] at e1 e2;obtain⟨h0,sz,hd⟩:=hl _ _ _ _ hb;rcases hd with⟨_,_,e3,_⟩ | ⟨c',n,e,_,h4⟩
   ·omega
   ·rw[e] at e1;exact⟨.ptr (ν b).1 (0+j*t.size),by simp only[dQ,e1.1,e2,iW,fS,i7,h3,aJ],by rw[h2,nX,mV],_,_,e,by rw[h2];exact h1⟩
  ·rename_i b o n cap z' k m hx hi;obtain⟨hz,h2⟩:=cF h;rw[bQ,aQ] at hz;subst hz;cases h2;obtain⟨j,rfl,h1,h2,h3⟩:=K4 hc;have e1:=hg _ _ hx;have e2:=hg _ _ hi;simp only[bO] at e2;rcases e1 with⟨_,e1,_⟩ | ⟨c',e1,_,_,len,cp,e,h5,_⟩
   ·omega
   ·exact⟨.ptr (ν b).1 (o*z'+j*z'),by simp only[dQ,e1,e2,iW,fS,i7,h3,aJ],by rw[h2,nX,mQ],_,_,e,by rw[h2];omega⟩
  ·rename_i b n o m0 z' k m hx hi;obtain⟨hz,h2⟩:=cF h;rw[bQ,aQ] at hz;subst hz;cases h2;obtain⟨j,rfl,h1,h2,h3⟩:=K4 hc;obtain⟨⟨c,e1⟩,h4⟩:=hg _ _ hx;have e2:=hg _ _ hi;simp only[bO] at e2;exact⟨.ptr (ν b).1 (o*z'+j*z'),by simp only[dQ,e1,e2,iW,fS,i7,h3,aJ],by rw[h2,nX,mV,mQ],by rw[h2];omega⟩
  ·rename_i t L k m hx hi;obtain⟨hz,h2⟩:=cF h;rw[bQ,aQ] at hz;subst hz;cases h2;obtain⟨j,rfl,h1,h2,h3⟩:=K4 hc;obtain⟨h0,e1⟩:=hg _ _ hx;have e2:=hg _ _ hi;simp only[bO] at e2;obtain⟨b,o,cap,l,e3,h4,h5,h6⟩:=j4w e1 h1;have hlt:j*t.size+t.size<=L.length*t.size:=by
    have:=oT t.size (show j+1<=L.length by omega);rw[mQ] at this;omega
   refine⟨.ptr b (o+j*t.size),by simp only[dQ,e3,e2,iW,fS,i7,h3,aJ],b,o+j*t.size,l,by rw[nX],h4,by omega,?_⟩;have:=B7 (gZ t) t.df h6 h1;rw[qgn,F6,P1,m5 (by omega)] at this;rw[h2];exact this
  ·rename_i t L k m hx hi;obtain⟨hz,h2⟩:=cF h;rw[bQ,aQ] at hz;subst hz;cases h2;obtain⟨j,rfl,h1,h2,h3⟩:=K4 hc;obtain⟨h0,e1⟩:=hg _ _ hx;have e1:=e1.sl;have e2:=hg _ _ hi;simp only[bO] at e2;obtain⟨b,o,cap,l,e3,h4,h5,h6⟩:=j4w e1 h1;have hlt:j*t.size+t.size<=L.length*t.size:=by
    have:=oT t.size (show j+1<=L.length by omega);rw[mQ] at this;omega
   refine⟨.ptr b (o+j*t.size),by simp only[dQ,e3,e2,iW,fS,i7,h3,aJ],b,o+j*t.size,l,by rw[nX],h4,by omega,?_⟩;have:=B7 (gZ t) t.df h6 h1;rw[qgn,F6,P1,m5 (by omega)] at this;rw[h2];exact this
 case idxA agg n z x i=>
  split at h
  ·rename_i j hj;obtain⟨k,rfl⟩:=jz1 hj;split at h<;>try (cases h;done)
   rename_i l hx;obtain⟨hb,h2⟩:=X0 h;obtain⟨s',hs,e⟩:=map_some h2;cases e;obtain⟨m,e,hm⟩:=hg _ _ hx;obtain⟨v,k1,k2⟩:=jk0 hs (o9 z (zR (j*z) hm));refine⟨v,?_,k2⟩;rw[rS hm] at hb;simp only[dQ,e,hk,hb,aJ,k1]
  ·split at h<;>try (cases h;done)
   ·rename_i k y l k' m hx hi;obtain⟨hb,h2⟩:=cF h;simp only[aW,bQ,aQ,kL] at hb;obtain⟨⟨rfl,rfl⟩,rfl⟩:=hb;split at h2<;>try (cases h2;done)
    rename_i r hr;cases h2;obtain⟨j,rfl,h1,h2,h3⟩:=K4 hc;obtain⟨ms,e,hm⟩:=hg _ _ hx;have e2:=hg _ _ hi;simp only[bO] at e2;have hlen:=rS hm;have em:=jo9 hr hm;have hrl:r.length=l.length+1:=by
     have:ms.length=r.length:=by rw[em];simp
     simp at hlen;omega
    refine⟨_,?_,rfl⟩;have h4:(j*1+1).ble ms.length=true:=by rw[bE];simp;simp at hlen;omega
    have h5:j<r.length:=by omega
    simp only[dQ,e,e2,h3,h4,fS,qhc,aJ];rw[em,qh6,iJ (by simpa using h5)];simp[yM,gP,h5]
   ·rename_i n' t L k m hx hi;obtain⟨hb,h2⟩:=cF h;simp only[aW,bQ,aQ,beq_iff_eq] at hb;obtain⟨⟨⟨rfl,ht⟩,rfl⟩,rfl⟩:=hb;cases h2;obtain⟨j,rfl,h1,h2,h3⟩:=K4 hc;obtain⟨ms,e,hl1,hm⟩:=hg _ _ hx;have e2:=hg _ _ hi;simp only[bO] at e2;have hlen:=rR (gZ t) hm;have h5:j<L.length:=by omega
    obtain⟨v,k1,k2⟩:=jxy (B7 (gZ t) t.df hm h5);refine⟨v,?_,by rw[h2];exact jfm ht k2⟩;have h4:(j*t.size+t.size).ble ms.length=true:=by
     rw[bE,hlen];have:=oT t.size (show j+1<=L.length by omega);rw[mQ] at this;simp;omega
    simp only[dQ,e,e2,h3,h4,fS,qhc,aJ,k1]
 case idxS x i=>
  split at h<;>try (cases h;done)
  rename_i st k m hx hi;cases h;obtain⟨j,rfl,h1,h2,h3⟩:=K4 hc;have e1:=hg _ _ hx;have e2:=hg _ _ hi;simp only[bO] at e1 e2;refine⟨_,?_,rfl⟩;simp only[dQ,e1,e2,dE h1,h2,gP,qO]
 case slS z x lo hi mx=>
  split at h<;>try (cases h;done)
  rename_i s' hx;exact kn7 hg hl (hg _ _ hx) h hc
 case slT x lo hi=>
  split at h<;>try (cases h;done)
  rename_i st l hx hlo;split at h<;>try (cases h;done)
  rename_i k hhi;cases h;obtain⟨b0,b1,b2⟩:=cN.1 hc;have e1:=hg _ _ hx;simp only[bO] at e1;have:=I6 hg (cap:=st.length) hlo hhi b0 b1 b2;exact⟨_,by simp only[dQ,e1,this],rfl⟩
 case ext n x=>
  split at h<;>try (cases h;done)
  rename_i l hx;split at h<;>try (cases h;done)
  rename_i s' hs;cases h;obtain⟨m,e,hm⟩:=hg _ _ hx;obtain⟨v,k1,k2⟩:=ja9 hm hs;exact⟨v,by simp only[dQ,e,k1],k2⟩
 case len x=>
  split at h<;>try (cases h;done)
  ·rename_i b hx;split at h<;>try (cases h;done)
   rename_i t L cap hb;cases h;obtain⟨e1,_⟩:=hg _ _ hx;obtain⟨h0,sz,hd⟩:=hl _ _ _ _ hb;rcases hd with⟨e,_,e3,_⟩ | ⟨c',n,e,_,h4⟩
   ·rw[e] at e1;exact⟨.int .i64 0,by simp only[dQ,e1],by rw[e3];rfl⟩
   ·rw[e] at e1;exact⟨_,by simp only[dQ,e1],rfl⟩
  ·rename_i b o n cap z hx;cases h;rcases hg _ _ hx with⟨e1,rfl,_⟩ | ⟨c',e1,_⟩
   ·exact⟨.int .i64 0,by simp only[dQ,e1],rfl⟩
   ·exact⟨_,by simp only[dQ,e1],rfl⟩
  ·rename_i b n o m z hx;cases h;obtain⟨⟨c,e1⟩,_⟩:=hg _ _ hx;exact⟨_,by simp only[dQ,e1],rfl⟩
  ·rename_i t L hx;cases h;obtain⟨h0,e1⟩:=hg _ _ hx;rcases e1 with⟨rfl,e1⟩ | ⟨b,o,cap,l,e1,_⟩
   ·exact⟨.int .i64 0,by simp only[dQ,e1],rfl⟩
   ·exact⟨_,by simp only[dQ,e1],rfl⟩
  ·rename_i t L hx;cases h;obtain⟨h0,e1⟩:=hg _ _ hx;rcases e1 with⟨rfl,e1⟩ | ⟨b,o,l,e1,_⟩
   ·exact⟨.int .i64 0,by simp only[dQ,e1],rfl⟩
   ·exact⟨_,by simp only[dQ,e1],rfl⟩
  ·rename_i hx;cases h;have e1:=hg _ _ hx;simp only[bO] at e1;exact⟨_,by simp only[dQ,e1],rfl⟩
  ·rename_i z hx;cases h;have e1:=hg _ _ hx;rcases e1 with e1 | ⟨b,o,l,e1,_⟩
   ·exact⟨_,by simp only[dQ,e1],rfl⟩
   ·exact⟨.int .i64 0,by simp only[dQ,e1];rfl,rfl⟩
 case lenS x=>
  split at h<;>try (cases h;done)
  rename_i st hx;cases h;have e1:=hg _ _ hx;simp only[bO] at e1;exact⟨_,by simp only[dQ,e1],rfl⟩
 case lenc n=>
  cases h;exact⟨_,rfl,rfl⟩
 case cap x=>
  split at h<;>try (cases h;done)
  ·rename_i b hx;split at h<;>try (cases h;done)
   rename_i t L cap hb;cases h;obtain⟨m,rfl⟩:=uQ.1 hc;obtain⟨e1,_⟩:=hg _ _ hx;obtain⟨h0,sz,hd⟩:=hl _ _ _ _ hb;rcases hd with⟨e,_,e3,e4⟩ | ⟨c',n,e,_,_,_,h4⟩
   ·rw[e] at e1;rcases e4 with e4 | e4<;>cases e4
    exact⟨.int .i64 0,by simp only[dQ,e1],rfl⟩
   ·rw[e,h4 m rfl] at e1;exact⟨.int .i64 (m:Nat),by simp only[dQ,e1],rfl⟩
  ·rename_i b o n cap z hx;cases h;obtain⟨m,rfl⟩:=uQ.1 hc;rcases hg _ _ hx with⟨e1,rfl,e4,_⟩ | ⟨c',e1,h4,_⟩
   ·rcases e4 with e4 | e4<;>cases e4
    exact⟨.int .i64 0,by simp only[dQ,e1],rfl⟩
   ·rw[h4 m rfl] at e1;exact⟨.int .i64 (m:Nat),by simp only[dQ,e1],rfl⟩
  ·rename_i t L hx;cases h;obtain⟨h0,e1⟩:=hg _ _ hx;rcases e1 with⟨rfl,e1⟩ | ⟨b,o,l,e1,_⟩
   ·exact⟨.int .i64 0,by simp only[dQ,e1],rfl⟩
   ·exact⟨_,by simp only[dQ,e1],rfl⟩
  ·rename_i hx;cases h;have e1:=hg _ _ hx;simp only[bO] at e1;exact⟨_,by simp only[dQ,e1],rfl⟩
 case mins x xs=>
  match xs,h with
  | [y],h=>
    simp only at h;split at h<;>try (cases h;done)
    rename_i k a k' b hx hy;obtain⟨hk',h2⟩:=cF h;rw[t7] at hk';subst hk';cases h2;have e1:=hg _ _ hx;have e2:=hg _ _ hy;simp only[bO] at e1 e2;exact⟨_,jb4 (by simp only[yP,dA,lM,e1,e2,ji4]),rfl⟩
  | [],h=>cases h
  | _::_::_,h=>cases h
 case maxs x xs=>
  match xs,h with
  | [y],h=>
    simp only at h;split at h<;>try (cases h;done)
    rename_i k a k' b hx hy;obtain⟨hk',h2⟩:=cF h;rw[t7] at hk';subst hk';cases h2;have e1:=hg _ _ hx;have e2:=hg _ _ hy;simp only[bO] at e1 e2;exact⟨_,jb4 (by simp only[yP,dA,lM,e1,e2,ji3]),rfl⟩
  | [],h=>cases h
  | _::_::_,h=>cases h
end X
end Go.Vm
