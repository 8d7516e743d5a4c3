/- Operations that only compute, on symbolic values: what comes out, and what must hold. -/
import Derived.Test.YtccefhabickfiaaGreatDoorXG1
set_option linter.unusedSimpArgs false
set_option linter.unusedVariables false
namespace Go.Vm
namespace X
open W
def aM (n:Int):Bool:=match n with
 | .ofNat m=>m.ble 9223372036854775807
 | .negSucc m=>m.ble 9223372036854775807
theorem j0h {n:Int}:aM n=true↔ -9223372036854775808<=n/\n<=9223372036854775807:=by
 cases n<;>simp only[aM,bB,aO,qhp]<;>omega
theorem jhk {n:Int} (h:aM n=true):IntKind.i64.wrap n=n:=by
 have:=j0h.1 h;exact wrap_in (k:=.i64) (by simp only[inR];omega)
def aU (i:Int) (n:Nat):Bool:=decide (0<=i)&&decide (i< (n:Int))
theorem j0n {i:Int} {n:Nat}:aU i n=true↔0<=i/\i< (n:Int):=by simp[aU]
def cY (l h:Int) (n:Nat):Bool:=decide (0<=l)&&decide (l<=h)&&decide (h<=(n:Int))
theorem dA {l h:Int} {n:Nat}:cY l h n=true↔0<=l/\l<=h/\h<=(n:Int):=by simp[cY,and_assoc]
abbrev PS:=Option (Option Bool×SV)
abbrev iM (c:Option Bool):Bool:=match c with
 | none=>true
 | some b=>b
def T7:Option Bool->Option Bool->Option Bool
 | none,b=>b
 | some a,none=>some a
 | some a,some b=>some (a&&b)
theorem jiq {a b:Option Bool}:iM (T7 a b)=true↔iM a=true/\iM b=true:=by
 cases a<;>cases b<;>simp[T7,iM]
def arS (k:IntKind) (n:Int):Option Bool×SV:=match k with
 | .i64=>(some (aM n),.int .i64 n)
 | k=>(none,.int k (k.wrap n))
theorem jgq {k:IntKind} {n:Int} {c:Option Bool} {s:SV} (h:arS k n=(c,s)) (hc:iM c=true) {ν:Nm} {F:bR}:bD ν F s (.int k (k.wrap n)):=by
 unfold arS at h;split at h<;>simp only[bC] at h<;>obtain⟨rfl,rfl⟩:=h
 ·simp only[bD,jhk (show aM n=true from hc)]
 ·rfl
def asB:SV->Option Bool
 | .bool b=>some b
 | .tt=>some true
 | .ff=>some false
 | _=>none
theorem jgr {s:SV} {b:Bool} (h:asB s=some b) {ν:Nm} {F:bR} {v:AV} (hv:bD ν F s v):v=.bool b:=by
 cases s<;>simp only[asB,aS,reduceCtorEq] at h<;>subst h<;>exact hv
def khc (k:IntKind) (x y:Int):Int:=k.wrap (BitVec.ofInt k.bits x &&& BitVec.ofInt k.bits y).toNat
def juz (op:BinOp) (td:Bool) (a b:SV):PS:=
 match a,b with
 | .int k x,.int k' y=>match op with
   | .shl=>some (some (decide (0<=y)),.int k (k.wrap (x*2^ (min y.toNat k.bits))))
   | .shr=>some (some (decide (0<=y)),.int k (x.fdiv (2^ (min y.toNat k.bits))))
   | op=>bif oX k k' then(match op with
     | .add=>some (arS k (x+y))
     | .sub=>some (arS k (x-y))
     | .mul=>some (arS k (x*y))
     | .quo=>bif td then some (some (decide (y≠0)),.int k (k.wrap (x.tdiv y))) else some (some (decide (0<=x)&&decide (0<y)&&decide (k.wrap (x / y)=x / y)),.int k (x / y))
     | .rem=>bif td then some (some (decide (y≠0)),.int k (x.tmod y)) else some (some (decide (0<=x)&&decide (0<y)),.int k (x%y))
     | .and=>some (none,.int k (khc k x y))
     | .eql=>some (none,.bool (decide (x=y)))
     | .neq=>some (none,.bool (decide (x≠y)))
     | .lss=>some (none,.bool (decide (x<y)))
     | .leq=>some (none,.bool (decide (x<=y)))
     | .gtr=>some (none,.bool (decide (y<x)))
     | .geq=>some (none,.bool (decide (y<=x)))
     | _=>none) else none
 | .str s,.str t=>match op with
   | .add=>some (some (decide (s.length+t.length<=4000000000)),.str (s++t))
   | .eql=>some (none,.bool (decide (s=t)))
   | .neq=>some (none,.bool (decide (s≠t)))
   | .lss=>some (none,.bool (xD s t))
   | .gtr=>some (none,.bool (!(xD s t||qX s t)))
   | _=>none
 | _,_=>none
def jr7:Nat->SV->SV->Option Bool
 | 1,.int k x,.int k' y=>bif oX k k' then some (decide (x=y)) else none
 | 0,a,b=>match asB a,asB b with
   | some p,some q=>some (p==q)
   | _,_=>none
 | 2,.str s,.str t=>some (decide (s=t))
 | _,_,_=>none
def jd6:List Nat->List SV->List SV->Option Bool
 | [],l,m=>match l,m with
   | [],[]=>some true
   | _,_=>none
 | k::ks,l,m=>match l,m with
   | a::l,b::m=>match jr7 k a b with
     | some p=>match ks with
       | []=>match l,m with
         | [],[]=>some p
         | _,_=>none
       | k'::ks=>match jd6 (k'::ks) l m with
         | some q=>some (p&&q)
         | none=>none
     | none=>none
   | _,_=>none
def jrr (s:Option SB) (b o n z j:Nat):SV:=match s with
 | some (.fix t k _)=>bif !(t.size.beq z)&&(o / t.size).blt k&&(o / t.size*t.size).beq o then .aptr2 b 0 k t.size (o / t.size) 0 n z j 0 else .aptr b o n z j 0
 | _=>.aptr b o n z j 0
def SV.aggL:SV->Option (List SV)
 | .agg l=>some l
 | .ag n t L=>bif(Ty.arr n t).ok then some (yE (.arr n t) L) else none
 | _=>none
def mkS (agg:Bool) (l:List SV):Option SV:=bif agg then some (.agg l) else match l with
 | [x]=>some x
 | _=>none
def cst?:Opd->Option Nat
 | .c (.int _ (.ofNat n))=>some n
 | _=>none
def jhb:List SV->List (Nat×Nat×SV)->Option (List SV)
 | l,[]=>some l
 | l,(off,size,s)::r=>bif s.cells.length.beq size&&(off+size).ble l.length&&s.cells.all SV.one then jhb (l.take off++(s.cells++l.drop (off+size))) r else none
def jim:AV->Option SV
 | .int k n=>some (.int k n)
 | .bool true=>some .tt
 | .bool false=>some .ff
 | .str s=>some (.str s)
 | .nils=>some .nils
 | .nilp=>some .nilp
 | .nilf=>some .nilf
 | .nili=>some .nili
 | .nilm=>some .nilm
 | .ptr b o=>some (.ptr (gB+b) o)
 | .fn (.func f) [] []=>some (.fn f [] [])
 | _=>none
def O4:List AV->Option (List SV)
 | []=>some []
 | a::l=>match jim a,O4 l with
   | some s,some r=>some (s::r)
   | _,_=>none
def jeq (k:IntKind):List SV->Option (List Int)
 | []=>some []
 | .int k' n::l=>bif oX k' k then(match jeq k l with
   | some r=>some (n::r)
   | none=>none) else none
 | _=>none
def jcy (g:Opd->Option SV):List Opd->Option (List SV)
 | []=>some []
 | x::l=>match g x,jcy g l with
   | some s,some r=>some (s::r)
   | _,_=>none
def jjh (g:Opd->Option SV):List (Nat×Nat×Opd)->Option (List (Nat×Nat×SV))
 | []=>some []
 | (o,z,x)::l=>match g x,jjh g l with
   | some s,some r=>some ((o,z,s)::r)
   | _,_=>none
def lK (g:Opd->Option SV):Option Opd->Int->Option Int
 | none,d=>some d
 | some x,_=>match g x with
   | some (.int _ n)=>some n
   | _=>none
section
variable (g:Opd->Option SV) (lm:Nat->Option SB) (td:Bool)
def ssl (z:Nat) (x:SV) (lo hi mx:Option Opd):PS:=
 match x with
 | .own b=>match lm b with
   | some (.arr t L cap)=>bif t.size.beq z then(match mx with
     | none=>bif lo.isNone&&hi.isNone then some (none,.own b) else match lK g lo 0,lK g hi L.length with
       | some l,some h=>some (some (cY l h L.length),.view b l.toNat (h.toNat-l.toNat) (cap.map (·- l.toNat)) z)
       | _,_=>none
     | some mx=>match hi with
       | some hi=>match lK g lo 0,lK g (some hi) 0,lK g (some mx) 0 with
         | some l,some h,some m=>some (some (cY l h L.length&&decide (h<=m)&&decide (m<=(L.length:Int))),.view b l.toNat (h.toNat-l.toNat) (some (m.toNat-l.toNat)) z)
         | _,_,_=>none
       | none=>none) else none
   | _=>none
 | .view b o n cap z'=>bif z'.beq z then(match mx with
     | none=>match lK g lo 0,lK g hi n with
       | some l,some h=>some (some (cY l h n),.view b (o+l.toNat) (h.toNat-l.toNat) (cap.map (·- l.toNat)) z)
       | _,_=>none
     | some mx=>match hi with
       | some hi=>match lK g lo 0,lK g (some hi) 0,lK g (some mx) 0 with
         | some l,some h,some m=>some (some (cY l h n&&decide (h<=m)&&decide (m<=(n:Int))),.view b (o+l.toNat) (h.toNat-l.toNat) (some (m.toNat-l.toNat)) z)
         | _,_,_=>none
       | none=>none) else none
 | .fz t L=>bif t.size.beq z then(match mx with
     | none=>match lK g lo 0,lK g hi L.length with
       | some l,some h=>some (some (cY l h L.length),.fz t ((L.drop l.toNat).take (h.toNat-l.toNat)))
       | _,_=>none
     | some mx=>match hi with
       | some hi=>match lK g lo 0,lK g (some hi) 0,lK g (some mx) 0 with
         | some l,some h,some m=>some (some (cY l h L.length&&decide (h<=m)&&decide (m<=(L.length:Int))),.fz t ((L.drop l.toNat).take (h.toNat-l.toNat)))
         | _,_,_=>none
       | none=>none) else none
 | _=>none
def sp:I->PS
 | .mov x=>(g x).map λs=>(none,s)
 | .pick c a b=>match g c with
   | some .tt=>(g a).map λs=>(none,s)
   | some .ff=>(g b).map λs=>(none,s)
   | some (.bool p)=>match g a,g b with
     | some (.int k x),some (.int k' y)=>bif oX k k' then some (none,.int k (bif p then x else y)) else none
     | some a,some b=>match asB a,asB b with
       | some x,some y=>some (none,.bool (bif p then x else y))
       | _,_=>none
     | _,_=>none
   | _=>none
 | .build z ps=>match O4 z,jjh g ps with
   | some l,some ps=>(jhb l ps).map λl=>(none,.agg l)
   | _,_=>none
 | .nilck x=>match g x with
   | some (.ptr b o)=>some (none,.ptr b o)
   | some (.fn f a c)=>some (none,.fn f a c)
   | _=>none
 | .bin op x y=>match g x,g y with
   | some a,some b=>juz op td a b
   | _,_=>none
 | .eqf n agg ks x y=>match g x,g y with
   | some a,some b=>match bif agg then(match a.aggL,b.aggL with
      | some l,some m=>jd6 ks l m
      | _,_=>none) else jd6 ks [a] [b] with
     | some p=>some (none,.bool (bif n then !p else p))
     | none=>none
   | _,_=>none
 | .eqn n kd x y=>match kd,g x,g y with
   | 0,some (.err b),some .nili=>some (none,.bool (bif n then !b else b))
   | 0,some .nili,some .nili=>some (none,bif n then .ff else .tt)
   | 2,some (.fzn _ _),some .nils=>some (none,bif n then .tt else .ff)
   | 2,some .nils,some .nils=>some (none,bif n then .ff else .tt)
   | 3,some (.fn _ _ _),some .nilf=>some (none,bif n then .tt else .ff)
   | _,_,_=>none
 | .neg x=>match g x with
   | some (.int k n)=>some (arS k (-n))
   | _=>none
 | .not x=>match g x with
   | some .tt=>some (none,.ff)
   | some .ff=>some (none,.tt)
   | some (.bool p)=>some (none,.bool !p)
   | _=>none
 | .cvi k x=>match g x with
   | some (.int _ n)=>some (arS k n)
   | _=>none
 | .cvs x=>match g x with
   | some (.str s)=>some (none,.str s)
   | some (.int _ n)=>some (some (aU n 128),.str [n.toNat])
   | _=>none
 | .mkfn (.func f) a c=>match jcy g a,jcy g c with
   | some a,some c=>some (none,.fn f a c)
   | _,_=>none
 | .fad off x=>match g x with
   | some (.ptr b o)=>some (none,.ptr b (o+off))
   | some (.eptr b i z f)=>some (none,.eptr b i z (f+off))
   | some (.aptr b o n z i f)=>some (none,.aptr b o n z i (f+off))
   | some (.aptr2 b o n z i f m y j g)=>some (none,.aptr2 b o n z i f m y j (g+off))
   | some (.fptr t x f)=>some (none,.fptr t x (f+off))
   | some (.nptr b t x f)=>some (none,.nptr b t x (f+off))
   | _=>none
 | .fld agg size off x=>match g x with
   | some (.agg l)=>bif(off+size).ble l.length then(mkS agg ((l.drop off).take size)).map λs=>(none,s) else none
   | _=>none
 | .iadA n z x i=>match cst? i with
   | some j=>bif n.ble j then none else match g x with
     | some (.ptr b o)=>some (none,.ptr b (o+j*z))
     | some (.eptr b i z' f)=>some (none,.eptr b i z' (f+j*z))
     | some (.fptr t x f)=>some (none,.fptr t x (f+j*z))
     | some (.aptr b o n z' i f)=>some (none,.aptr b o n z' i (f+j*z))
     | _=>none
   | none=>match g x,g i with
     | some (.ptr b o),some (.int _ m)=>some (some (aU m n),jrr (lm b) b o n z m.toNat)
     | some (.aptr b o k y j f),some (.int _ m)=>some (some (aU m n),.aptr2 b o k y j f n z m.toNat 0)
     | _,_=>none
 | .iadS z x i=>match g x,g i with
   | some (.own b),some (.int _ m)=>match lm b with
     | some (.arr t L cap)=>bif t.size.beq z then some (some (aU m L.length),.eptr b m.toNat z 0) else none
     | _=>none
   | some (.view b o n cap z'),some (.int _ m)=>bif z'.beq z then some (some (aU m n),.eptr b (o+m.toNat) z 0) else none
   | some (.aview b n o k z'),some (.int _ m)=>bif z'.beq z then some (some (aU m k),.aptr b 0 n z (o+m.toNat) 0) else none
   | some (.fz t L),some (.int _ m)=>bif t.size.beq z then some (some (aU m L.length),.fptr t (L.getD m.toNat t.df) 0) else none
   | some (.fzx t L),some (.int _ m)=>bif t.size.beq z then some (some (aU m L.length),.fptr t (L.getD m.toNat t.df) 0) else none
   | _,_=>none
 | .idxA agg n z x i=>match cst? i with
   | some j=>match g x with
     | some (.agg l)=>bif n.ble j|| !((j*z+z).ble l.length) then none else(mkS agg ((l.drop (j*z)).take z)).map λs=>(none,s)
     | _=>none
   | none=>match g x,g i with
     | some (.agg (.int k y::l)),some (.int _ m)=>bif z.beq 1&& !agg&&n.beq (l.length+1) then(match jeq k (.int k y::l) with
       | some r=>some (some (aU m n),.int k (r.getD m.toNat 0))
       | none=>none) else none
     | some (.ag n' t L),some (.int _ m)=>bif t.size.beq z&&t.ok&&n.beq n'&&(t.agg==agg) then some (some (aU m n),yM t (L.getD m.toNat t.df)) else none
     | _,_=>none
 | .idxS x i=>match g x,g i with
   | some (.str s),some (.int _ m)=>some (some (aU m s.length),.int .u8 ((s.getD m.toNat 0:Nat):Int))
   | _,_=>none
 | .slS z x lo hi mx=>match g x with
   | some s=>ssl g lm z s lo hi mx
   | none=>none
 | .slT x lo hi=>match g x,lK g lo 0 with
   | some (.str s),some l=>match lK g hi s.length with
     | some h=>some (some (cY l h s.length),.str ((s.drop l.toNat).take (h.toNat-l.toNat)))
     | none=>none
   | _,_=>none
 | .ext n x=>match g x with
   | some (.tup l)=>match l[n]? with
     | some s=>some (none,s)
     | none=>none
   | _=>none
 | .len x=>match g x with
   | some (.own b)=>match lm b with
     | some (.arr t L cap)=>some (none,.int .i64 (L.length:Nat))
     | _=>none
   | some (.view b o n cap z)=>some (none,.int .i64 (n:Nat))
   | some (.aview b n o m z)=>some (none,.int .i64 (m:Nat))
   | some (.fz t L)=>some (none,.int .i64 (L.length:Nat))
   | some (.fzx t L)=>some (none,.int .i64 (L.length:Nat))
   | some .nils=>some (none,.int .i64 0)
   | some (.emp _)=>some (none,.int .i64 0)
   | _=>none
 | .lenS x=>match g x with
   | some (.str s)=>some (none,.int .i64 (s.length:Nat))
   | _=>none
 | .lenc n=>some (none,.int .i64 (n:Nat))
 | .cap x=>match g x with
   | some (.own b)=>match lm b with
     | some (.arr t L cap)=>some (some (cap.isSome),.int .i64 (cap.getD 0:Nat))
     | _=>none
   | some (.view b o n cap z)=>some (some (cap.isSome),.int .i64 (cap.getD 0:Nat))
   | some (.fzx t L)=>some (none,.int .i64 (L.length:Nat))
   | some .nils=>some (none,.int .i64 0)
   | _=>none
 | .mins x [y]=>match g x,g y with
   | some (.int k a),some (.int k' b)=>bif oX k k' then some (none,.int k (min a b)) else none
   | _,_=>none
 | .maxs x [y]=>match g x,g y with
   | some (.int k a),some (.int k' b)=>bif oX k k' then some (none,.int k (max a b)) else none
   | _,_=>none
 | _=>none
end
variable {ν:Nm} {F:bR}
theorem kk (d:IntKind):oX d d=true:=xC.2 rfl
theorem kmt {op:BinOp} {td:Bool} {a b s:SV} {c:Option Bool} (h:juz op td a b=some (c,s)) (hc:iM c=true) {u v:AV} (hu:bD ν F a u) (hv:bD ν F b v):∃r,rM op u v=some r/\bD ν F s r:=by
 unfold juz at h;split at h<;>try (cases h;done)
 ·rename_i k x k' y;simp only[bD] at hu hv;subst hu;subst hv;split at h
  ·simp only[aS,bC] at h;obtain⟨rfl,rfl⟩:=h;simp only[iM,aO] at hc;refine⟨_,?_,rfl⟩;simp only[rM,m8,hc,aZ,aF,xV]
  ·simp only[aS,bC] at h;obtain⟨rfl,rfl⟩:=h;simp only[iM,aO] at hc;refine⟨_,?_,rfl⟩;simp only[rM,m8,hc,aZ,aF]
  ·obtain⟨hk,h2⟩:=bS h;clear h;revert h2;intro h
   rw[xC] at hk;subst hk;cases op<;>try (first | (cases h;done) | (exact absurd rfl (by assumption)))
   case add=>exact⟨_,jdy (by simp only[ja1,kk,aF]),jgq (lR h) hc⟩
   case sub=>exact⟨_,jdy (by simp only[ja1,kk,aF]),jgq (lR h) hc⟩
   case mul=>exact⟨_,jdy (by simp only[ja1,kk,aF]),jgq (lR h) hc⟩
   case quo=>
    cases td with
    | true=>
      simp only[aF,aS,bC] at h;obtain⟨rfl,rfl⟩:=h;simp only[iM,aO] at hc;have e1:tZ y 0=false:=by rw[vY];simp[hc]
      exact⟨_,by simp only[rM,kk,aF,e1,aG,xV],rfl⟩
    | false=>
      simp only[aG,aS,bC] at h;obtain⟨rfl,rfl⟩:=h;simp only[iM,aT,aO] at hc;obtain⟨⟨h0,h1⟩,h2⟩:=hc;have e1:tZ y 0=false:=by rw[vY];simp;omega
      exact⟨_,by simp only[rM,kk,aF,e1,aG,xV,Int.tdiv_eq_ediv_of_nonneg h0,h2],rfl⟩
   case rem=>
    cases td with
    | true=>
      simp only[aF,aS,bC] at h;obtain⟨rfl,rfl⟩:=h;simp only[iM,aO] at hc;have e1:tZ y 0=false:=by rw[vY];simp[hc]
      exact⟨_,by simp only[rM,kk,aF,e1,aG],rfl⟩
    | false=>
      simp only[aG,aS,bC] at h;obtain⟨rfl,rfl⟩:=h;simp only[iM,aT,aO] at hc;obtain⟨h0,h1⟩:=hc;have e1:tZ y 0=false:=by rw[vY];simp;omega
      exact⟨_,by simp only[rM,kk,aF,e1,aG,qfk h0],rfl⟩
   case and=>
    simp only[aS,bC] at h;obtain⟨rfl,rfl⟩:=h;exact⟨_,by simp only[rM,kk,aF];rfl,rfl⟩
   all_goals
    simp only[aS,bC] at h;obtain⟨rfl,rfl⟩:=h;exact⟨_,jdy (by simp only[ja1,kk,aF]),rfl⟩
 ·rename_i x y;simp only[bD] at hu hv;subst hu;subst hv;split at h<;>try (cases h;done)
  ·simp only[aS,bC] at h;obtain⟨rfl,rfl⟩:=h;simp only[iM,aO] at hc;exact⟨_,by simp only[rM,bB,hc,aZ,aF],rfl⟩
  all_goals
   simp only[aS,bC] at h;obtain⟨rfl,rfl⟩:=h;exact⟨_,jdy rfl,rfl⟩
theorem jyz {k:Nat} {a b:SV} {p:Bool} (h:jr7 k a b=some p) {u v:AV} (hu:bD ν F a u) (hv:bD ν F b v):jlp k u v=some p:=by
 unfold jr7 at h;split at h<;>try (cases h;done)
 ·simp only[bD] at hu hv;subst hu;subst hv;exact h
 ·split at h<;>try (cases h;done)
  rename_i x y hx hy;have e1:=jgr hx hu;have e2:=jgr hy hv;subst e1;subst e2;exact h
 ·simp only[bD] at hu hv;subst hu;subst hv;exact h
theorem j9y {s:Option SB} {b o n z j:Nat} (hj:j<n):bD ν F (jrr s b o n z j) (.ptr (ν b).1 (o+j*z)):=by
 have d:bD ν F (.aptr b o n z j 0) (.ptr (ν b).1 (o+j*z)):=⟨by rw[mG],hj⟩
 unfold jrr;split
 ·rename_i t k L;cases hb:(!(t.size.beq z)&&(o / t.size).blt k&&(o / t.size*t.size).beq o) with
  | false=>exact d
  | true=>
    simp only[aT,jE,bE,aO,iB] at hb;obtain⟨⟨_,h1⟩,h2⟩:=hb;refine⟨?_,by simp[Nat.blt] at h1;omega,hj⟩;show AV.ptr _ _=AV.ptr _ _
    congr 1
    omega
 ·exact d
theorem jxl {s:SV} {l:List SV} {v:AV} (h:s.aggL=some l) (hv:bD ν F s v):∃m,v=.agg m/\cS ν F l m:=by
 unfold SV.aggL at h;split at h<;>try (cases h;done)
 ·cases h;exact hv
 ·rename_i n t L;cases hk:(Ty.arr n t).ok<;>rw[hk] at h<;>cases h
  obtain⟨m,e,hm⟩:=hv;exact⟨m,e,L8 _ hk _ _ hm⟩
theorem jr8:∀ {ks:List Nat} {l m:List SV} {p:Bool},jd6 ks l m=some p->∀ {u v:List AV},cS ν F l u->cS ν F m v->c8 ks u v=some p
 | [],l,m,p,h,u,v,hu,hv=>by
   unfold jd6 at h;split at h
   ·simp only[cS] at hu hv;subst hu;subst hv;exact h
   ·cases h
 | k::ks,l,m,p,h,u,v,hu,hv=>by
   unfold jd6 at h;split at h<;>try (cases h;done)
   rename_i a l b m;obtain⟨x,u',rfl,h1,h2⟩:=hu;obtain⟨y,v',rfl,h3,h4⟩:=hv;split at h<;>try (cases h;done)
   rename_i p1 g1;cases ks with
   | nil=>
     simp only at h;split at h<;>try (cases h;done)
     cases h;simp only[cS] at h2 h4;subst h2;subst h4;simp only[c8,jyz g1 h1 h3,qG]
   | cons k' ks=>
     simp only at h;split at h<;>try (cases h;done)
     rename_i q g2;cases h;have ih:=jr8 g2 h2 h4;rw[c8,jyz g1 h1 h3,ih]
theorem jih {agg:Bool} {l:List SV} {s:SV} (h:mkS agg l=some s) {m:List AV} (hm:cS ν F l m):∃v,uH agg m=some v/\bD ν F s v:=by
 unfold mkS at h;cases agg with
 | true=>cases h;exact⟨.agg m,rfl,m,rfl,hm⟩
 | false=>
   simp only[aG] at h;split at h<;>cases h
   obtain⟨v,_,rfl,h1,rfl⟩:=hm;exact⟨v,rfl,h1⟩
theorem jt8 (hν:∀b,ν (gB+b)=(b,.nils)) {a:AV} {s:SV} (h:jim a=some s):bD ν F s a:=by
 unfold jim at h;split at h<;>cases h<;>simp only[bD,hν]
 exact⟨[],[],rfl,rfl,rfl⟩
theorem je8 (hν:∀b,ν (gB+b)=(b,.nils)):∀ {l:List AV} {r:List SV},O4 l=some r->cS ν F r l
 | [],r,h=>by cases h;rfl
 | a::l,r,h=>by
   simp only[O4] at h;split at h<;>cases h
   rename_i s r h1 h2;exact⟨a,l,rfl,jt8 hν h1,je8 hν h2⟩
theorem jsu:∀ {ps:List (Nat×Nat×SV)} {l r:List SV},jhb l ps=some r->∀ {m:List AV} {qs:List (Nat×Nat×AV)},cS ν F l m->
  (∀(i:Nat) (x:Nat×Nat×SV),ps[i]?=some x->∃v,qs[i]?=some (x.1,x.2.1,v)/\bD ν F x.2.2 v)->ps.length=qs.length->∃m',T6 m qs=some m'/\cS ν F r m'
 | [],l,r,h,m,qs,hm,_,hl=>by
   cases h;cases qs with
   | nil=>exact⟨m,rfl,hm⟩
   | cons q qs=>simp at hl
 | (off,size,s)::ps,l,r,h,m,qs,hm,hq,hl=>by
   simp only[jhb] at h;obtain⟨hb,h⟩:=bS h;simp only[aT,bE,bB,aO] at hb;obtain⟨⟨b1,b2⟩,b3⟩:=hb;cases qs with
   | nil=>simp at hl
   | cons q qs=>
     obtain⟨v,e,hv⟩:=hq 0 _ rfl;simp only[xK,aS] at e;subst e;have hcs:=jrb b3 hv;have hlen:=oV hcs;have hml:=oV hm;have e2:((lA v).length.beq size&&(off+size).ble m.length)=true:=by
      rw[bE,bB];simp;omega
     simp only[T6,e2,aF];refine jsu h ?_ (λi x hx=>hq (i+1) x hx) (by simpa using hl);have:=jrf (o:=off) hm hcs;rw[iG,<-hlen,b1] at this;exact this
theorem jmk {k:IntKind}:∀ {l:List SV} {r:List Int},jeq k l=some r->∀ {m:List AV},cS ν F l m->m=r.map (AV.int k)
 | [],r,h,m,hm=>by cases h;exact hm
 | s::l,r,h,m,hm=>by
   unfold jeq at h;split at h
   ·rename_i e;cases e
   ·rename_i k' n l' e;cases e;obtain⟨hk,h⟩:=bS h;rw[xC] at hk;subst hk;split at h<;>cases h
    rename_i r hr;obtain⟨v,m',rfl,h1,h2⟩:=hm;simp only[bD] at h1;rw[h1,jmk hr h2];rfl
   ·cases h
section
variable {g:Opd->Option SV} {g':Opd->AV} {lm:Nat->Option SB} (hg:∀x s,g x=some s->bD ν F s (g' x))
include hg
theorem jjg:∀ {l:List Opd} {r:List SV},jcy g l=some r->cS ν F r (l.map g')
 | [],r,h=>by cases h;rfl
 | x::l,r,h=>by
   simp only[jcy] at h;split at h<;>cases h
   rename_i s r h1 h2;exact⟨_,_,rfl,hg _ _ h1,jjg h2⟩
theorem ju6:∀ {l:List (Nat×Nat×Opd)} {r:List (Nat×Nat×SV)},jjh g l=some r->r.length=l.length/\∀(i:Nat) (x:Nat×Nat×SV),r[i]?=some x->∃v,(l.map fun(o,s,x)=>(o,s,g' x))[i]?=some (x.1,x.2.1,v)/\bD ν F x.2.2 v
 | [],r,h=>by cases h;exact⟨rfl,λi x hx=>by simp at hx⟩
 | (o,z,y)::l,r,h=>by
   simp only[jjh] at h;split at h<;>cases h
   rename_i s r h1 h2;obtain⟨k1,k2⟩:=ju6 h2;refine⟨by simp[k1],λi x hx=>?_⟩;cases i with
   | zero=>simp at hx;subst hx;exact⟨_,rfl,hg _ _ h1⟩
   | succ i=>simp only[O8] at hx;exact k2 i x hx
theorem jfo {x:Opd} {d n:Int} (h:lK g (some x) d=some n):∃k,g' x=.int k n:=by
 simp only[lK] at h;split at h<;>cases h
 rename_i hx;exact⟨_,hg _ _ hx⟩
theorem b8 {len cap:Nat} {lo hi:Option Opd} {l h:Int} (hlo:lK g lo 0=some l) (hhi:lK g hi len=some h) (h0:0<=l) (h1:l<=h) (h2:h<=cap):
  tO len cap (lo.map g') (hi.map g') none=some (l.toNat,h.toNat,cap):=by
 have k2:∀k,yC cap (.int k h)=some h.toNat:=λk=>by
  rw[jgs (show 0<=h by omega)];simp only[yC,bB];rw[bJ (by simp;omega)];rfl
 have k1:∀k,yC h.toNat (.int k l)=some l.toNat:=λk=>by
  rw[jgs h0];simp only[yC,bB];rw[bJ (by simp;omega)];rfl
 cases hi with
 | none=>
   simp only[lK,aS] at hhi;subst hhi;cases lo with
   | none=>
     simp only[lK,aS] at hlo;subst hlo;rfl
   | some y=>
     obtain⟨k,hk⟩:=jfo hg hlo;have k1':yC len (.int k l)=some l.toNat:=k1 k;unfold tO;simp only[iF,pN,hk,k1'];rfl
 | some x=>
   obtain⟨k,hk⟩:=jfo hg hhi;cases lo with
   | none=>
     simp only[lK,aS] at hlo;subst hlo;unfold tO;simp only[iF,pN,hk,k2];rfl
   | some y=>
     obtain⟨k',hk'⟩:=jfo hg hlo;unfold tO;simp only[iF,hk,hk',k1,k2]
theorem L7 {len cap:Nat} {lo:Option Opd} {hi mx:Opd} {l h m:Int} (hlo:lK g lo 0=some l) (hhi:lK g (some hi) 0=some h) (hmx:lK g (some mx) 0=some m) (h0:0<=l) (h1:l<=h) (h2:h<=m) (h3:m<=cap):
  tO len cap (lo.map g') (some (g' hi)) (some (g' mx))=some (l.toNat,h.toNat,m.toNat):=by
 have key:∀(n:Nat) (y:Int) (k:IntKind),0<=y->y<=n->yC n (.int k y)=some y.toNat:=λn y k a b=>by
  rw[jgs a];simp only[yC,bB];rw[bJ (by simp;omega)];rfl
 obtain⟨k,hk⟩:=jfo hg hhi;obtain⟨k',hk'⟩:=jfo hg hmx;cases lo with
 | none=>
   simp only[lK,aS] at hlo;subst hlo;unfold tO;simp only[pN,hk,hk',key cap m k' (by omega) h3,key m.toNat h k (by omega) (by omega)];rfl
 | some y=>
   obtain⟨k'',hk''⟩:=jfo hg hlo;unfold tO;simp only[iF,hk,hk',hk'',key cap m k' (by omega) h3,key m.toNat h k (by omega) (by omega),key h.toNat l k'' h0 (by omega)]
end
end X
end Go.Vm
namespace Go.Vm
namespace X
open W
variable {ν:Nm} {F:bR} {g:Opd->Option SV} {g':Opd->AV} {lm:Nat->Option SB}
def jqx (ν:Nm) (lm:Nat->Option SB):Prop:=∀b t L cap,lm b=some (.arr t L cap)->t.size≠0/\∃sz,zM (ν b) t.size (List.length (α:=t.den) L) cap sz
theorem map_some {α β:Type} {f:α->β} {x:Option α} {y:β} (h:x.map f=some y):∃a,x=some a/\y=f a:=by
 cases x with
 | none=>cases h
 | some a=>exact⟨a,rfl,(lR h).symm⟩
theorem jy6 {i:Opd} {j:Nat} (h:cst? i=some j):∃k,i=.c (.int k (.ofNat j)):=by
 unfold cst? at h;split at h<;>cases h
 exact⟨_,rfl⟩
theorem ju5 {z l h n:Nat} {c:Option Nat} (hl:l<=h) (hh:h<=n) (hc:∀m,c=some m->n<=m):∀m,c.map (·- l)=some m->h-l<=m:=by
 intro m hm;obtain⟨a,rfl,rfl⟩:=map_some hm;have:=hc a rfl;omega
section
variable (hg:∀x s,g x=some s->bD ν F s (g' x)) (hl:jqx ν lm)
include hg hl
theorem kna {z:Nat} {x:SV} {v:AV} (hv:bD ν F x v) {lo hi mx:Option Opd} {c:Option Bool} {s:SV} (h:ssl g lm z x lo hi mx=some (c,s)) (hc:iM c=true):
  ∃r,nH z v (lo.map g') (hi.map g') (mx.map g')=some r/\bD ν F s r:=by
 unfold ssl at h;split at h
 ·rename_i b;split at h<;>try (cases h;done)
  rename_i t L cap hb;obtain⟨hz,h2⟩:=bS h;clear h;revert h2;intro h
  rw[bE,aO] at hz;subst hz;obtain⟨h0,sz,hd⟩:=hl _ _ _ _ hb;obtain⟨rfl,hsl⟩:=hv;cases mx with
  | none=>
   simp only at h;cases hn:lo.isNone&&hi.isNone with
   | true=>
    rw[hn] at h;simp only[aT,qgr] at hn;obtain⟨rfl,rfl⟩:=hn;cases h;rcases hd with⟨e,_,e2,_⟩ | ⟨c',n,e,_,h1,h3,h4⟩
    ·refine⟨_,?_,rfl,hsl⟩;rw[e];rfl
    ·refine⟨_,?_,rfl,hsl⟩;rw[e];cases c' with
     | none=>
       simp only[nH,gW,aF,pN];show some (AV.sl _ (0+0*t.size) (L.length-0) none t.size)=_;rw[y6];rfl
     | some c'=>
       simp only[nH,gW,aF,pN];show some (AV.sl _ (0+0*t.size) (L.length-0) (some (c'-0)) t.size)=_;rw[y6];rfl
   | false=>
    rw[hn] at h;simp only[aG] at h;split at h<;>try (cases h;done)
    rename_i l k hlo hhi;simp only[aS,bC] at h;obtain⟨rfl,rfl⟩:=h;obtain⟨b0,b1,b2⟩:=dA.1 hc;rcases hd with⟨e,_,e2,e3⟩ | ⟨c',n,e,_,h1,h3,h4⟩
    ·have:=b8 hg (cap:=0) (len:=0) hlo (by rw[e2] at hhi;exact hhi) b0 b1 (by omega);refine⟨.nils,?_,.inl ⟨rfl,by omega,?_,e⟩⟩
     ·rw[e];simp only[nH,pN,this]
     ·rcases e3 with rfl | rfl
      ·exact .inl rfl
      ·exact .inr (by simp)
    ·have hcc:∀m,c'=some m->L.length<=m:=λm hm=>(h3 m hm).2
     have hcap:∀m,cap.map (·- l.toNat)=some m->c'.map (·- l.toNat)=some m:=λm hm=>by
      obtain⟨a,rfl,rfl⟩:=map_some hm;rw[h4 a rfl];rfl
     refine⟨.sl (ν b).1 (0+l.toNat*t.size) (k.toNat-l.toNat) (c'.map (·- l.toNat)) t.size,?_,.inr ⟨_,by rw[lH],hcap,ju5 (z:=t.size) (n:=L.length) (by omega) (by omega) hcc,⟨_,_,e,by omega,λm hm=>by
      obtain⟨a,ha,rfl⟩:=map_some hm;have:=hcc a ha;exact .inr ⟨a,ha,by omega⟩⟩⟩⟩
     rw[e];cases c' with
     | none=>
       have:=b8 hg (cap:=L.length) hlo hhi b0 b1 (by omega);simp only[nH,gW,aF,pN,this]
     | some c'=>
       have:=b8 hg (cap:=c') hlo hhi b0 b1 (by have:=hcc c' rfl;omega);simp only[nH,gW,aF,pN,this,iF]
  | some mx=>
   cases hi with
   | none=>cases h
   | some hi=>
    simp only at h;split at h<;>try (cases h;done)
    rename_i l k m hlo hhi hmx;simp only[aS,bC] at h;obtain⟨rfl,rfl⟩:=h;simp only[iM,aT,aO] at hc;obtain⟨⟨hc,c1⟩,c2⟩:=hc;obtain⟨b0,b1,b2⟩:=dA.1 hc;rcases hd with⟨e,_,e2,e3⟩ | ⟨c',n,e,_,h1,h3,h4⟩
    ·have:=L7 hg (cap:=0) (len:=0) hlo hhi hmx b0 b1 c1 (by omega);refine⟨.nils,?_,.inl ⟨rfl,by omega,.inr (by simp;omega),e⟩⟩;rw[e];simp only[nH,iF,this]
    ·have hcc:∀m,c'=some m->L.length<=m:=λm hm=>(h3 m hm).2
     refine⟨.sl (ν b).1 (0+l.toNat*t.size) (k.toNat-l.toNat) (some (m.toNat-l.toNat)) t.size,?_,.inr ⟨_,by rw[lH],λ_ h=>h,λy hy=>by cases hy;omega,⟨_,_,e,by omega,λy hy=>by cases hy;exact .inl (by omega)⟩⟩⟩;rw[e];cases c' with
     | none=>
       have:=L7 hg (len:=L.length) (cap:=L.length) hlo hhi hmx b0 b1 c1 c2;simp only[nH,gW,aF,iF,this]
     | some c'=>
       have:=L7 hg (len:=L.length) (cap:=c') hlo hhi hmx b0 b1 c1 (by have:=hcc c' rfl;omega);simp only[nH,gW,aF,iF,this]
 ·rename_i b o n cap z';obtain⟨hz,h2⟩:=bS h;clear h;revert h2;intro h
  rw[bE,aO] at hz;subst hz;cases mx with
  | none=>
   simp only at h;split at h<;>try (cases h;done)
   rename_i l k hlo hhi;simp only[aS,bC] at h;obtain⟨rfl,rfl⟩:=h;obtain⟨b0,b1,b2⟩:=dA.1 hc;rcases hv with⟨rfl,rfl,e3,e⟩ | ⟨c',rfl,h1,h2,len,cp,e,h5,h6⟩
   ·have:=b8 hg (cap:=0) (len:=0) hlo hhi b0 b1 b2;refine⟨.nils,by simp only[nH,pN,this],.inl ⟨rfl,by omega,?_,e⟩⟩;rcases e3 with rfl | rfl
    ·exact .inl rfl
    ·exact .inr (by simp)
   ·have hcap:∀m,cap.map (·- l.toNat)=some m->c'.map (·- l.toNat)=some m:=λm hm=>by
     obtain⟨a,rfl,rfl⟩:=map_some hm;rw[h1 a rfl];rfl
    refine⟨.sl (ν b).1 (o*z'+l.toNat*z') (k.toNat-l.toNat) (c'.map (·- l.toNat)) z',?_,.inr ⟨_,by rw[kK],hcap,ju5 (z:=z') (n:=n) (by omega) (by omega) h2,⟨_,_,e,by omega,λm hm=>by
     obtain⟨a,ha,rfl⟩:=map_some hm;have hna:=h2 a ha;rcases h6 a ha with h7 | ⟨q,hq,h7⟩
     ·exact .inl (by omega)
     ·exact .inr ⟨q,hq,by omega⟩⟩⟩⟩
    cases c' with
    | none=>
      have:=b8 hg (cap:=n) hlo hhi b0 b1 (by omega);simp only[nH,gW,aF,pN,this]
    | some c'=>
      have:=b8 hg (cap:=c') hlo hhi b0 b1 (by have:=h2 c' rfl;omega);simp only[nH,gW,aF,pN,this,iF]
  | some mx=>
   cases hi with
   | none=>cases h
   | some hi=>
    simp only at h;split at h<;>try (cases h;done)
    rename_i l k m hlo hhi hmx;simp only[aS,bC] at h;obtain⟨rfl,rfl⟩:=h;simp only[iM,aT,aO] at hc;obtain⟨⟨hc,c1⟩,c2⟩:=hc;obtain⟨b0,b1,b2⟩:=dA.1 hc;rcases hv with⟨rfl,rfl,e3,e⟩ | ⟨c',rfl,h1,h2,len,cp,e,h5,h6⟩
    ·have:=L7 hg (cap:=0) (len:=0) hlo hhi hmx b0 b1 c1 (by omega);exact⟨.nils,by simp only[nH,iF,this],.inl ⟨rfl,by omega,.inr (by simp;omega),e⟩⟩
    ·refine⟨.sl (ν b).1 (o*z'+l.toNat*z') (k.toNat-l.toNat) (some (m.toNat-l.toNat)) z',?_,.inr ⟨_,by rw[kK],λ_ h=>h,λy hy=>by cases hy;omega,⟨_,_,e,by omega,λy hy=>by cases hy;exact .inl (by omega)⟩⟩⟩;cases c' with
     | none=>
       have:=L7 hg (len:=n) (cap:=n) hlo hhi hmx b0 b1 c1 c2;simp only[nH,gW,aF,iF,this]
     | some c'=>
       have:=L7 hg (len:=n) (cap:=c') hlo hhi hmx b0 b1 c1 (by have:=h2 c' rfl;omega);simp only[nH,gW,aF,iF,this]
 ·rename_i t L;obtain⟨hz,h2⟩:=bS h;clear h;revert h2;intro h
  rw[bE,aO] at hz;subst hz;obtain⟨h0,hv⟩:=hv
  have part:∀ {l k:Int} {b o:Nat} {cap cap':Option Nat} {m:List AV},0<=l->l<=k->k<=L.length->(b,HB.cells m)∈F->(∀c,cap'=some c->k.toNat-l.toNat<=c)->o+L.length*t.size<=m.length->dP (cB F t) L ((m.drop o).take (L.length*t.size))->
    bD ν F (.fz t ((L.drop l.toNat).take (k.toNat-l.toNat))) (.sl b (o+l.toNat*t.size) (k.toNat-l.toNat) cap' t.size):=by
   intro l k b o cap cap' m b0 b1 b2 hF hcap hle hr;have hlen:((L.drop l.toNat).take (k.toNat-l.toNat)).length=k.toNat-l.toNat:=by simp;omega
   refine⟨h0,.inr ⟨b,o+l.toNat*t.size,cap',m,by rw[hlen],hF,by rw[hlen];exact hcap,?_,?_⟩⟩
   ·rw[hlen];have:l.toNat*t.size+ (k.toNat-l.toNat)*t.size<=L.length*t.size:=by rw[<-kK];exact mR _ (by omega)
    omega
   ·rw[hlen];have h1:=L3 (fP t) (k.toNat-l.toNat) (jgf (fP t) l.toNat hr);have e:List.take ((k.toNat-l.toNat)*t.size) (List.drop (l.toNat*t.size) (List.take (L.length*t.size) (List.drop o m)))=List.take ((k.toNat-l.toNat)*t.size) (List.drop (o+l.toNat*t.size) m):=by
     rw[Z1,y5,zD,wF];have:(k.toNat-l.toNat)*t.size+l.toNat*t.size<=L.length*t.size:=by rw[<-kK];exact mR _ (by omega)
     omega
    rw[e] at h1;exact h1
  have nilp:∀ {l k:Int},0<=l->l<=k->k<=L.length->L=[]->bD ν F (.fz t ((L.drop l.toNat).take (k.toNat-l.toNat))) .nils:=by
   intro l k _ _ _ e;refine⟨h0,.inl ⟨?_,rfl⟩⟩;rw[e];simp
  cases mx with
  | none=>
    simp only at h;split at h<;>try (cases h;done)
    rename_i l k hlo hhi;simp only[aS,bC] at h;obtain⟨rfl,rfl⟩:=h;obtain⟨b0,b1,b2⟩:=dA.1 hc;rcases hv with⟨e,rfl⟩ | ⟨b,o,cap,m,rfl,hF,hcap,hle,hr⟩
    ·have:=b8 hg (cap:=0) (len:=0) hlo (by rw[e] at hhi;exact hhi) b0 b1 (by rw[e] at b2;exact b2);exact⟨.nils,by simp only[nH,pN,this],nilp b0 b1 b2 e⟩
    ·refine⟨_,?_,part (cap:=cap) (cap':=cap.map (·- l.toNat)) b0 b1 b2 hF (ju5 (z:=t.size) (n:=L.length) (by omega) (by omega) hcap) hle hr⟩;cases cap with
     | none=>
       have:=b8 hg (cap:=L.length) hlo hhi b0 b1 (by omega);simp only[nH,gW,aF,pN,this]
     | some c'=>
       have:=b8 hg (cap:=c') hlo hhi b0 b1 (by have:=hcap c' rfl;omega);simp only[nH,gW,aF,pN,this,iF]
  | some mx=>
   cases hi with
   | none=>cases h
   | some hi=>
    simp only at h;split at h<;>try (cases h;done)
    rename_i l k m hlo hhi hmx;simp only[aS,bC] at h;obtain⟨rfl,rfl⟩:=h;simp only[iM,aT,aO] at hc;obtain⟨⟨hc,c1⟩,c2⟩:=hc;obtain⟨b0,b1,b2⟩:=dA.1 hc;rcases hv with⟨e,rfl⟩ | ⟨b,o,cap,m',rfl,hF,hcap,hle,hr⟩
    ·have:=L7 hg (cap:=0) (len:=0) hlo hhi hmx b0 b1 c1 (by rw[e] at c2;exact c2);exact⟨.nils,by simp only[nH,iF,this],nilp b0 b1 b2 e⟩
    ·refine⟨_,?_,part (cap:=cap) (cap':=some (m.toNat-l.toNat)) b0 b1 b2 hF (λy hy=>by cases hy;omega) hle hr⟩;cases cap with
     | none=>
       have:=L7 hg (len:=L.length) (cap:=L.length) hlo hhi hmx b0 b1 c1 c2;simp only[nH,gW,aF,iF,this]
     | some c'=>
       have:=L7 hg (len:=L.length) (cap:=c') hlo hhi hmx b0 b1 c1 (by have:=hcap c' rfl;omega);simp only[nH,gW,aF,iF,this]
 ·cases h
end
end X
end Go.Vm
namespace Go.Vm
namespace X
open W
variable {ν:Nm} {F:bR} {g:Opd->Option SV} {g':Opd->AV} {lm:Nat->Option SB}
theorem n7 {m:Int} {n:Nat} (h:aU m n=true):∃j:Nat,m=.ofNat j/\j<n/\m.toNat=j/\n.ble j=false:=by
 obtain⟨h0,h1⟩:=j0n.1 h;cases m with
 | ofNat j=>exact⟨j,rfl,by simpa using h1,rfl,by rw[bB];simp;simpa using h1⟩
 | negSucc j=>omega
theorem j4i {z:Nat} {α:Type} {P:List α->List AV->Prop} {L:List α} {v:AV} (h:pD F z P L v) {i:Nat} (hi:i<L.length):∃b o cap l,v=.sl b o L.length cap z/\(b,HB.cells l)∈F/\o+L.length*z<=l.length/\P L ((l.drop o).take (L.length*z)):=by
 rcases h with⟨rfl,_⟩ | ⟨b,o,cap,l,h1,h2,h3,h4,h5⟩
 ·simp at hi
 ·exact⟨b,o,cap,l,h1,h2,h4,h5⟩
theorem km6 (hg:∀x s,g x=some s->bD ν F s (g' x)) (hl:jqx ν lm) (hν:∀b,ν (gB+b)=(b,.nils)) (hk:∀v,g' (.c v)=v) {td:Bool} {i:I} {c:Option Bool} {s:SV}
  (h:sp g lm td i=some (c,s)) (hc:iM c=true):∃r,cT g' i=some r/\bD ν F s r:=by
 cases i<;>simp only[sp] at h<;>try (cases h;done)
 case mov x=>
  obtain⟨a,ha,e⟩:=map_some h;cases e;exact⟨_,rfl,hg _ _ ha⟩
 case pick cc a b=>
  split at h<;>try (cases h;done)
  ·rename_i hcc;have e:=hg _ _ hcc;simp only[bD] at e;obtain⟨u,hu,e2⟩:=map_some h;cases e2;exact⟨_,by simp only[cT,e],hg _ _ hu⟩
  ·rename_i hcc;have e:=hg _ _ hcc;simp only[bD] at e;obtain⟨u,hu,e2⟩:=map_some h;cases e2;exact⟨_,by simp only[cT,e],hg _ _ hu⟩
  ·rename_i p hcc;have e:=hg _ _ hcc;simp only[bD] at e;split at h<;>try (cases h;done)
   ·rename_i k x k' y ha hb;obtain⟨hk,h2⟩:=bS h;rw[xC] at hk;subst hk;cases h2;have e1:=hg _ _ ha;have e2:=hg _ _ hb;simp only[bD] at e1 e2;cases p with
    | true=>exact⟨g' a,by simp only[cT,e],by simp only[aF];exact e1⟩
    | false=>exact⟨g' b,by simp only[cT,e],by simp only[aG];exact e2⟩
   ·rename_i sa sb _ ha hb;split at h<;>try (cases h;done)
    rename_i x y hx hy;cases h;have e1:=jgr hx (hg _ _ ha);have e2:=jgr hy (hg _ _ hb);cases p with
    | true=>exact⟨g' a,by simp only[cT,e],by simp only[aF];exact e1⟩
    | false=>exact⟨g' b,by simp only[cT,e],by simp only[aG];exact e2⟩
 case build z ps=>
  split at h<;>try (cases h;done)
  rename_i l ps' hz hp;obtain⟨l',hf,e⟩:=map_some h;cases e;obtain⟨k1,k2⟩:=ju6 hg hp;obtain⟨m',e1,e2⟩:=jsu hf (je8 hν hz) k2 (by simpa using k1);refine⟨.agg m',?_,m',rfl,e2⟩;simp only[cT,e1,iF]
 case nilck x=>
  split at h<;>try (cases h;done)
  ·rename_i b o hx;cases h;have e:=hg _ _ hx;simp only[bD] at e;exact⟨_,by simp only[cT,e],rfl⟩
  ·rename_i f a cc hx;cases h;obtain⟨a',c',e,h1,h2⟩:=hg _ _ hx;exact⟨_,by simp only[cT,e],a',c',rfl,h1,h2⟩
 case bin op x y=>
  split at h<;>try (cases h;done)
  rename_i a b ha hb;exact kmt h hc (hg _ _ ha) (hg _ _ hb)
 case eqf n agg ks x y=>
  split at h<;>try (cases h;done)
  rename_i a b ha hb;split at h<;>try (cases h;done)
  rename_i p hp;cases h;refine⟨_,X5 (v:=.bool (bif n then !p else p)) ?_,rfl⟩;simp only[uN];have h1:=hg _ _ ha;have h2:=hg _ _ hb;have key:jdz agg ks (g' x) (g' y)=some p:=by
   cases agg with
   | true=>
     simp only[aF] at hp;split at hp<;>try (cases hp;done)
     rename_i l m g1 g2;obtain⟨l',e1,r1⟩:=jxl g1 h1;obtain⟨m',e2,r2⟩:=jxl g2 h2;have k:=jr8 hp r1 r2;have hlen:∀ {ks:List Nat} {u v:List AV} {p:Bool},c8 ks u v=some p->u.length=ks.length/\v.length=ks.length:=by
      intro ks;induction ks with
      | nil=>
        intro u v p h;cases u<;>cases v<;>simp[c8] at h ⊢
      | cons k ks ih=>
        intro u v p h;cases u<;>cases v<;>simp only[c8] at h<;>try (cases h;done)
        split at h<;>try (cases h;done)
        rename_i q1 q2;obtain⟨i1,i2⟩:=ih q2;simp[i1,i2]
     obtain⟨q1,q2⟩:=hlen k;simp only[jdz,aF,e1,e2,q1,q2,gW,lG,k]
   | false=>
     simp only[aG] at hp;simp only[jdz,aG];exact jr8 hp ⟨_,[],rfl,h1,rfl⟩ ⟨_,[],rfl,h2,rfl⟩
  simp only[key]
 case eqn n kd x y=>
  split at h<;>try (cases h;done)
  ·rename_i b hx hy;cases h;have e1:=hg _ _ hx;have e2:=hg _ _ hy;simp only[bD] at e1 e2;refine⟨.bool (bif n then !b else b),X5 ?_,rfl⟩;rcases e1 with⟨rfl,e1⟩ | ⟨rfl,t,u,e1⟩<;>simp only[uN,e1,e2,wS]
  ·rename_i hx hy;cases h;have e1:=hg _ _ hx;have e2:=hg _ _ hy;simp only[bD] at e1 e2;refine⟨.bool (bif n then false else true),X5 ?_,?_⟩
   ·simp only[uN,e1,e2,wS];cases n<;>rfl
   ·cases n<;>rfl
  ·rename_i t L hx hy;cases h;obtain⟨_,b,o,cap,l,e1,_⟩:=hg _ _ hx;have e2:=hg _ _ hy;simp only[bD] at e2;refine⟨.bool (bif n then true else false),X5 ?_,?_⟩
   ·simp only[uN,e1,e2,wS];cases n<;>rfl
   ·cases n<;>rfl
  ·rename_i hx hy;cases h;have e1:=hg _ _ hx;have e2:=hg _ _ hy;simp only[bD] at e1 e2;refine⟨.bool (bif n then false else true),X5 ?_,?_⟩
   ·simp only[uN,e1,e2,wS];cases n<;>rfl
   ·cases n<;>rfl
  ·rename_i f a cc hx hy;cases h;obtain⟨a',c',e1,_⟩:=hg _ _ hx;have e2:=hg _ _ hy;simp only[bD] at e2;refine⟨.bool (bif n then true else false),X5 ?_,?_⟩
   ·simp only[uN,e1,e2,wS];cases n<;>rfl
   ·cases n<;>rfl
 case neg x=>
  split at h<;>try (cases h;done)
  rename_i k n hx;have e:=hg _ _ hx;simp only[bD] at e;exact⟨_,by simp only[cT,e,xV,Int.zero_sub],jgq (lR h) hc⟩
 case not x=>
  split at h<;>try (cases h;done)
  all_goals
   rename_i hx;cases h;have e:=hg _ _ hx;simp only[bD] at e;exact⟨_,(by simp only[cT,e]<;>rfl),rfl⟩
 case cvi k x=>
  split at h<;>try (cases h;done)
  rename_i k' n hx;have e:=hg _ _ hx;simp only[bD] at e;exact⟨_,by simp only[cT,e,xV],jgq (lR h) hc⟩
 case cvs x=>
  split at h<;>try (cases h;done)
  ·rename_i hx;cases h;have e:=hg _ _ hx;simp only[bD] at e;exact⟨_,by simp only[cT,e],rfl⟩
  ·rename_i k n hx;cases h;have e:=hg _ _ hx;simp only[bD] at e;obtain⟨j,rfl,h1,h2,h3⟩:=n7 hc;have h4:j.ble 127=true:=by rw[bB,aO];omega
   exact⟨.str [j],by simp only[cT,e,h4,aF],by simp only[bD,h2]⟩
 case mkfn f a cc=>
  cases f with
  | func f=>
    simp only at h;split at h<;>try (cases h;done)
    rename_i a' c' h1 h2;cases h;exact⟨_,rfl,_,_,rfl,jjg hg h1,jjg hg h2⟩
  | _=>cases h
 case fad off x=>
  split at h<;>try (cases h;done)
  ·rename_i b o hx;cases h;have e:=hg _ _ hx;simp only[bD] at e;exact⟨_,by simp only[cT,e],rfl⟩
  ·rename_i b i z f hx;cases h;obtain⟨e,h2⟩:=hg _ _ hx;exact⟨.ptr (ν b).1 (i*z+ (f+off)),by simp only[cT,e,pP],rfl,h2⟩
  ·rename_i b o n z i f hx;cases h;obtain⟨e,h2⟩:=hg _ _ hx;exact⟨.ptr (ν b).1 (o+i*z+ (f+off)),by simp only[cT,e,pP],rfl,h2⟩
  ·rename_i b o n z i f m y j g' hx;cases h;obtain⟨e,h2⟩:=hg _ _ hx;exact⟨.ptr (ν b).1 (o+i*z+f+j*y+ (g'+off)),by simp only[cT,e,pP],rfl,h2⟩
  ·rename_i t y f hx;cases h;obtain⟨b,o,l,e,h2⟩:=hg _ _ hx;exact⟨.ptr b (o+ (f+off)),by simp only[cT,e,pP],b,o,l,rfl,h2⟩
  ·rename_i b t y f hx;cases h;obtain⟨e,h2⟩:=hg _ _ hx;exact⟨.ptr (ν b).1 (f+off),by simp only[cT,e],rfl,h2⟩
 case fld agg size off x=>
  split at h<;>try (cases h;done)
  rename_i l hx;obtain⟨hb,h2⟩:=bS h;obtain⟨s',hs,e⟩:=map_some h2;cases e;obtain⟨m,e,hm⟩:=hg _ _ hx;obtain⟨v,k1,k2⟩:=jih hs (wR size (vT off hm));refine⟨v,?_,k2⟩;rw[oV hm] at hb;simp only[cT,e,hb,aF,k1]
 case iadA n z x i=>
  split at h
  ·rename_i j hj;obtain⟨k,rfl⟩:=jy6 hj;obtain⟨hb,h2⟩:=G8 h;split at h2<;>try (cases h2;done)
   ·rename_i b o hx;cases h2;have e:=hg _ _ hx;simp only[bD] at e;exact⟨_,by simp only[cT,e,hk,hb,aG],rfl⟩
   ·rename_i b i z' f hx;cases h2;obtain⟨e,h3⟩:=hg _ _ hx;exact⟨.ptr (ν b).1 (i*z'+ (f+j*z)),by simp only[cT,e,hk,hb,aG,pP],rfl,h3⟩
   ·rename_i t y f hx;cases h2;obtain⟨b,o,l,e,h3⟩:=hg _ _ hx;exact⟨.ptr b (o+ (f+j*z)),by simp only[cT,e,hk,hb,aG,pP],b,o,l,rfl,h3⟩
   ·rename_i b o n' z' i f hx;cases h2;obtain⟨e,h3⟩:=hg _ _ hx;exact⟨.ptr (ν b).1 (o+i*z'+ (f+j*z)),by simp only[cT,e,hk,hb,aG,pP],rfl,h3⟩
  ·split at h<;>try (cases h;done)
   ·rename_i b o k m hx hi;cases h;obtain⟨j,rfl,h1,h2,h3⟩:=n7 hc;have e1:=hg _ _ hx;have e2:=hg _ _ hi;simp only[bD] at e1 e2;exact⟨.ptr (ν b).1 (o+j*z),by simp only[cT,e1,e2,h3,aG],by rw[h2];exact j9y (by omega)⟩
   ·rename_i b o k' y j' f k m hx hi;cases h;obtain⟨j,rfl,h1,h2,h3⟩:=n7 hc;obtain⟨e1,h4⟩:=hg _ _ hx;have e2:=hg _ _ hi;simp only[bD] at e2;exact⟨.ptr (ν b).1 (o+j'*y+f+j*z),by simp only[cT,e1,e2,h3,aG],by rw[h2,mG],h4,by omega⟩
 case iadS z x i=>
  split at h<;>try (cases h;done)
  ·rename_i b k m hx hi;split at h<;>try (cases h;done)
   rename_i t L cap hb;obtain⟨hz,h2⟩:=bS h;rw[bE,aO] at hz;subst hz;cases h2;obtain⟨j,rfl,h1,h2,h3⟩:=n7 hc;have e1:=hg _ _ hx;have e2:=hg _ _ hi;simp only[bD] at e1 e2;obtain⟨h0,sz,hd⟩:=hl _ _ _ _ hb;rcases hd with⟨_,_,e3,_⟩ | ⟨c',n,e,_,h4⟩
   ·omega
   ·rw[e] at e1;exact⟨.ptr (ν b).1 (0+j*t.size),by simp only[cT,e1.1,e2,gW,fQ,wH,h3,aG],by rw[h2,mG,lH],_,_,e,by rw[h2];exact h1⟩
  ·rename_i b o n cap z' k m hx hi;obtain⟨hz,h2⟩:=bS h;rw[bE,aO] at hz;subst hz;cases h2;obtain⟨j,rfl,h1,h2,h3⟩:=n7 hc;have e1:=hg _ _ hx;have e2:=hg _ _ hi;simp only[bD] at e2;rcases e1 with⟨_,e1,_⟩ | ⟨c',e1,_,_,len,cp,e,h5,_⟩
   ·omega
   ·exact⟨.ptr (ν b).1 (o*z'+j*z'),by simp only[cT,e1,e2,gW,fQ,wH,h3,aG],by rw[h2,mG,kK],_,_,e,by rw[h2];omega⟩
  ·rename_i b n o m0 z' k m hx hi;obtain⟨hz,h2⟩:=bS h;rw[bE,aO] at hz;subst hz;cases h2;obtain⟨j,rfl,h1,h2,h3⟩:=n7 hc;obtain⟨⟨c,e1⟩,h4⟩:=hg _ _ hx;have e2:=hg _ _ hi;simp only[bD] at e2;exact⟨.ptr (ν b).1 (o*z'+j*z'),by simp only[cT,e1,e2,gW,fQ,wH,h3,aG],by rw[h2,mG,lH,kK],by rw[h2];omega⟩
  ·rename_i t L k m hx hi;obtain⟨hz,h2⟩:=bS h;rw[bE,aO] at hz;subst hz;cases h2;obtain⟨j,rfl,h1,h2,h3⟩:=n7 hc;obtain⟨h0,e1⟩:=hg _ _ hx;have e2:=hg _ _ hi;simp only[bD] at e2;obtain⟨b,o,cap,l,e3,h4,h5,h6⟩:=j4i e1 h1;have hlt:j*t.size+t.size<=L.length*t.size:=by
    have:=mR t.size (show j+1<=L.length by omega);rw[kK] at this;omega
   refine⟨.ptr b (o+j*t.size),by simp only[cT,e3,e2,gW,fQ,wH,h3,aG],b,o+j*t.size,l,by rw[mG],h4,by omega,?_⟩;have:=yA (fP t) t.df h6 h1;rw[Z1,zD,y5,wF (by omega)] at this;rw[h2];exact this
  ·rename_i t L k m hx hi;obtain⟨hz,h2⟩:=bS h;rw[bE,aO] at hz;subst hz;cases h2;obtain⟨j,rfl,h1,h2,h3⟩:=n7 hc;obtain⟨h0,e1⟩:=hg _ _ hx;have e1:=e1.sl;have e2:=hg _ _ hi;simp only[bD] at e2;obtain⟨b,o,cap,l,e3,h4,h5,h6⟩:=j4i e1 h1;have hlt:j*t.size+t.size<=L.length*t.size:=by
    have:=mR t.size (show j+1<=L.length by omega);rw[kK] at this;omega
   refine⟨.ptr b (o+j*t.size),by simp only[cT,e3,e2,gW,fQ,wH,h3,aG],b,o+j*t.size,l,by rw[mG],h4,by omega,?_⟩;have:=yA (fP t) t.df h6 h1;rw[Z1,zD,y5,wF (by omega)] at this;rw[h2];exact this
 case idxA agg n z x i=>
  split at h
  ·rename_i j hj;obtain⟨k,rfl⟩:=jy6 hj;split at h<;>try (cases h;done)
   rename_i l hx;obtain⟨hb,h2⟩:=G8 h;obtain⟨s',hs,e⟩:=map_some h2;cases e;obtain⟨m,e,hm⟩:=hg _ _ hx;obtain⟨v,k1,k2⟩:=jih hs (wR z (vT (j*z) hm));refine⟨v,?_,k2⟩;rw[oV hm] at hb;simp only[cT,e,hk,hb,aG,k1]
  ·split at h<;>try (cases h;done)
   ·rename_i k y l k' m hx hi;obtain⟨hb,h2⟩:=bS h;simp only[aT,bE,aO,jE] at hb;obtain⟨⟨rfl,rfl⟩,rfl⟩:=hb;split at h2<;>try (cases h2;done)
    rename_i r hr;cases h2;obtain⟨j,rfl,h1,h2,h3⟩:=n7 hc;obtain⟨ms,e,hm⟩:=hg _ _ hx;have e2:=hg _ _ hi;simp only[bD] at e2;have hlen:=oV hm;have em:=jmk hr hm;have hrl:r.length=l.length+1:=by
     have:ms.length=r.length:=by rw[em];simp
     simp at hlen;omega
    refine⟨_,?_,rfl⟩;have h4:(j*1+1).ble ms.length=true:=by rw[bB];simp;simp at hlen;omega
    have h5:j<r.length:=by omega
    simp only[cT,e,e2,h3,h4,fQ,qgk,aG];rw[em,qhx,hZ (by simpa using h5)];simp[uH,gH,h5]
   ·rename_i n' t L k m hx hi;obtain⟨hb,h2⟩:=bS h;simp only[aT,bE,aO,beq_iff_eq] at hb;obtain⟨⟨⟨rfl,ht⟩,rfl⟩,rfl⟩:=hb;cases h2;obtain⟨j,rfl,h1,h2,h3⟩:=n7 hc;obtain⟨ms,e,hl1,hm⟩:=hg _ _ hx;have e2:=hg _ _ hi;simp only[bD] at e2;have hlen:=oT (fP t) hm;have h5:j<L.length:=by omega
    obtain⟨v,k1,k2⟩:=jw3 (yA (fP t) t.df hm h5);refine⟨v,?_,by rw[h2];exact jen ht k2⟩;have h4:(j*t.size+t.size).ble ms.length=true:=by
     rw[bB,hlen];have:=mR t.size (show j+1<=L.length by omega);rw[kK] at this;simp;omega
    simp only[cT,e,e2,h3,h4,fQ,qgk,aG,k1]
 case idxS x i=>
  split at h<;>try (cases h;done)
  rename_i st k m hx hi;cases h;obtain⟨j,rfl,h1,h2,h3⟩:=n7 hc;have e1:=hg _ _ hx;have e2:=hg _ _ hi;simp only[bD] at e1 e2;refine⟨_,?_,rfl⟩;simp only[cT,e1,e2,dI h1,h2,gH,pK]
 case slS z x lo hi mx=>
  split at h<;>try (cases h;done)
  rename_i s' hx;exact kna hg hl (hg _ _ hx) h hc
 case slT x lo hi=>
  split at h<;>try (cases h;done)
  rename_i st l hx hlo;split at h<;>try (cases h;done)
  rename_i k hhi;cases h;obtain⟨b0,b1,b2⟩:=dA.1 hc;have e1:=hg _ _ hx;simp only[bD] at e1;have:=b8 hg (cap:=st.length) hlo hhi b0 b1 b2;exact⟨_,by simp only[cT,e1,this],rfl⟩
 case ext n x=>
  split at h<;>try (cases h;done)
  rename_i l hx;split at h<;>try (cases h;done)
  rename_i s' hs;cases h;obtain⟨m,e,hm⟩:=hg _ _ hx;obtain⟨v,k1,k2⟩:=T4 hm hs;exact⟨v,by simp only[cT,e,k1],k2⟩
 case len x=>
  split at h<;>try (cases h;done)
  ·rename_i b hx;split at h<;>try (cases h;done)
   rename_i t L cap hb;cases h;obtain⟨e1,_⟩:=hg _ _ hx;obtain⟨h0,sz,hd⟩:=hl _ _ _ _ hb;rcases hd with⟨e,_,e3,_⟩ | ⟨c',n,e,_,h4⟩
   ·rw[e] at e1;exact⟨.int .i64 0,by simp only[cT,e1],by rw[e3];rfl⟩
   ·rw[e] at e1;exact⟨_,by simp only[cT,e1],rfl⟩
  ·rename_i b o n cap z hx;cases h;rcases hg _ _ hx with⟨e1,rfl,_⟩ | ⟨c',e1,_⟩
   ·exact⟨.int .i64 0,by simp only[cT,e1],rfl⟩
   ·exact⟨_,by simp only[cT,e1],rfl⟩
  ·rename_i b n o m z hx;cases h;obtain⟨⟨c,e1⟩,_⟩:=hg _ _ hx;exact⟨_,by simp only[cT,e1],rfl⟩
  ·rename_i t L hx;cases h;obtain⟨h0,e1⟩:=hg _ _ hx;rcases e1 with⟨rfl,e1⟩ | ⟨b,o,cap,l,e1,_⟩
   ·exact⟨.int .i64 0,by simp only[cT,e1],rfl⟩
   ·exact⟨_,by simp only[cT,e1],rfl⟩
  ·rename_i t L hx;cases h;obtain⟨h0,e1⟩:=hg _ _ hx;rcases e1 with⟨rfl,e1⟩ | ⟨b,o,l,e1,_⟩
   ·exact⟨.int .i64 0,by simp only[cT,e1],rfl⟩
   ·exact⟨_,by simp only[cT,e1],rfl⟩
  ·rename_i hx;cases h;have e1:=hg _ _ hx;simp only[bD] at e1;exact⟨_,by simp only[cT,e1],rfl⟩
  ·rename_i z hx;cases h;have e1:=hg _ _ hx;rcases e1 with e1 | ⟨b,o,l,e1,_⟩
   ·exact⟨_,by simp only[cT,e1],rfl⟩
   ·exact⟨.int .i64 0,by simp only[cT,e1];rfl,rfl⟩
 case lenS x=>
  split at h<;>try (cases h;done)
  rename_i st hx;cases h;have e1:=hg _ _ hx;simp only[bD] at e1;exact⟨_,by simp only[cT,e1],rfl⟩
 case lenc n=>
  cases h;exact⟨_,rfl,rfl⟩
 case cap x=>
  split at h<;>try (cases h;done)
  ·rename_i b hx;split at h<;>try (cases h;done)
   rename_i t L cap hb;cases h;obtain⟨m,rfl⟩:=rB.1 hc;obtain⟨e1,_⟩:=hg _ _ hx;obtain⟨h0,sz,hd⟩:=hl _ _ _ _ hb;rcases hd with⟨e,_,e3,e4⟩ | ⟨c',n,e,_,_,_,h4⟩
   ·rw[e] at e1;rcases e4 with e4 | e4<;>cases e4
    exact⟨.int .i64 0,by simp only[cT,e1],rfl⟩
   ·rw[e,h4 m rfl] at e1;exact⟨.int .i64 (m:Nat),by simp only[cT,e1],rfl⟩
  ·rename_i b o n cap z hx;cases h;obtain⟨m,rfl⟩:=rB.1 hc;rcases hg _ _ hx with⟨e1,rfl,e4,_⟩ | ⟨c',e1,h4,_⟩
   ·rcases e4 with e4 | e4<;>cases e4
    exact⟨.int .i64 0,by simp only[cT,e1],rfl⟩
   ·rw[h4 m rfl] at e1;exact⟨.int .i64 (m:Nat),by simp only[cT,e1],rfl⟩
  ·rename_i t L hx;cases h;obtain⟨h0,e1⟩:=hg _ _ hx;rcases e1 with⟨rfl,e1⟩ | ⟨b,o,l,e1,_⟩
   ·exact⟨.int .i64 0,by simp only[cT,e1],rfl⟩
   ·exact⟨_,by simp only[cT,e1],rfl⟩
  ·rename_i hx;cases h;have e1:=hg _ _ hx;simp only[bD] at e1;exact⟨_,by simp only[cT,e1],rfl⟩
 case mins x xs=>
  match xs,h with
  | [y],h=>
    simp only at h;split at h<;>try (cases h;done)
    rename_i k a k' b hx hy;obtain⟨hk',h2⟩:=bS h;rw[xC] at hk';subst hk';cases h2;have e1:=hg _ _ hx;have e2:=hg _ _ hy;simp only[bD] at e1 e2;exact⟨_,X5 (by simp only[uN,dE,lD,e1,e2,jgm]),rfl⟩
  | [],h=>cases h
  | _::_::_,h=>cases h
 case maxs x xs=>
  match xs,h with
  | [y],h=>
    simp only at h;split at h<;>try (cases h;done)
    rename_i k a k' b hx hy;obtain⟨hk',h2⟩:=bS h;rw[xC] at hk';subst hk';cases h2;have e1:=hg _ _ hx;have e2:=hg _ _ hy;simp only[bD] at e1 e2;exact⟨_,X5 (by simp only[uN,dE,lD,e1,e2,jgl]),rfl⟩
  | [],h=>cases h
  | _::_::_,h=>cases h
end X
end Go.Vm
