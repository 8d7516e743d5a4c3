/- Parts of the proof. -/
import Derived.Test.YtccefhabickfiaaGreatDoorXG1
set_option linter.unusedSimpArgs false
set_option linter.defProp false
set_option linter.unusedVariables false
namespace Go.Vm
namespace X
open W
def aC (n:Int):Bool:=match n with
 | .ofNat m=>m.ble 9223372036854775807
 | .negSucc m=>m.ble 9223372036854775807
def jkj {n:Int}:aC n=true↔ -9223372036854775808<=n/\n<=9223372036854775807:=by
 cases n<;>simp only[aC,aP,aH,qft]<;>omega
def jkk {n:Int} (h:aC n=true):IntKind.i64.wrap n=n:=by
 have:=jkj.1 h;exact wrap_in (k:=.i64) (by simp only[inR];omega)
def aI (i:Int) (n:Nat):Bool:=decide (0<=i)&&decide (i< (n:Int))
def jkq {i:Int} {n:Nat}:aI i n=true↔0<=i/\i< (n:Int):=by simp[aI]
def cT (l h:Int) (n:Nat):Bool:=decide (0<=l)&&decide (l<=h)&&decide (h<=(n:Int))
def fH {l h:Int} {n:Nat}:cT l h n=true↔0<=l/\l<=h/\h<=(n:Int):=by simp[cT,and_assoc]
abbrev PS:=Option (Option Bool×SV)
abbrev dT (c:Option Bool):Bool:=match c with
 | none=>true
 | some b=>b
def wS:Option Bool->Option Bool->Option Bool
 | none,b=>b
 | some a,none=>some a
 | some a,some b=>some (a&&b)
def Ks {a b:Option Bool}:dT (wS a b)=true↔dT a=true/\dT b=true:=by
 cases a<;>cases b<;>simp[wS,dT]
def zP (k:IntKind) (n:Int):Option Bool×SV:=match k with
 | .i64=>(some (aC n),.int .i64 n)
 | k=>(none,.int k (k.wrap n))
def Io {k:IntKind} {n:Int} {c:Option Bool} {s:SV} (h:zP k n=(c,s)) (hc:dT c=true) {ν:Nm} {F:aQ}:aJ ν F s (.int k (k.wrap n)):=by
 unfold zP at h;split at h<;>simp only[aM] at h<;>obtain⟨rfl,rfl⟩:=h
 ·simp only[aJ,jkk (show aC n=true from hc)]
 ·rfl
def zR:SV->Option Bool
 | .bool b=>some b
 | .tt=>some true
 | .ff=>some false
 | _=>none
def Ip {s:SV} {b:Bool} (h:zR s=some b) {ν:Nm} {F:aQ} {v:AV} (hv:aJ ν F s v):v=.bool b:=by
 cases s<;>simp only[zR,aG,reduceCtorEq] at h<;>subst h<;>exact hv
def jz9 (k:IntKind) (x y:Int):Int:=k.wrap (BitVec.ofInt k.bits x &&& BitVec.ofInt k.bits y).toNat
def jc8 (op:BinOp) (td:Bool) (a b:SV):PS:=
 match a,b with
 | .int k x,.int k' y=>match op with
   | .shl=>some (some (decide (0<=y)),.int k (k.wrap (x*2^ (min y.toNat k.bits))))
   | .shr=>some (some (decide (0<=y)),.int k (x.fdiv (2^ (min y.toNat k.bits))))
   | op=>bif jO k k' then(match op with
     | .add=>some (zP k (x+y))
     | .sub=>some (zP k (x-y))
     | .mul=>some (zP k (x*y))
     | .quo=>bif td then some (some (decide (y≠0)),.int k (k.wrap (x.tdiv y))) else some (some (decide (0<=x)&&decide (0<y)&&decide (k.wrap (x / y)=x / y)),.int k (x / y))
     | .rem=>bif td then some (some (decide (y≠0)),.int k (x.tmod y)) else some (some (decide (0<=x)&&decide (0<y)),.int k (x%y))
     | .and=>some (none,.int k (jz9 k x y))
     | .eql=>some (none,.bool (decide (x=y)))
     | .neq=>some (none,.bool (decide (x≠y)))
     | .lss=>some (none,.bool (decide (x<y)))
     | .leq=>some (none,.bool (decide (x<=y)))
     | .gtr=>some (none,.bool (decide (y<x)))
     | .geq=>some (none,.bool (decide (y<=x)))
     | _=>none) else none
 | .str s,.str t=>match op with
   | .add=>some (some (decide (s.length+t.length<=4000000000)),.str (s++t))
   | .eql=>some (none,.bool (decide (s=t)))
   | .neq=>some (none,.bool (decide (s≠t)))
   | .lss=>some (none,.bool (pI s t))
   | .gtr=>some (none,.bool (!(pI s t||lJ s t)))
   | _=>none
 | _,_=>none
def Yw:Nat->SV->SV->Option Bool
 | 1,.int k x,.int k' y=>bif jO k k' then some (decide (x=y)) else none
 | 0,a,b=>match zR a,zR b with
   | some p,some q=>some (p==q)
   | _,_=>none
 | 2,.str s,.str t=>some (decide (s=t))
 | _,_,_=>none
def Dh:List Nat->List SV->List SV->Option Bool
 | [],l,m=>match l,m with
   | [],[]=>some true
   | _,_=>none
 | k::ks,l,m=>match l,m with
   | a::l,b::m=>match Yw k a b with
     | some p=>match ks with
       | []=>match l,m with
         | [],[]=>some p
         | _,_=>none
       | k'::ks=>match Dh (k'::ks) l m with
         | some q=>some (p&&q)
         | none=>none
     | none=>none
   | _,_=>none
def Yg (s:Option SB) (b o n z j:Nat):SV:=match s with
 | some (.fix t k _)=>bif !(t.size.beq z)&&(o / t.size).blt k&&(o / t.size*t.size).beq o then .aptr2 b 0 k t.size (o / t.size) 0 n z j 0 else .aptr b o n z j 0
 | _=>.aptr b o n z j 0
def SV.aggL:SV->Option (List SV)
 | .agg l=>some l
 | .ag n t L=>bif(Ty.arr n t).ok then some (qI (.arr n t) L) else none
 | _=>none
def mkS (agg:Bool) (l:List SV):Option SV:=bif agg then some (.agg l) else match l with
 | [x]=>some x
 | _=>none
def cst?:Opd->Option Nat
 | .c (.int _ (.ofNat n))=>some n
 | _=>none
def Jn:List SV->List (Nat×Nat×SV)->Option (List SV)
 | l,[]=>some l
 | l,(off,size,s)::r=>bif s.cells.length.beq size&&(off+size).ble l.length&&s.cells.all SV.one then Jn (l.take off++(s.cells++l.drop (off+size))) r else none
def Kp:AV->Option SV
 | .int k n=>some (.int k n)
 | .bool true=>some .tt
 | .bool false=>some .ff
 | .str s=>some (.str s)
 | .nils=>some .nils
 | .nilp=>some .nilp
 | .nilf=>some .nilf
 | .nili=>some .nili
 | .nilm=>some .nilm
 | .ptr b o=>some (.ptr (gB+b) o)
 | .fn (.func f) [] []=>some (.fn f [] [])
 | _=>none
def vH:List AV->Option (List SV)
 | []=>some []
 | a::l=>match Kp a,vH l with
   | some s,some r=>some (s::r)
   | _,_=>none
def Ed (k:IntKind):List SV->Option (List Int)
 | []=>some []
 | .int k' n::l=>bif jO k' k then(match Ed k l with
   | some r=>some (n::r)
   | none=>none) else none
 | _=>none
def Bx (g:Opd->Option SV):List Opd->Option (List SV)
 | []=>some []
 | x::l=>match g x,Bx g l with
   | some s,some r=>some (s::r)
   | _,_=>none
def Mu (g:Opd->Option SV):List (Nat×Nat×Opd)->Option (List (Nat×Nat×SV))
 | []=>some []
 | (o,z,x)::l=>match g x,Mu g l with
   | some s,some r=>some ((o,z,s)::r)
   | _,_=>none
def gJ (g:Opd->Option SV):Option Opd->Int->Option Int
 | none,d=>some d
 | some x,_=>match g x with
   | some (.int _ n)=>some n
   | _=>none
section
variable (g:Opd->Option SV) (lm:Nat->Option SB) (td:Bool)
def ssl (z:Nat) (x:SV) (lo hi mx:Option Opd):PS:=
 match x with
 | .own b=>match lm b with
   | some (.arr t L cap)=>bif t.size.beq z then(match mx with
     | none=>bif lo.isNone&&hi.isNone then some (none,.own b) else match gJ g lo 0,gJ g hi L.length with
       | some l,some h=>some (some (cT l h L.length),.view b l.toNat (h.toNat-l.toNat) (cap.map (·- l.toNat)) z)
       | _,_=>none
     | some mx=>match hi with
       | some hi=>match gJ g lo 0,gJ g (some hi) 0,gJ g (some mx) 0 with
         | some l,some h,some m=>some (some (cT l h L.length&&decide (h<=m)&&decide (m<=(L.length:Int))),.view b l.toNat (h.toNat-l.toNat) (some (m.toNat-l.toNat)) z)
         | _,_,_=>none
       | none=>none) else none
   | _=>none
 | .view b o n cap z'=>bif z'.beq z then(match mx with
     | none=>match gJ g lo 0,gJ g hi n with
       | some l,some h=>some (some (cT l h n),.view b (o+l.toNat) (h.toNat-l.toNat) (cap.map (·- l.toNat)) z)
       | _,_=>none
     | some mx=>match hi with
       | some hi=>match gJ g lo 0,gJ g (some hi) 0,gJ g (some mx) 0 with
         | some l,some h,some m=>some (some (cT l h n&&decide (h<=m)&&decide (m<=(n:Int))),.view b (o+l.toNat) (h.toNat-l.toNat) (some (m.toNat-l.toNat)) z)
         | _,_,_=>none
       | none=>none) else none
 | .fz t L=>bif t.size.beq z then(match mx with
     | none=>match gJ g lo 0,gJ g hi L.length with
       | some l,some h=>some (some (cT l h L.length),.fz t ((L.drop l.toNat).take (h.toNat-l.toNat)))
       | _,_=>none
     | some mx=>match hi with
       | some hi=>match gJ g lo 0,gJ g (some hi) 0,gJ g (some mx) 0 with
         | some l,some h,some m=>some (some (cT l h L.length&&decide (h<=m)&&decide (m<=(L.length:Int))),.fz t ((L.drop l.toNat).take (h.toNat-l.toNat)))
         | _,_,_=>none
       | none=>none) else none
 | _=>none
def sp:I->PS
 | .mov x=>(g x).map λs=>(none,s)
 | .pick c a b=>match g c with
   | some .tt=>(g a).map λs=>(none,s)
   | some .ff=>(g b).map λs=>(none,s)
   | some (.bool p)=>match g a,g b with
     | some (.int k x),some (.int k' y)=>bif jO k k' then some (none,.int k (bif p then x else y)) else none
     | some a,some b=>match zR a,zR b with
       | some x,some y=>some (none,.bool (bif p then x else y))
       | _,_=>none
     | _,_=>none
   | _=>none
 | .build z ps=>match vH z,Mu g ps with
   | some l,some ps=>(Jn l ps).map λl=>(none,.agg l)
   | _,_=>none
 | .nilck x=>match g x with
   | some (.ptr b o)=>some (none,.ptr b o)
   | some (.fn f a c)=>some (none,.fn f a c)
   | _=>none
 | .bin op x y=>match g x,g y with
   | some a,some b=>jc8 op td a b
   | _,_=>none
 | .eqf n agg ks x y=>match g x,g y with
   | some a,some b=>match bif agg then(match a.aggL,b.aggL with
      | some l,some m=>Dh ks l m
      | _,_=>none) else Dh ks [a] [b] with
     | some p=>some (none,.bool (bif n then !p else p))
     | none=>none
   | _,_=>none
 | .eqn n kd x y=>match kd,g x,g y with
   | 0,some (.err b),some .nili=>some (none,.bool (bif n then !b else b))
   | 0,some .nili,some .nili=>some (none,bif n then .ff else .tt)
   | 2,some (.fzn _ _),some .nils=>some (none,bif n then .tt else .ff)
   | 2,some .nils,some .nils=>some (none,bif n then .ff else .tt)
   | 3,some (.fn _ _ _),some .nilf=>some (none,bif n then .tt else .ff)
   | _,_,_=>none
 | .neg x=>match g x with
   | some (.int k n)=>some (zP k (-n))
   | _=>none
 | .not x=>match g x with
   | some .tt=>some (none,.ff)
   | some .ff=>some (none,.tt)
   | some (.bool p)=>some (none,.bool !p)
   | _=>none
 | .cvi k x=>match g x with
   | some (.int _ n)=>some (zP k n)
   | _=>none
 | .cvs x=>match g x with
   | some (.str s)=>some (none,.str s)
   | some (.int _ n)=>some (some (aI n 128),.str [n.toNat])
   | _=>none
 | .mkfn (.func f) a c=>match Bx g a,Bx g c with
   | some a,some c=>some (none,.fn f a c)
   | _,_=>none
 | .fad off x=>match g x with
   | some (.ptr b o)=>some (none,.ptr b (o+off))
   | some (.eptr b i z f)=>some (none,.eptr b i z (f+off))
   | some (.aptr b o n z i f)=>some (none,.aptr b o n z i (f+off))
   | some (.aptr2 b o n z i f m y j g)=>some (none,.aptr2 b o n z i f m y j (g+off))
   | some (.fptr t x f)=>some (none,.fptr t x (f+off))
   | some (.nptr b t x f)=>some (none,.nptr b t x (f+off))
   | _=>none
 | .fld agg size off x=>match g x with
   | some (.agg l)=>bif(off+size).ble l.length then(mkS agg ((l.drop off).take size)).map λs=>(none,s) else none
   | _=>none
 | .iadA n z x i=>match cst? i with
   | some j=>bif n.ble j then none else match g x with
     | some (.ptr b o)=>some (none,.ptr b (o+j*z))
     | some (.eptr b i z' f)=>some (none,.eptr b i z' (f+j*z))
     | some (.fptr t x f)=>some (none,.fptr t x (f+j*z))
     | some (.aptr b o n z' i f)=>some (none,.aptr b o n z' i (f+j*z))
     | _=>none
   | none=>match g x,g i with
     | some (.ptr b o),some (.int _ m)=>some (some (aI m n),Yg (lm b) b o n z m.toNat)
     | some (.aptr b o k y j f),some (.int _ m)=>some (some (aI m n),.aptr2 b o k y j f n z m.toNat 0)
     | _,_=>none
 | .iadS z x i=>match g x,g i with
   | some (.own b),some (.int _ m)=>match lm b with
     | some (.arr t L cap)=>bif t.size.beq z then some (some (aI m L.length),.eptr b m.toNat z 0) else none
     | _=>none
   | some (.view b o n cap z'),some (.int _ m)=>bif z'.beq z then some (some (aI m n),.eptr b (o+m.toNat) z 0) else none
   | some (.aview b n o k z'),some (.int _ m)=>bif z'.beq z then some (some (aI m k),.aptr b 0 n z (o+m.toNat) 0) else none
   | some (.fz t L),some (.int _ m)=>bif t.size.beq z then some (some (aI m L.length),.fptr t (L.getD m.toNat t.df) 0) else none
   | some (.fzx t L),some (.int _ m)=>bif t.size.beq z then some (some (aI m L.length),.fptr t (L.getD m.toNat t.df) 0) else none
   | _,_=>none
 | .idxA agg n z x i=>match cst? i with
   | some j=>match g x with
     | some (.agg l)=>bif n.ble j|| !((j*z+z).ble l.length) then none else(mkS agg ((l.drop (j*z)).take z)).map λs=>(none,s)
     | _=>none
   | none=>match g x,g i with
     | some (.agg (.int k y::l)),some (.int _ m)=>bif z.beq 1&& !agg&&n.beq (l.length+1) then(match Ed k (.int k y::l) with
       | some r=>some (some (aI m n),.int k (r.getD m.toNat 0))
       | none=>none) else none
     | some (.ag n' t L),some (.int _ m)=>bif t.size.beq z&&t.ok&&n.beq n'&&(t.agg==agg) then some (some (aI m n),qS t (L.getD m.toNat t.df)) else none
     | _,_=>none
 | .idxS x i=>match g x,g i with
   | some (.str s),some (.int _ m)=>some (some (aI m s.length),.int .u8 ((s.getD m.toNat 0:Nat):Int))
   | _,_=>none
 | .slS z x lo hi mx=>match g x with
   | some s=>ssl g lm z s lo hi mx
   | none=>none
 | .slT x lo hi=>match g x,gJ g lo 0 with
   | some (.str s),some l=>match gJ g hi s.length with
     | some h=>some (some (cT l h s.length),.str ((s.drop l.toNat).take (h.toNat-l.toNat)))
     | none=>none
   | _,_=>none
 | .ext n x=>match g x with
   | some (.tup l)=>match l[n]? with
     | some s=>some (none,s)
     | none=>none
   | _=>none
 | .len x=>match g x with
   | some (.own b)=>match lm b with
     | some (.arr t L cap)=>some (none,.int .i64 (L.length:Nat))
     | _=>none
   | some (.view b o n cap z)=>some (none,.int .i64 (n:Nat))
   | some (.aview b n o m z)=>some (none,.int .i64 (m:Nat))
   | some (.fz t L)=>some (none,.int .i64 (L.length:Nat))
   | some (.fzx t L)=>some (none,.int .i64 (L.length:Nat))
   | some .nils=>some (none,.int .i64 0)
   | some (.emp _)=>some (none,.int .i64 0)
   | _=>none
 | .lenS x=>match g x with
   | some (.str s)=>some (none,.int .i64 (s.length:Nat))
   | _=>none
 | .lenc n=>some (none,.int .i64 (n:Nat))
 | .cap x=>match g x with
   | some (.own b)=>match lm b with
     | some (.arr t L cap)=>some (some (cap.isSome),.int .i64 (cap.getD 0:Nat))
     | _=>none
   | some (.view b o n cap z)=>some (some (cap.isSome),.int .i64 (cap.getD 0:Nat))
   | some (.fzx t L)=>some (none,.int .i64 (L.length:Nat))
   | some .nils=>some (none,.int .i64 0)
   | _=>none
 | .mins x [y]=>match g x,g y with
   | some (.int k a),some (.int k' b)=>bif jO k k' then some (none,.int k (min a b)) else none
   | _,_=>none
 | .maxs x [y]=>match g x,g y with
   | some (.int k a),some (.int k' b)=>bif jO k k' then some (none,.int k (max a b)) else none
   | _,_=>none
 | _=>none
end
variable {ν:Nm} {F:aQ}
def kk (d:IntKind):jO d d=true:=pH.2 rfl
def j7a {op:BinOp} {td:Bool} {a b s:SV} {c:Option Bool} (h:jc8 op td a b=some (c,s)) (hc:dT c=true) {u v:AV} (hu:aJ ν F a u) (hv:aJ ν F b v):∃r,lU op u v=some r/\aJ ν F s r:=by
 unfold jc8 at h;split at h<;>try (cases h;done)
 ·rename_i k x k' y;simp only[aJ] at hu hv;subst hu;subst hv;split at h
  ·simp only[aG,aM] at h;obtain⟨rfl,rfl⟩:=h;simp only[dT,aH] at hc;refine⟨_,?_,rfl⟩;simp only[lU,sD,hc,bA,aB,pY]
  ·simp only[aG,aM] at h;obtain⟨rfl,rfl⟩:=h;simp only[dT,aH] at hc;refine⟨_,?_,rfl⟩;simp only[lU,sD,hc,bA,aB]
  ·obtain⟨hk,h2⟩:=aR h;clear h;revert h2;intro h
   rw[pH] at hk;subst hk;cases op<;>try (first | (cases h;done) | (exact absurd rfl (by assumption)))
   case add=>exact⟨_,Cz (by simp only[zL,kk,aB]),Io (kF h) hc⟩
   case sub=>exact⟨_,Cz (by simp only[zL,kk,aB]),Io (kF h) hc⟩
   case mul=>exact⟨_,Cz (by simp only[zL,kk,aB]),Io (kF h) hc⟩
   case quo=>
    cases td with
    | true=>
      simp only[aB,aG,aM] at h;obtain⟨rfl,rfl⟩:=h;simp only[dT,aH] at hc;have e1:nD y 0=false:=by rw[xF];simp[hc]
      exact⟨_,by simp only[lU,kk,aB,e1,aF,pY],rfl⟩
    | false=>
      simp only[aF,aG,aM] at h;obtain⟨rfl,rfl⟩:=h;simp only[dT,aN,aH] at hc;obtain⟨⟨h0,h1⟩,h2⟩:=hc;have e1:nD y 0=false:=by rw[xF];simp;omega
      exact⟨_,by simp only[lU,kk,aB,e1,aF,pY,Int.tdiv_eq_ediv_of_nonneg h0,h2],rfl⟩
   case rem=>
    cases td with
    | true=>
      simp only[aB,aG,aM] at h;obtain⟨rfl,rfl⟩:=h;simp only[dT,aH] at hc;have e1:nD y 0=false:=by rw[xF];simp[hc]
      exact⟨_,by simp only[lU,kk,aB,e1,aF],rfl⟩
    | false=>
      simp only[aF,aG,aM] at h;obtain⟨rfl,rfl⟩:=h;simp only[dT,aN,aH] at hc;obtain⟨h0,h1⟩:=hc;have e1:nD y 0=false:=by rw[xF];simp;omega
      exact⟨_,by simp only[lU,kk,aB,e1,aF,Td h0],rfl⟩
   case and=>
    simp only[aG,aM] at h;obtain⟨rfl,rfl⟩:=h;exact⟨_,by simp only[lU,kk,aB];rfl,rfl⟩
   all_goals
    simp only[aG,aM] at h;obtain⟨rfl,rfl⟩:=h;exact⟨_,Cz (by simp only[zL,kk,aB]),rfl⟩
 ·rename_i x y;simp only[aJ] at hu hv;subst hu;subst hv;split at h<;>try (cases h;done)
  ·simp only[aG,aM] at h;obtain⟨rfl,rfl⟩:=h;simp only[dT,aH] at hc;exact⟨_,by simp only[lU,aP,hc,bA,aB],rfl⟩
  all_goals
   simp only[aG,aM] at h;obtain⟨rfl,rfl⟩:=h;exact⟨_,Cz rfl,rfl⟩
def jif {k:Nat} {a b:SV} {p:Bool} (h:Yw k a b=some p) {u v:AV} (hu:aJ ν F a u) (hv:aJ ν F b v):Py k u v=some p:=by
 unfold Yw at h;split at h<;>try (cases h;done)
 ·simp only[aJ] at hu hv;subst hu;subst hv;exact h
 ·split at h<;>try (cases h;done)
  rename_i x y hx hy;have e1:=Ip hx hu;have e2:=Ip hy hv;subst e1;subst e2;exact h
 ·simp only[aJ] at hu hv;subst hu;subst hv;exact h
def jve {s:Option SB} {b o n z j:Nat} (hj:j<n):aJ ν F (Yg s b o n z j) (.ptr (ν b).1 (o+j*z)):=by
 have d:aJ ν F (.aptr b o n z j 0) (.ptr (ν b).1 (o+j*z)):=⟨by rw[iV],hj⟩
 unfold Yg;split
 ·rename_i t k L;cases hb:(!(t.size.beq z)&&(o / t.size).blt k&&(o / t.size*t.size).beq o) with
  | false=>exact d
  | true=>
    simp only[aN,fB,aL,aH,eH] at hb;obtain⟨⟨_,h1⟩,h2⟩:=hb;refine⟨?_,by simp[Nat.blt] at h1;omega,hj⟩;show AV.ptr _ _=AV.ptr _ _
    congr 1
    omega
 ·exact d
def jgt {s:SV} {l:List SV} {v:AV} (h:s.aggL=some l) (hv:aJ ν F s v):∃m,v=.agg m/\bC ν F l m:=by
 unfold SV.aggL at h;split at h<;>try (cases h;done)
 ·cases h;exact hv
 ·rename_i n t L;cases hk:(Ty.arr n t).ok<;>rw[hk] at h<;>cases h
  obtain⟨m,e,hm⟩:=hv;exact⟨m,e,uR _ hk _ _ hm⟩
def Yx:∀ {ks:List Nat} {l m:List SV} {p:Bool},Dh ks l m=some p->∀ {u v:List AV},bC ν F l u->bC ν F m v->sA ks u v=some p
 | [],l,m,p,h,u,v,hu,hv=>by
   unfold Dh at h;split at h
   ·simp only[bC] at hu hv;subst hu;subst hv;exact h
   ·cases h
 | k::ks,l,m,p,h,u,v,hu,hv=>by
   unfold Dh at h;split at h<;>try (cases h;done)
   rename_i a l b m;obtain⟨x,u',rfl,h1,h2⟩:=hu;obtain⟨y,v',rfl,h3,h4⟩:=hv;split at h<;>try (cases h;done)
   rename_i p1 g1;cases ks with
   | nil=>
     simp only at h;split at h<;>try (cases h;done)
     cases h;simp only[bC] at h2 h4;subst h2;subst h4;simp only[sA,jif g1 h1 h3,nM]
   | cons k' ks=>
     simp only at h;split at h<;>try (cases h;done)
     rename_i q g2;cases h;have ih:=Yx g2 h2 h4;rw[sA,jif g1 h1 h3,ih]
def Kn {agg:Bool} {l:List SV} {s:SV} (h:mkS agg l=some s) {m:List AV} (hm:bC ν F l m):∃v,nG agg m=some v/\aJ ν F s v:=by
 unfold mkS at h;cases agg with
 | true=>cases h;exact⟨.agg m,rfl,m,rfl,hm⟩
 | false=>
   simp only[aF] at h;split at h<;>cases h
   obtain⟨v,_,rfl,h1,rfl⟩:=hm;exact⟨v,rfl,h1⟩
def jce (hν:∀b,ν (gB+b)=(b,.nils)) {a:AV} {s:SV} (h:Kp a=some s):aJ ν F s a:=by
 unfold Kp at h;split at h<;>cases h<;>simp only[aJ,hν]
 exact⟨[],[],rfl,rfl,rfl⟩
def Fd (hν:∀b,ν (gB+b)=(b,.nils)):∀ {l:List AV} {r:List SV},vH l=some r->bC ν F r l
 | [],r,h=>by cases h;rfl
 | a::l,r,h=>by
   simp only[vH] at h;split at h<;>cases h
   rename_i s r h1 h2;exact⟨a,l,rfl,jce hν h1,Fd hν h2⟩
def jab:∀ {ps:List (Nat×Nat×SV)} {l r:List SV},Jn l ps=some r->∀ {m:List AV} {qs:List (Nat×Nat×AV)},bC ν F l m->
  (∀(i:Nat) (x:Nat×Nat×SV),ps[i]?=some x->∃v,qs[i]?=some (x.1,x.2.1,v)/\aJ ν F x.2.2 v)->ps.length=qs.length->∃m',wR m qs=some m'/\bC ν F r m'
 | [],l,r,h,m,qs,hm,_,hl=>by
   cases h;cases qs with
   | nil=>exact⟨m,rfl,hm⟩
   | cons q qs=>simp at hl
 | (off,size,s)::ps,l,r,h,m,qs,hm,hq,hl=>by
   simp only[Jn] at h;obtain⟨hb,h⟩:=aR h;simp only[aN,aL,aP,aH] at hb;obtain⟨⟨b1,b2⟩,b3⟩:=hb;cases qs with
   | nil=>simp at hl
   | cons q qs=>
     obtain⟨v,e,hv⟩:=hq 0 _ rfl;simp only[pR,aG] at e;subst e;have hcs:=Xs b3 hv;have hlen:=jL hcs;have hml:=jL hm;have e2:((gD v).length.beq size&&(off+size).ble m.length)=true:=by
      rw[aL,aP];simp;omega
     simp only[wR,e2,aB];refine jab h ?_ (λi x hx=>hq (i+1) x hx) (by simpa using hl);have:=Xw (o:=off) hm hcs;rw[dQ,<-hlen,b1] at this;exact this
def Re {k:IntKind}:∀ {l:List SV} {r:List Int},Ed k l=some r->∀ {m:List AV},bC ν F l m->m=r.map (AV.int k)
 | [],r,h,m,hm=>by cases h;exact hm
 | s::l,r,h,m,hm=>by
   unfold Ed at h;split at h
   ·rename_i e;cases e
   ·rename_i k' n l' e;cases e;obtain⟨hk,h⟩:=aR h;rw[pH] at hk;subst hk;split at h<;>cases h
    rename_i r hr;obtain⟨v,m',rfl,h1,h2⟩:=hm;simp only[aJ] at h1;rw[h1,Re hr h2];rfl
   ·cases h
section
variable {g:Opd->Option SV} {g':Opd->AV} {lm:Nat->Option SB} (hg:∀x s,g x=some s->aJ ν F s (g' x))
include hg
def Mr:∀ {l:List Opd} {r:List SV},Bx g l=some r->bC ν F r (l.map g')
 | [],r,h=>by cases h;rfl
 | x::l,r,h=>by
   simp only[Bx] at h;split at h<;>cases h
   rename_i s r h1 h2;exact⟨_,_,rfl,hg _ _ h1,Mr h2⟩
def jdm:∀ {l:List (Nat×Nat×Opd)} {r:List (Nat×Nat×SV)},Mu g l=some r->r.length=l.length/\∀(i:Nat) (x:Nat×Nat×SV),r[i]?=some x->∃v,(l.map fun(o,s,x)=>(o,s,g' x))[i]?=some (x.1,x.2.1,v)/\aJ ν F x.2.2 v
 | [],r,h=>by cases h;exact⟨rfl,λi x hx=>by simp at hx⟩
 | (o,z,y)::l,r,h=>by
   simp only[Mu] at h;split at h<;>cases h
   rename_i s r h1 h2;obtain⟨k1,k2⟩:=jdm h2;refine⟨by simp[k1],λi x hx=>?_⟩;cases i with
   | zero=>simp at hx;subst hx;exact⟨_,rfl,hg _ _ h1⟩
   | succ i=>simp only[vO] at hx;exact k2 i x hx
def Gn {x:Opd} {d n:Int} (h:gJ g (some x) d=some n):∃k,g' x=.int k n:=by
 simp only[gJ] at h;split at h<;>cases h
 rename_i hx;exact⟨_,hg _ _ hx⟩
def rY {len cap:Nat} {lo hi:Option Opd} {l h:Int} (hlo:gJ g lo 0=some l) (hhi:gJ g hi len=some h) (h0:0<=l) (h1:l<=h) (h2:h<=cap):
  mZ len cap (lo.map g') (hi.map g') none=some (l.toNat,h.toNat,cap):=by
 have k2:∀k,qG cap (.int k h)=some h.toNat:=λk=>by
  rw[Iq (show 0<=h by omega)];simp only[qG,aP];rw[cK (by simp;omega)];rfl
 have k1:∀k,qG h.toNat (.int k l)=some l.toNat:=λk=>by
  rw[Iq h0];simp only[qG,aP];rw[cK (by simp;omega)];rfl
 cases hi with
 | none=>
   simp only[gJ,aG] at hhi;subst hhi;cases lo with
   | none=>
     simp only[gJ,aG] at hlo;subst hlo;rfl
   | some y=>
     obtain⟨k,hk⟩:=Gn hg hlo;have k1':qG len (.int k l)=some l.toNat:=k1 k;unfold mZ;simp only[eX,kE,hk,k1'];rfl
 | some x=>
   obtain⟨k,hk⟩:=Gn hg hhi;cases lo with
   | none=>
     simp only[gJ,aG] at hlo;subst hlo;unfold mZ;simp only[eX,kE,hk,k2];rfl
   | some y=>
     obtain⟨k',hk'⟩:=Gn hg hlo;unfold mZ;simp only[eX,hk,hk',k1,k2]
def uQ {len cap:Nat} {lo:Option Opd} {hi mx:Opd} {l h m:Int} (hlo:gJ g lo 0=some l) (hhi:gJ g (some hi) 0=some h) (hmx:gJ g (some mx) 0=some m) (h0:0<=l) (h1:l<=h) (h2:h<=m) (h3:m<=cap):
  mZ len cap (lo.map g') (some (g' hi)) (some (g' mx))=some (l.toNat,h.toNat,m.toNat):=by
 have key:∀(n:Nat) (y:Int) (k:IntKind),0<=y->y<=n->qG n (.int k y)=some y.toNat:=λn y k a b=>by
  rw[Iq a];simp only[qG,aP];rw[cK (by simp;omega)];rfl
 obtain⟨k,hk⟩:=Gn hg hhi;obtain⟨k',hk'⟩:=Gn hg hmx;cases lo with
 | none=>
   simp only[gJ,aG] at hlo;subst hlo;unfold mZ;simp only[kE,hk,hk',key cap m k' (by omega) h3,key m.toNat h k (by omega) (by omega)];rfl
 | some y=>
   obtain⟨k'',hk''⟩:=Gn hg hlo;unfold mZ;simp only[eX,hk,hk',hk'',key cap m k' (by omega) h3,key m.toNat h k (by omega) (by omega),key h.toNat l k'' h0 (by omega)]
end
end X
end Go.Vm
namespace Go.Vm
namespace X
open W
variable {ν:Nm} {F:aQ} {g:Opd->Option SV} {g':Opd->AV} {lm:Nat->Option SB}
def Xd (ν:Nm) (lm:Nat->Option SB):Prop:=∀b t L cap,lm b=some (.arr t L cap)->t.size≠0/\∃sz,rQ (ν b) t.size (List.length (α:=t.den) L) cap sz
def map_some {α β:Type} {f:α->β} {x:Option α} {y:β} (h:x.map f=some y):∃a,x=some a/\y=f a:=by
 cases x with
 | none=>cases h
 | some a=>exact⟨a,rfl,(kF h).symm⟩
def jin {i:Opd} {j:Nat} (h:cst? i=some j):∃k,i=.c (.int k (.ofNat j)):=by
 unfold cst? at h;split at h<;>cases h
 exact⟨_,rfl⟩
def jdl {z l h n:Nat} {c:Option Nat} (hl:l<=h) (hh:h<=n) (hc:∀m,c=some m->n<=m):∀m,c.map (·- l)=some m->h-l<=m:=by
 intro m hm;obtain⟨a,rfl,rfl⟩:=map_some hm;have:=hc a rfl;omega
section
variable (hg:∀x s,g x=some s->aJ ν F s (g' x)) (hl:Xd ν lm)
include hg hl
def j7w {z:Nat} {x:SV} {v:AV} (hv:aJ ν F x v) {lo hi mx:Option Opd} {c:Option Bool} {s:SV} (h:ssl g lm z x lo hi mx=some (c,s)) (hc:dT c=true):
  ∃r,iJ z v (lo.map g') (hi.map g') (mx.map g')=some r/\aJ ν F s r:=by
 unfold ssl at h;split at h
 ·rename_i b;split at h<;>try (cases h;done)
  rename_i t L cap hb;obtain⟨hz,h2⟩:=aR h;clear h;revert h2;intro h
  rw[aL,aH] at hz;subst hz;obtain⟨h0,sz,hd⟩:=hl _ _ _ _ hb;obtain⟨rfl,hsl⟩:=hv;cases mx with
  | none=>
   simp only at h;cases hn:lo.isNone&&hi.isNone with
   | true=>
    rw[hn] at h;simp only[aN,qe4] at hn;obtain⟨rfl,rfl⟩:=hn;cases h;rcases hd with⟨e,_,e2,_⟩ | ⟨c',n,e,_,h1,h3,h4⟩
    ·refine⟨_,?_,rfl,hsl⟩;rw[e];rfl
    ·refine⟨_,?_,rfl,hsl⟩;rw[e];cases c' with
     | none=>
       simp only[iJ,dP,aB,kE];show some (AV.sl _ (0+0*t.size) (L.length-0) none t.size)=_;rw[sR];rfl
     | some c'=>
       simp only[iJ,dP,aB,kE];show some (AV.sl _ (0+0*t.size) (L.length-0) (some (c'-0)) t.size)=_;rw[sR];rfl
   | false=>
    rw[hn] at h;simp only[aF] at h;split at h<;>try (cases h;done)
    rename_i l k hlo hhi;simp only[aG,aM] at h;obtain⟨rfl,rfl⟩:=h;obtain⟨b0,b1,b2⟩:=fH.1 hc;rcases hd with⟨e,_,e2,e3⟩ | ⟨c',n,e,_,h1,h3,h4⟩
    ·have:=rY hg (cap:=0) (len:=0) hlo (by rw[e2] at hhi;exact hhi) b0 b1 (by omega);refine⟨.nils,?_,.inl ⟨rfl,by omega,?_,e⟩⟩
     ·rw[e];simp only[iJ,kE,this]
     ·rcases e3 with rfl | rfl
      ·exact .inl rfl
      ·exact .inr (by simp)
    ·have hcc:∀m,c'=some m->L.length<=m:=λm hm=>(h3 m hm).2
     have hcap:∀m,cap.map (·- l.toNat)=some m->c'.map (·- l.toNat)=some m:=λm hm=>by
      obtain⟨a,rfl,rfl⟩:=map_some hm;rw[h4 a rfl];rfl
     refine⟨.sl (ν b).1 (0+l.toNat*t.size) (k.toNat-l.toNat) (c'.map (·- l.toNat)) t.size,?_,.inr ⟨_,by rw[iC],hcap,jdl (z:=t.size) (n:=L.length) (by omega) (by omega) hcc,⟨_,_,e,by omega,λm hm=>by
      obtain⟨a,ha,rfl⟩:=map_some hm;have:=hcc a ha;exact .inr ⟨a,ha,by omega⟩⟩⟩⟩
     rw[e];cases c' with
     | none=>
       have:=rY hg (cap:=L.length) hlo hhi b0 b1 (by omega);simp only[iJ,dP,aB,kE,this]
     | some c'=>
       have:=rY hg (cap:=c') hlo hhi b0 b1 (by have:=hcc c' rfl;omega);simp only[iJ,dP,aB,kE,this,eX]
  | some mx=>
   cases hi with
   | none=>cases h
   | some hi=>
    simp only at h;split at h<;>try (cases h;done)
    rename_i l k m hlo hhi hmx;simp only[aG,aM] at h;obtain⟨rfl,rfl⟩:=h;simp only[dT,aN,aH] at hc;obtain⟨⟨hc,c1⟩,c2⟩:=hc;obtain⟨b0,b1,b2⟩:=fH.1 hc;rcases hd with⟨e,_,e2,e3⟩ | ⟨c',n,e,_,h1,h3,h4⟩
    ·have:=uQ hg (cap:=0) (len:=0) hlo hhi hmx b0 b1 c1 (by omega);refine⟨.nils,?_,.inl ⟨rfl,by omega,.inr (by simp;omega),e⟩⟩;rw[e];simp only[iJ,eX,this]
    ·have hcc:∀m,c'=some m->L.length<=m:=λm hm=>(h3 m hm).2
     refine⟨.sl (ν b).1 (0+l.toNat*t.size) (k.toNat-l.toNat) (some (m.toNat-l.toNat)) t.size,?_,.inr ⟨_,by rw[iC],λ_ h=>h,λy hy=>by cases hy;omega,⟨_,_,e,by omega,λy hy=>by cases hy;exact .inl (by omega)⟩⟩⟩;rw[e];cases c' with
     | none=>
       have:=uQ hg (len:=L.length) (cap:=L.length) hlo hhi hmx b0 b1 c1 c2;simp only[iJ,dP,aB,eX,this]
     | some c'=>
       have:=uQ hg (len:=L.length) (cap:=c') hlo hhi hmx b0 b1 c1 (by have:=hcc c' rfl;omega);simp only[iJ,dP,aB,eX,this]
 ·rename_i b o n cap z';obtain⟨hz,h2⟩:=aR h;clear h;revert h2;intro h
  rw[aL,aH] at hz;subst hz;cases mx with
  | none=>
   simp only at h;split at h<;>try (cases h;done)
   rename_i l k hlo hhi;simp only[aG,aM] at h;obtain⟨rfl,rfl⟩:=h;obtain⟨b0,b1,b2⟩:=fH.1 hc;rcases hv with⟨rfl,rfl,e3,e⟩ | ⟨c',rfl,h1,h2,len,cp,e,h5,h6⟩
   ·have:=rY hg (cap:=0) (len:=0) hlo hhi b0 b1 b2;refine⟨.nils,by simp only[iJ,kE,this],.inl ⟨rfl,by omega,?_,e⟩⟩;rcases e3 with rfl | rfl
    ·exact .inl rfl
    ·exact .inr (by simp)
   ·have hcap:∀m,cap.map (·- l.toNat)=some m->c'.map (·- l.toNat)=some m:=λm hm=>by
     obtain⟨a,rfl,rfl⟩:=map_some hm;rw[h1 a rfl];rfl
    refine⟨.sl (ν b).1 (o*z'+l.toNat*z') (k.toNat-l.toNat) (c'.map (·- l.toNat)) z',?_,.inr ⟨_,by rw[fU],hcap,jdl (z:=z') (n:=n) (by omega) (by omega) h2,⟨_,_,e,by omega,λm hm=>by
     obtain⟨a,ha,rfl⟩:=map_some hm;have hna:=h2 a ha;rcases h6 a ha with h7 | ⟨q,hq,h7⟩
     ·exact .inl (by omega)
     ·exact .inr ⟨q,hq,by omega⟩⟩⟩⟩
    cases c' with
    | none=>
      have:=rY hg (cap:=n) hlo hhi b0 b1 (by omega);simp only[iJ,dP,aB,kE,this]
    | some c'=>
      have:=rY hg (cap:=c') hlo hhi b0 b1 (by have:=h2 c' rfl;omega);simp only[iJ,dP,aB,kE,this,eX]
  | some mx=>
   cases hi with
   | none=>cases h
   | some hi=>
    simp only at h;split at h<;>try (cases h;done)
    rename_i l k m hlo hhi hmx;simp only[aG,aM] at h;obtain⟨rfl,rfl⟩:=h;simp only[dT,aN,aH] at hc;obtain⟨⟨hc,c1⟩,c2⟩:=hc;obtain⟨b0,b1,b2⟩:=fH.1 hc;rcases hv with⟨rfl,rfl,e3,e⟩ | ⟨c',rfl,h1,h2,len,cp,e,h5,h6⟩
    ·have:=uQ hg (cap:=0) (len:=0) hlo hhi hmx b0 b1 c1 (by omega);exact⟨.nils,by simp only[iJ,eX,this],.inl ⟨rfl,by omega,.inr (by simp;omega),e⟩⟩
    ·refine⟨.sl (ν b).1 (o*z'+l.toNat*z') (k.toNat-l.toNat) (some (m.toNat-l.toNat)) z',?_,.inr ⟨_,by rw[fU],λ_ h=>h,λy hy=>by cases hy;omega,⟨_,_,e,by omega,λy hy=>by cases hy;exact .inl (by omega)⟩⟩⟩;cases c' with
     | none=>
       have:=uQ hg (len:=n) (cap:=n) hlo hhi hmx b0 b1 c1 c2;simp only[iJ,dP,aB,eX,this]
     | some c'=>
       have:=uQ hg (len:=n) (cap:=c') hlo hhi hmx b0 b1 c1 (by have:=h2 c' rfl;omega);simp only[iJ,dP,aB,eX,this]
 ·rename_i t L;obtain⟨hz,h2⟩:=aR h;clear h;revert h2;intro h
  rw[aL,aH] at hz;subst hz;obtain⟨h0,hv⟩:=hv
  have part:∀ {l k:Int} {b o:Nat} {cap cap':Option Nat} {m:List AV},0<=l->l<=k->k<=L.length->(b,HB.cells m)∈F->(∀c,cap'=some c->k.toNat-l.toNat<=c)->o+L.length*t.size<=m.length->bO (aX F t) L ((m.drop o).take (L.length*t.size))->
    aJ ν F (.fz t ((L.drop l.toNat).take (k.toNat-l.toNat))) (.sl b (o+l.toNat*t.size) (k.toNat-l.toNat) cap' t.size):=by
   intro l k b o cap cap' m b0 b1 b2 hF hcap hle hr;have hlen:((L.drop l.toNat).take (k.toNat-l.toNat)).length=k.toNat-l.toNat:=by simp;omega
   refine⟨h0,.inr ⟨b,o+l.toNat*t.size,cap',m,by rw[hlen],hF,by rw[hlen];exact hcap,?_,?_⟩⟩
   ·rw[hlen];have:l.toNat*t.size+ (k.toNat-l.toNat)*t.size<=L.length*t.size:=by rw[<-fU];exact iB _ (by omega)
    omega
   ·rw[hlen];have h1:=uM (cV t) (k.toNat-l.toNat) (Ic (cV t) l.toNat hr);have e:List.take ((k.toNat-l.toNat)*t.size) (List.drop (l.toNat*t.size) (List.take (L.length*t.size) (List.drop o m)))=List.take ((k.toNat-l.toNat)*t.size) (List.drop (o+l.toNat*t.size) m):=by
     rw[yO,sU,rF,oL];have:(k.toNat-l.toNat)*t.size+l.toNat*t.size<=L.length*t.size:=by rw[<-fU];exact iB _ (by omega)
     omega
    rw[e] at h1;exact h1
  have nilp:∀ {l k:Int},0<=l->l<=k->k<=L.length->L=[]->aJ ν F (.fz t ((L.drop l.toNat).take (k.toNat-l.toNat))) .nils:=by
   intro l k _ _ _ e;refine⟨h0,.inl ⟨?_,rfl⟩⟩;rw[e];simp
  cases mx with
  | none=>
    simp only at h;split at h<;>try (cases h;done)
    rename_i l k hlo hhi;simp only[aG,aM] at h;obtain⟨rfl,rfl⟩:=h;obtain⟨b0,b1,b2⟩:=fH.1 hc;rcases hv with⟨e,rfl⟩ | ⟨b,o,cap,m,rfl,hF,hcap,hle,hr⟩
    ·have:=rY hg (cap:=0) (len:=0) hlo (by rw[e] at hhi;exact hhi) b0 b1 (by rw[e] at b2;exact b2);exact⟨.nils,by simp only[iJ,kE,this],nilp b0 b1 b2 e⟩
    ·refine⟨_,?_,part (cap:=cap) (cap':=cap.map (·- l.toNat)) b0 b1 b2 hF (jdl (z:=t.size) (n:=L.length) (by omega) (by omega) hcap) hle hr⟩;cases cap with
     | none=>
       have:=rY hg (cap:=L.length) hlo hhi b0 b1 (by omega);simp only[iJ,dP,aB,kE,this]
     | some c'=>
       have:=rY hg (cap:=c') hlo hhi b0 b1 (by have:=hcap c' rfl;omega);simp only[iJ,dP,aB,kE,this,eX]
  | some mx=>
   cases hi with
   | none=>cases h
   | some hi=>
    simp only at h;split at h<;>try (cases h;done)
    rename_i l k m hlo hhi hmx;simp only[aG,aM] at h;obtain⟨rfl,rfl⟩:=h;simp only[dT,aN,aH] at hc;obtain⟨⟨hc,c1⟩,c2⟩:=hc;obtain⟨b0,b1,b2⟩:=fH.1 hc;rcases hv with⟨e,rfl⟩ | ⟨b,o,cap,m',rfl,hF,hcap,hle,hr⟩
    ·have:=uQ hg (cap:=0) (len:=0) hlo hhi hmx b0 b1 c1 (by rw[e] at c2;exact c2);exact⟨.nils,by simp only[iJ,eX,this],nilp b0 b1 b2 e⟩
    ·refine⟨_,?_,part (cap:=cap) (cap':=some (m.toNat-l.toNat)) b0 b1 b2 hF (λy hy=>by cases hy;omega) hle hr⟩;cases cap with
     | none=>
       have:=uQ hg (len:=L.length) (cap:=L.length) hlo hhi hmx b0 b1 c1 c2;simp only[iJ,dP,aB,eX,this]
     | some c'=>
       have:=uQ hg (len:=L.length) (cap:=c') hlo hhi hmx b0 b1 c1 (by have:=hcap c' rfl;omega);simp only[iJ,dP,aB,eX,this]
 ·cases h
end
end X
end Go.Vm
namespace Go.Vm
namespace X
open W
variable {ν:Nm} {F:aQ} {g:Opd->Option SV} {g':Opd->AV} {lm:Nat->Option SB}
def sF {m:Int} {n:Nat} (h:aI m n=true):∃j:Nat,m=.ofNat j/\j<n/\m.toNat=j/\n.ble j=false:=by
 obtain⟨h0,h1⟩:=jkq.1 h;cases m with
 | ofNat j=>exact⟨j,rfl,by simpa using h1,rfl,by rw[aP];simp;simpa using h1⟩
 | negSucc j=>omega
def jpy {z:Nat} {α:Type} {P:List α->List AV->Prop} {L:List α} {v:AV} (h:jU F z P L v) {i:Nat} (hi:i<L.length):∃b o cap l,v=.sl b o L.length cap z/\(b,HB.cells l)∈F/\o+L.length*z<=l.length/\P L ((l.drop o).take (L.length*z)):=by
 rcases h with⟨rfl,_⟩ | ⟨b,o,cap,l,h1,h2,h3,h4,h5⟩
 ·simp at hi
 ·exact⟨b,o,cap,l,h1,h2,h4,h5⟩
def j7q (hg:∀x s,g x=some s->aJ ν F s (g' x)) (hl:Xd ν lm) (hν:∀b,ν (gB+b)=(b,.nils)) (hk:∀v,g' (.c v)=v) {td:Bool} {i:I} {c:Option Bool} {s:SV}
  (h:sp g lm td i=some (c,s)) (hc:dT c=true):∃r,bD g' i=some r/\aJ ν F s r:=by
 cases i<;>simp only[sp] at h<;>try (cases h;done)
 case mov x=>
  obtain⟨a,ha,e⟩:=map_some h;cases e;exact⟨_,rfl,hg _ _ ha⟩
 case pick cc a b=>
  split at h<;>try (cases h;done)
  ·rename_i hcc;have e:=hg _ _ hcc;simp only[aJ] at e;obtain⟨u,hu,e2⟩:=map_some h;cases e2;exact⟨_,by simp only[bD,e],hg _ _ hu⟩
  ·rename_i hcc;have e:=hg _ _ hcc;simp only[aJ] at e;obtain⟨u,hu,e2⟩:=map_some h;cases e2;exact⟨_,by simp only[bD,e],hg _ _ hu⟩
  ·rename_i p hcc;have e:=hg _ _ hcc;simp only[aJ] at e;split at h<;>try (cases h;done)
   ·rename_i k x k' y ha hb;obtain⟨hk,h2⟩:=aR h;rw[pH] at hk;subst hk;cases h2;have e1:=hg _ _ ha;have e2:=hg _ _ hb;simp only[aJ] at e1 e2;cases p with
    | true=>exact⟨g' a,by simp only[bD,e],by simp only[aB];exact e1⟩
    | false=>exact⟨g' b,by simp only[bD,e],by simp only[aF];exact e2⟩
   ·rename_i sa sb _ ha hb;split at h<;>try (cases h;done)
    rename_i x y hx hy;cases h;have e1:=Ip hx (hg _ _ ha);have e2:=Ip hy (hg _ _ hb);cases p with
    | true=>exact⟨g' a,by simp only[bD,e],by simp only[aB];exact e1⟩
    | false=>exact⟨g' b,by simp only[bD,e],by simp only[aF];exact e2⟩
 case build z ps=>
  split at h<;>try (cases h;done)
  rename_i l ps' hz hp;obtain⟨l',hf,e⟩:=map_some h;cases e;obtain⟨k1,k2⟩:=jdm hg hp;obtain⟨m',e1,e2⟩:=jab hf (Fd hν hz) k2 (by simpa using k1);refine⟨.agg m',?_,m',rfl,e2⟩;simp only[bD,e1,eX]
 case nilck x=>
  split at h<;>try (cases h;done)
  ·rename_i b o hx;cases h;have e:=hg _ _ hx;simp only[aJ] at e;exact⟨_,by simp only[bD,e],rfl⟩
  ·rename_i f a cc hx;cases h;obtain⟨a',c',e,h1,h2⟩:=hg _ _ hx;exact⟨_,by simp only[bD,e],a',c',rfl,h1,h2⟩
 case bin op x y=>
  split at h<;>try (cases h;done)
  rename_i a b ha hb;exact j7a h hc (hg _ _ ha) (hg _ _ hb)
 case eqf n agg ks x y=>
  split at h<;>try (cases h;done)
  rename_i a b ha hb;split at h<;>try (cases h;done)
  rename_i p hp;cases h;refine⟨_,yE (v:=.bool (bif n then !p else p)) ?_,rfl⟩;simp only[nJ];have h1:=hg _ _ ha;have h2:=hg _ _ hb;have key:Da agg ks (g' x) (g' y)=some p:=by
   cases agg with
   | true=>
     simp only[aB] at hp;split at hp<;>try (cases hp;done)
     rename_i l m g1 g2;obtain⟨l',e1,r1⟩:=jgt g1 h1;obtain⟨m',e2,r2⟩:=jgt g2 h2;have k:=Yx hp r1 r2;have hlen:∀ {ks:List Nat} {u v:List AV} {p:Bool},sA ks u v=some p->u.length=ks.length/\v.length=ks.length:=by
      intro ks;induction ks with
      | nil=>
        intro u v p h;cases u<;>cases v<;>simp[sA] at h ⊢
      | cons k ks ih=>
        intro u v p h;cases u<;>cases v<;>simp only[sA] at h<;>try (cases h;done)
        split at h<;>try (cases h;done)
        rename_i q1 q2;obtain⟨i1,i2⟩:=ih q2;simp[i1,i2]
     obtain⟨q1,q2⟩:=hlen k;simp only[Da,aB,e1,e2,q1,q2,dP,kH,k]
   | false=>
     simp only[aF] at hp;simp only[Da,aF];exact Yx hp ⟨_,[],rfl,h1,rfl⟩ ⟨_,[],rfl,h2,rfl⟩
  simp only[key]
 case eqn n kd x y=>
  split at h<;>try (cases h;done)
  ·rename_i b hx hy;cases h;have e1:=hg _ _ hx;have e2:=hg _ _ hy;simp only[aJ] at e1 e2;refine⟨.bool (bif n then !b else b),yE ?_,rfl⟩;rcases e1 with⟨rfl,e1⟩ | ⟨rfl,t,u,e1⟩<;>simp only[nJ,e1,e2,oY]
  ·rename_i hx hy;cases h;have e1:=hg _ _ hx;have e2:=hg _ _ hy;simp only[aJ] at e1 e2;refine⟨.bool (bif n then false else true),yE ?_,?_⟩
   ·simp only[nJ,e1,e2,oY];cases n<;>rfl
   ·cases n<;>rfl
  ·rename_i t L hx hy;cases h;obtain⟨_,b,o,cap,l,e1,_⟩:=hg _ _ hx;have e2:=hg _ _ hy;simp only[aJ] at e2;refine⟨.bool (bif n then true else false),yE ?_,?_⟩
   ·simp only[nJ,e1,e2,oY];cases n<;>rfl
   ·cases n<;>rfl
  ·rename_i hx hy;cases h;have e1:=hg _ _ hx;have e2:=hg _ _ hy;simp only[aJ] at e1 e2;refine⟨.bool (bif n then false else true),yE ?_,?_⟩
   ·simp only[nJ,e1,e2,oY];cases n<;>rfl
   ·cases n<;>rfl
  ·rename_i f a cc hx hy;cases h;obtain⟨a',c',e1,_⟩:=hg _ _ hx;have e2:=hg _ _ hy;simp only[aJ] at e2;refine⟨.bool (bif n then true else false),yE ?_,?_⟩
   ·simp only[nJ,e1,e2,oY];cases n<;>rfl
   ·cases n<;>rfl
 case neg x=>
  split at h<;>try (cases h;done)
  rename_i k n hx;have e:=hg _ _ hx;simp only[aJ] at e;exact⟨_,by simp only[bD,e,pY,Int.zero_sub],Io (kF h) hc⟩
 case not x=>
  split at h<;>try (cases h;done)
  all_goals
   rename_i hx;cases h;have e:=hg _ _ hx;simp only[aJ] at e;exact⟨_,(by simp only[bD,e]<;>rfl),rfl⟩
 case cvi k x=>
  split at h<;>try (cases h;done)
  rename_i k' n hx;have e:=hg _ _ hx;simp only[aJ] at e;exact⟨_,by simp only[bD,e,pY],Io (kF h) hc⟩
 case cvs x=>
  split at h<;>try (cases h;done)
  ·rename_i hx;cases h;have e:=hg _ _ hx;simp only[aJ] at e;exact⟨_,by simp only[bD,e],rfl⟩
  ·rename_i k n hx;cases h;have e:=hg _ _ hx;simp only[aJ] at e;obtain⟨j,rfl,h1,h2,h3⟩:=sF hc;have h4:j.ble 127=true:=by rw[aP,aH];omega
   exact⟨.str [j],by simp only[bD,e,h4,aB],by simp only[aJ,h2]⟩
 case mkfn f a cc=>
  cases f with
  | func f=>
    simp only at h;split at h<;>try (cases h;done)
    rename_i a' c' h1 h2;cases h;exact⟨_,rfl,_,_,rfl,Mr hg h1,Mr hg h2⟩
  | _=>cases h
 case fad off x=>
  split at h<;>try (cases h;done)
  ·rename_i b o hx;cases h;have e:=hg _ _ hx;simp only[aJ] at e;exact⟨_,by simp only[bD,e],rfl⟩
  ·rename_i b i z f hx;cases h;obtain⟨e,h2⟩:=hg _ _ hx;exact⟨.ptr (ν b).1 (i*z+ (f+off)),by simp only[bD,e,kG],rfl,h2⟩
  ·rename_i b o n z i f hx;cases h;obtain⟨e,h2⟩:=hg _ _ hx;exact⟨.ptr (ν b).1 (o+i*z+ (f+off)),by simp only[bD,e,kG],rfl,h2⟩
  ·rename_i b o n z i f m y j g' hx;cases h;obtain⟨e,h2⟩:=hg _ _ hx;exact⟨.ptr (ν b).1 (o+i*z+f+j*y+ (g'+off)),by simp only[bD,e,kG],rfl,h2⟩
  ·rename_i t y f hx;cases h;obtain⟨b,o,l,e,h2⟩:=hg _ _ hx;exact⟨.ptr b (o+ (f+off)),by simp only[bD,e,kG],b,o,l,rfl,h2⟩
  ·rename_i b t y f hx;cases h;obtain⟨e,h2⟩:=hg _ _ hx;exact⟨.ptr (ν b).1 (f+off),by simp only[bD,e],rfl,h2⟩
 case fld agg size off x=>
  split at h<;>try (cases h;done)
  rename_i l hx;obtain⟨hb,h2⟩:=aR h;obtain⟨s',hs,e⟩:=map_some h2;cases e;obtain⟨m,e,hm⟩:=hg _ _ hx;obtain⟨v,k1,k2⟩:=Kn hs (oX size (nY off hm));refine⟨v,?_,k2⟩;rw[jL hm] at hb;simp only[bD,e,hb,aB,k1]
 case iadA n z x i=>
  split at h
  ·rename_i j hj;obtain⟨k,rfl⟩:=jin hj;obtain⟨hb,h2⟩:=tU h;split at h2<;>try (cases h2;done)
   ·rename_i b o hx;cases h2;have e:=hg _ _ hx;simp only[aJ] at e;exact⟨_,by simp only[bD,e,hk,hb,aF],rfl⟩
   ·rename_i b i z' f hx;cases h2;obtain⟨e,h3⟩:=hg _ _ hx;exact⟨.ptr (ν b).1 (i*z'+ (f+j*z)),by simp only[bD,e,hk,hb,aF,kG],rfl,h3⟩
   ·rename_i t y f hx;cases h2;obtain⟨b,o,l,e,h3⟩:=hg _ _ hx;exact⟨.ptr b (o+ (f+j*z)),by simp only[bD,e,hk,hb,aF,kG],b,o,l,rfl,h3⟩
   ·rename_i b o n' z' i f hx;cases h2;obtain⟨e,h3⟩:=hg _ _ hx;exact⟨.ptr (ν b).1 (o+i*z'+ (f+j*z)),by simp only[bD,e,hk,hb,aF,kG],rfl,h3⟩
  ·split at h<;>try (cases h;done)
   ·rename_i b o k m hx hi;cases h;obtain⟨j,rfl,h1,h2,h3⟩:=sF hc;have e1:=hg _ _ hx;have e2:=hg _ _ hi;simp only[aJ] at e1 e2;exact⟨.ptr (ν b).1 (o+j*z),by simp only[bD,e1,e2,h3,aF],by rw[h2];exact jve (by omega)⟩
   ·rename_i b o k' y j' f k m hx hi;cases h;obtain⟨j,rfl,h1,h2,h3⟩:=sF hc;obtain⟨e1,h4⟩:=hg _ _ hx;have e2:=hg _ _ hi;simp only[aJ] at e2;exact⟨.ptr (ν b).1 (o+j'*y+f+j*z),by simp only[bD,e1,e2,h3,aF],by rw[h2,iV],h4,by omega⟩
 case iadS z x i=>
  split at h<;>try (cases h;done)
  ·rename_i b k m hx hi;split at h<;>try (cases h;done)
   rename_i t L cap hb;obtain⟨hz,h2⟩:=aR h;rw[aL,aH] at hz;subst hz;cases h2;obtain⟨j,rfl,h1,h2,h3⟩:=sF hc;have e1:=hg _ _ hx;have e2:=hg _ _ hi;simp only[aJ] at e1 e2;obtain⟨h0,sz,hd⟩:=hl _ _ _ _ hb;rcases hd with⟨_,_,e3,_⟩ | ⟨c',n,e,_,h4⟩
   ·omega
   ·rw[e] at e1;exact⟨.ptr (ν b).1 (0+j*t.size),by simp only[bD,e1.1,e2,dP,fC,oO,h3,aF],by rw[h2,iV,iC],_,_,e,by rw[h2];exact h1⟩
  ·rename_i b o n cap z' k m hx hi;obtain⟨hz,h2⟩:=aR h;rw[aL,aH] at hz;subst hz;cases h2;obtain⟨j,rfl,h1,h2,h3⟩:=sF hc;have e1:=hg _ _ hx;have e2:=hg _ _ hi;simp only[aJ] at e2;rcases e1 with⟨_,e1,_⟩ | ⟨c',e1,_,_,len,cp,e,h5,_⟩
   ·omega
   ·exact⟨.ptr (ν b).1 (o*z'+j*z'),by simp only[bD,e1,e2,dP,fC,oO,h3,aF],by rw[h2,iV,fU],_,_,e,by rw[h2];omega⟩
  ·rename_i b n o m0 z' k m hx hi;obtain⟨hz,h2⟩:=aR h;rw[aL,aH] at hz;subst hz;cases h2;obtain⟨j,rfl,h1,h2,h3⟩:=sF hc;obtain⟨⟨c,e1⟩,h4⟩:=hg _ _ hx;have e2:=hg _ _ hi;simp only[aJ] at e2;exact⟨.ptr (ν b).1 (o*z'+j*z'),by simp only[bD,e1,e2,dP,fC,oO,h3,aF],by rw[h2,iV,iC,fU],by rw[h2];omega⟩
  ·rename_i t L k m hx hi;obtain⟨hz,h2⟩:=aR h;rw[aL,aH] at hz;subst hz;cases h2;obtain⟨j,rfl,h1,h2,h3⟩:=sF hc;obtain⟨h0,e1⟩:=hg _ _ hx;have e2:=hg _ _ hi;simp only[aJ] at e2;obtain⟨b,o,cap,l,e3,h4,h5,h6⟩:=jpy e1 h1;have hlt:j*t.size+t.size<=L.length*t.size:=by
    have:=iB t.size (show j+1<=L.length by omega);rw[fU] at this;omega
   refine⟨.ptr b (o+j*t.size),by simp only[bD,e3,e2,dP,fC,oO,h3,aF],b,o+j*t.size,l,by rw[iV],h4,by omega,?_⟩;have:=qD (cV t) t.df h6 h1;rw[yO,rF,sU,oL (by omega)] at this;rw[h2];exact this
  ·rename_i t L k m hx hi;obtain⟨hz,h2⟩:=aR h;rw[aL,aH] at hz;subst hz;cases h2;obtain⟨j,rfl,h1,h2,h3⟩:=sF hc;obtain⟨h0,e1⟩:=hg _ _ hx;have e1:=e1.sl;have e2:=hg _ _ hi;simp only[aJ] at e2;obtain⟨b,o,cap,l,e3,h4,h5,h6⟩:=jpy e1 h1;have hlt:j*t.size+t.size<=L.length*t.size:=by
    have:=iB t.size (show j+1<=L.length by omega);rw[fU] at this;omega
   refine⟨.ptr b (o+j*t.size),by simp only[bD,e3,e2,dP,fC,oO,h3,aF],b,o+j*t.size,l,by rw[iV],h4,by omega,?_⟩;have:=qD (cV t) t.df h6 h1;rw[yO,rF,sU,oL (by omega)] at this;rw[h2];exact this
 case idxA agg n z x i=>
  split at h
  ·rename_i j hj;obtain⟨k,rfl⟩:=jin hj;split at h<;>try (cases h;done)
   rename_i l hx;obtain⟨hb,h2⟩:=tU h;obtain⟨s',hs,e⟩:=map_some h2;cases e;obtain⟨m,e,hm⟩:=hg _ _ hx;obtain⟨v,k1,k2⟩:=Kn hs (oX z (nY (j*z) hm));refine⟨v,?_,k2⟩;rw[jL hm] at hb;simp only[bD,e,hk,hb,aF,k1]
  ·split at h<;>try (cases h;done)
   ·rename_i k y l k' m hx hi;obtain⟨hb,h2⟩:=aR h;simp only[aN,aL,aH,fB] at hb;obtain⟨⟨rfl,rfl⟩,rfl⟩:=hb;split at h2<;>try (cases h2;done)
    rename_i r hr;cases h2;obtain⟨j,rfl,h1,h2,h3⟩:=sF hc;obtain⟨ms,e,hm⟩:=hg _ _ hx;have e2:=hg _ _ hi;simp only[aJ] at e2;have hlen:=jL hm;have em:=Re hr hm;have hrl:r.length=l.length+1:=by
     have:ms.length=r.length:=by rw[em];simp
     simp at hlen;omega
    refine⟨_,?_,rfl⟩;have h4:(j*1+1).ble ms.length=true:=by rw[aP];simp;simp at hlen;omega
    have h5:j<r.length:=by omega
    simp only[bD,e,e2,h3,h4,fC,Bn,aF];rw[em,Gd,mB (by simpa using h5)];simp[nG,jF,h5]
   ·rename_i n' t L k m hx hi;obtain⟨hb,h2⟩:=aR h;simp only[aN,aL,aH,beq_iff_eq] at hb;obtain⟨⟨⟨rfl,ht⟩,rfl⟩,rfl⟩:=hb;cases h2;obtain⟨j,rfl,h1,h2,h3⟩:=sF hc;obtain⟨ms,e,hl1,hm⟩:=hg _ _ hx;have e2:=hg _ _ hi;simp only[aJ] at e2;have hlen:=jK (cV t) hm;have h5:j<L.length:=by omega
    obtain⟨v,k1,k2⟩:=jf3 (qD (cV t) t.df hm h5);refine⟨v,?_,by rw[h2];exact Ea ht k2⟩;have h4:(j*t.size+t.size).ble ms.length=true:=by
     rw[aP,hlen];have:=iB t.size (show j+1<=L.length by omega);rw[fU] at this;simp;omega
    simp only[bD,e,e2,h3,h4,fC,Bn,aF,k1]
 case idxS x i=>
  split at h<;>try (cases h;done)
  rename_i st k m hx hi;cases h;obtain⟨j,rfl,h1,h2,h3⟩:=sF hc;have e1:=hg _ _ hx;have e2:=hg _ _ hi;simp only[aJ] at e1 e2;refine⟨_,?_,rfl⟩;simp only[bD,e1,e2,dK h1,h2,jF,nL]
 case slS z x lo hi mx=>
  split at h<;>try (cases h;done)
  rename_i s' hx;exact j7w hg hl (hg _ _ hx) h hc
 case slT x lo hi=>
  split at h<;>try (cases h;done)
  rename_i st l hx hlo;split at h<;>try (cases h;done)
  rename_i k hhi;cases h;obtain⟨b0,b1,b2⟩:=fH.1 hc;have e1:=hg _ _ hx;simp only[aJ] at e1;have:=rY hg (cap:=st.length) hlo hhi b0 b1 b2;exact⟨_,by simp only[bD,e1,this],rfl⟩
 case ext n x=>
  split at h<;>try (cases h;done)
  rename_i l hx;split at h<;>try (cases h;done)
  rename_i s' hs;cases h;obtain⟨m,e,hm⟩:=hg _ _ hx;obtain⟨v,k1,k2⟩:=wQ hm hs;exact⟨v,by simp only[bD,e,k1],k2⟩
 case len x=>
  split at h<;>try (cases h;done)
  ·rename_i b hx;split at h<;>try (cases h;done)
   rename_i t L cap hb;cases h;obtain⟨e1,_⟩:=hg _ _ hx;obtain⟨h0,sz,hd⟩:=hl _ _ _ _ hb;rcases hd with⟨e,_,e3,_⟩ | ⟨c',n,e,_,h4⟩
   ·rw[e] at e1;exact⟨.int .i64 0,by simp only[bD,e1],by rw[e3];rfl⟩
   ·rw[e] at e1;exact⟨_,by simp only[bD,e1],rfl⟩
  ·rename_i b o n cap z hx;cases h;rcases hg _ _ hx with⟨e1,rfl,_⟩ | ⟨c',e1,_⟩
   ·exact⟨.int .i64 0,by simp only[bD,e1],rfl⟩
   ·exact⟨_,by simp only[bD,e1],rfl⟩
  ·rename_i b n o m z hx;cases h;obtain⟨⟨c,e1⟩,_⟩:=hg _ _ hx;exact⟨_,by simp only[bD,e1],rfl⟩
  ·rename_i t L hx;cases h;obtain⟨h0,e1⟩:=hg _ _ hx;rcases e1 with⟨rfl,e1⟩ | ⟨b,o,cap,l,e1,_⟩
   ·exact⟨.int .i64 0,by simp only[bD,e1],rfl⟩
   ·exact⟨_,by simp only[bD,e1],rfl⟩
  ·rename_i t L hx;cases h;obtain⟨h0,e1⟩:=hg _ _ hx;rcases e1 with⟨rfl,e1⟩ | ⟨b,o,l,e1,_⟩
   ·exact⟨.int .i64 0,by simp only[bD,e1],rfl⟩
   ·exact⟨_,by simp only[bD,e1],rfl⟩
  ·rename_i hx;cases h;have e1:=hg _ _ hx;simp only[aJ] at e1;exact⟨_,by simp only[bD,e1],rfl⟩
  ·rename_i z hx;cases h;have e1:=hg _ _ hx;rcases e1 with e1 | ⟨b,o,l,e1,_⟩
   ·exact⟨_,by simp only[bD,e1],rfl⟩
   ·exact⟨.int .i64 0,by simp only[bD,e1];rfl,rfl⟩
 case lenS x=>
  split at h<;>try (cases h;done)
  rename_i st hx;cases h;have e1:=hg _ _ hx;simp only[aJ] at e1;exact⟨_,by simp only[bD,e1],rfl⟩
 case lenc n=>
  cases h;exact⟨_,rfl,rfl⟩
 case cap x=>
  split at h<;>try (cases h;done)
  ·rename_i b hx;split at h<;>try (cases h;done)
   rename_i t L cap hb;cases h;obtain⟨m,rfl⟩:=lN.1 hc;obtain⟨e1,_⟩:=hg _ _ hx;obtain⟨h0,sz,hd⟩:=hl _ _ _ _ hb;rcases hd with⟨e,_,e3,e4⟩ | ⟨c',n,e,_,_,_,h4⟩
   ·rw[e] at e1;rcases e4 with e4 | e4<;>cases e4
    exact⟨.int .i64 0,by simp only[bD,e1],rfl⟩
   ·rw[e,h4 m rfl] at e1;exact⟨.int .i64 (m:Nat),by simp only[bD,e1],rfl⟩
  ·rename_i b o n cap z hx;cases h;obtain⟨m,rfl⟩:=lN.1 hc;rcases hg _ _ hx with⟨e1,rfl,e4,_⟩ | ⟨c',e1,h4,_⟩
   ·rcases e4 with e4 | e4<;>cases e4
    exact⟨.int .i64 0,by simp only[bD,e1],rfl⟩
   ·rw[h4 m rfl] at e1;exact⟨.int .i64 (m:Nat),by simp only[bD,e1],rfl⟩
  ·rename_i t L hx;cases h;obtain⟨h0,e1⟩:=hg _ _ hx;rcases e1 with⟨rfl,e1⟩ | ⟨b,o,l,e1,_⟩
   ·exact⟨.int .i64 0,by simp only[bD,e1],rfl⟩
   ·exact⟨_,by simp only[bD,e1],rfl⟩
  ·rename_i hx;cases h;have e1:=hg _ _ hx;simp only[aJ] at e1;exact⟨_,by simp only[bD,e1],rfl⟩
 case mins x xs=>
  match xs,h with
  | [y],h=>
    simp only at h;split at h<;>try (cases h;done)
    rename_i k a k' b hx hy;obtain⟨hk',h2⟩:=aR h;rw[pH] at hk';subst hk';cases h2;have e1:=hg _ _ hx;have e2:=hg _ _ hy;simp only[aJ] at e1 e2;exact⟨_,yE (by simp only[nJ,dA,nO,e1,e2,Ij]),rfl⟩
  | [],h=>cases h
  | _::_::_,h=>cases h
 case maxs x xs=>
  match xs,h with
  | [y],h=>
    simp only at h;split at h<;>try (cases h;done)
    rename_i k a k' b hx hy;obtain⟨hk',h2⟩:=aR h;rw[pH] at hk';subst hk';cases h2;have e1:=hg _ _ hx;have e2:=hg _ _ hy;simp only[aJ] at e1 e2;exact⟨_,yE (by simp only[nJ,dA,nO,e1,e2,Ii]),rfl⟩
  | [],h=>cases h
  | _::_::_,h=>cases h
end X
end Go.Vm
