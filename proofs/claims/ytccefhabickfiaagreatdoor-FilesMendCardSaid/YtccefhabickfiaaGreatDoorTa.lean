/- Parts of the proof. -/
import Derived.Test.YtccefhabickfiaaGreatDoorQ7
set_option linter.unusedSimpArgs false
set_option linter.unusedVariables false
namespace Go.Vm
namespace X
open W
abbrev bW:=Int×Int
abbrev aW:=bW×((Int×Int)×(Int×Int))
abbrev KT:Ty:=.prod (.prod (.int .u8) (.int .i64)) (.int .i64)
abbrev VT:Ty:=.prod (.prod (.int .i64) (.int .u8)) (.int .i64)
def sH (l:Int×Int) (p:Int) (x:aW):Bool:=decide (x.2.1.1=l.1)&&decide (x.2.1.2=l.2)&&decide (x.2.2.1=p)
def gQ (T:List aW) (l:Int×Int) (p:Int):Option aW:=T.find? (sH l p)
theorem Jz {l:Int×Int} {p:Int} {x:aW}:sH l p x=true↔x.2.1=l/\x.2.2.1=p:=by
 unfold sH;simp only[aN,aH,Prod.ext_iff]
theorem sJ {T:List aW} {l:Int×Int} {p:Int} {x:aW} (h:gQ T l p=some x):x∈T/\x.2.1=l/\x.2.2.1=p:=
 ⟨Te h,Jz.1 (Tt h)⟩
def KeyD (T:List aW):Prop:=T.Pairwise λx y=>¬(x.2.1=y.2.1/\x.2.2.1=y.2.2.1)
theorem KeyD.uniq {T:List aW} (h:KeyD T):∀ {x y:aW},x∈T->y∈T->x.2.1=y.2.1->x.2.2.1=y.2.2.1->x=y:=by
 induction T with
 | nil=>intro x y hx;cases hx
 | cons a T ih=>
   intro x y hx hy h1 h2;obtain⟨k1,k2⟩:=mT.1 h;rcases bL.1 hx with e | hx'<;>rcases bL.1 hy with e' | hy'
   ·rw[e,e']
   ·subst e;exact absurd ⟨h1,h2⟩ (k1 y hy')
   ·subst e';exact absurd ⟨h1.symm,h2.symm⟩ (k1 x hx')
   ·exact ih k2 hx' hy' h1 h2
theorem jl0 {T:List aW} (hT:KeyD T) {x:aW} (hx:x∈T):gQ T x.2.1 x.2.2.1=some x:=by
 cases h:gQ T x.2.1 x.2.2.1 with
 | none=>
   have:=Bj.1 h x hx;exact absurd (Jz.2 ⟨rfl,rfl⟩) this
 | some y=>
   obtain⟨h1,h2,h3⟩:=sJ h;rw[hT.uniq h1 hx h2 h3]
def tS (T:List aW):List (((Int×Int)×Int)×((Int×Int)×Int)):=T.map λx=>((x.2.1,x.2.2.1),(x.1,x.2.2.2))
theorem Zv (a b:(Int×Int)×Int):KT.eqb a b=true↔a=b:=by
 obtain⟨⟨a1,a2⟩,a3⟩:=a;obtain⟨⟨b1,b2⟩,b3⟩:=b;simp only[Ty.eqb];by_cases h1:a1=b1
 ·by_cases h2:a2=b2
  ·simp[h1,h2]
  ·simp[h1,h2]
 ·simp[h1]
theorem jmh (l:Int×Int) (p:Int):∀T:List aW,gR KT VT (l,p) (tS T)=(gQ T l p).map λx=>(x.1,x.2.2.2)
 | []=>rfl
 | x::T=>by
   show(bif KT.eqb (l,p) (x.2.1,x.2.2.1) then some (x.1,x.2.2.2) else gR KT VT (l,p) (tS T))=_;unfold gQ;rw[List.find?_cons];by_cases h:x.2.1=l/\x.2.2.1=p
   ·have e1:KT.eqb (l,p) (x.2.1,x.2.2.1)=true:=(Zv _ _).2 (by rw[h.1,h.2]);rw[Jz.2 h,e1];rfl
   ·have e1:KT.eqb (l,p) (x.2.1,x.2.2.1)=false:=by
     cases hq:KT.eqb (l,p) (x.2.1,x.2.2.1) with
     | false=>rfl
     | true=>
       have:=(Zv _ _).1 hq;simp only[aM] at this;exact absurd ⟨this.1.symm,this.2.symm⟩ h
    have e2:sH l p x=false:=by
     cases hq:sH l p x with
     | false=>rfl
     | true=>exact absurd (Jz.1 hq) h
    rw[e2,e1];exact jmh l p T
theorem jmn {k v:Ty} {x:k.den} {y:v.den}:∀ {L:List (k.den×v.den)},(∀a∈L,k.eqb x a.1=false)->nH k v x y L=L++[(x,y)]
 | [],_=>rfl
 | a::L,h=>by
   simp only[nH,h a (bY ..),aF];rw[jmn λb hb=>h b (bX _ hb)];rfl
theorem Nu {α:Type} (T:List α) (i:Nat) (hi:i<T.length):T.take (i+1)=T.take i++[T[i]]:=by
 rw[Fy,dK hi];rfl
theorem jjq {α:Type} {T:List α} {p:α->Bool} {i:Nat} (hi:i<T.length) (h:∀x∈T.take i,p x=false) (hq:p T[i]=true):T.find? p=some T[i]:=by
 refine List.find?_eq_some_iff_getElem.2 ⟨hq,i,hi,rfl,λj hj=>?_⟩;rw[h T[j] (qgf.2 ⟨j,by omega,rfl⟩)];rfl
theorem jfj {T:List aW} {l:Int×Int} {p:Int} (hn:T.length<=1000000):Lw fuel (T,(l,p))=some (match gQ T l p with
  | some x=>(x.1,(x.2.2.2,1))
  | none=>((0,0),(0,0))):=by
 apply Ret.eq;unfold Lw;refine gZ (λs:Int×(Int×Int)=>∃i:Nat,s.1=(i:Int)/\i<=T.length/\s.2=(0,0)/\∀x∈T.take i,sH l p x=false) (λs=>T.length-s.1.toNat) ?_ fuel _ ⟨0,rfl,fM _,rfl,by simp⟩ (by simp only[fuel];omega);rintro ⟨s1,s2⟩ rec ⟨i,h1,h2,h3,h4⟩ hrec;simp only at h1 h3 ⊢;subst h1;subst h3;refine aS (λhlt=>?_) λhge=>?_
 ·have hi:i<T.length:=by omega
  have hx:T.getD ((i:Int).toNat) ((0,0),((0,0),(0,0)))=T[i]:=by
   rw[fF,jF,dK hi];rfl
  have hin:aI (i:Int) T.length=true:=cZ (by omega) hlt;rw[hx]
  have next:sH l p T[i]=false->Ret (aA (aC ((i:Int)+1)) (rec ((i:Int)+1,0,0))) λx=>x=(match gQ T l p with
    | some x=>(x.1,(x.2.2.2,1))
    | none=>((0,0),(0,0))):=λhq=>by
   refine cI (hrec _ ⟨i+1,by simp,hi,rfl,λx hx=>?_⟩ (by simp only;omega));rw[Nu T i hi,aZ] at hx;rcases hx with hx | hx
   ·exact h4 x hx
   ·rw[bF.1 hx];exact hq
  refine bB hin (iI (λhl=>bB hin (aS (λhp=>bB hin (bB hin (cB ?_))) λhp=>next ?_)) λhl=>next ?_)
  ·have hq:sH l p T[i]=true:=by
    simp only[aN,aH] at hl;exact Jz.2 ⟨oP hl.1 hl.2,hp⟩
   rw[show gQ T l p=some T[i] from jjq hi h4 hq]
  ·unfold sH;simp[hp]
  ·unfold sH;rw[hl];rfl
 ·have hi:i=T.length:=by omega
  subst hi;rw[mC] at h4;have:gQ T l p=none:=Bj.2 λx hx=>by rw[h4 x hx];simp
  rw[this];exact cB rfl
end X
end Go.Vm
namespace Go.Vm
namespace X
open W Go.Proofs.Un
def jbk (T:List aW) (n:Nat) (l:Int×Int):List aW:=(List.range n).filterMap fun(p:Nat)=>gQ (T.filter λx=>decide (x.2.1.1=l.1)&&decide (x.2.1.2=l.2)) l (p:Int)
def mX (T:List aW) (w h:Nat):List aW:=(List.range 4).flatMap fun(k:Nat)=>(List.range (w+ (w+h)+1)).flatMap fun(c:Nat)=>jbk T (2* (w+h)+1) ((k:Int)+1,(c:Int)-(w:Int))
def nxt (x y:aW):Bool:=decide (x.2.1.1<y.2.1.1)||decide (x.2.1.1=y.2.1.1)&&(decide (x.2.1.2<y.2.1.2)||decide (x.2.1.2=y.2.1.2)&&decide (x.2.2.2<=y.2.2.1))
def Yj (x y:bW):Bool:=decide (x.1<y.1)||decide (x.1=y.1)&&decide (x.2<y.2)
def qF {α:Type} (r:α->α->Bool):List α->Bool
 | []=>true
 | x::l=>(match l with
   | []=>true
   | y::_=>r x y)&&qF r l
def jno (w h:Nat) (x:aW):Bool:=decide (1<=x.2.1.1)&&decide (x.2.1.1<=4)&&decide (-(w:Int)<=x.2.1.2)&&decide (x.2.1.2<=(w:Int)+h)&&decide (0<=x.2.2.1)&&decide (x.2.2.1<x.2.2.2)&&decide (x.2.2.2<=2* ((w:Int)+h))&&
 decide (0<=x.1.1)&&decide (x.1.1<4* (w:Int)*h)&&decide (0<=x.1.2)&&decide (x.1.2<=2)
def jmo (w h:Nat) (i:Nat):Bool:=match Ap w h i with
 | some (n,er)=>decide (er≠0)||decide (n≠((i / 3:Nat):Int))
 | none=>false
def jo1 (w h:Nat) (x:aW):Bool:=match Uk fuel (((w:Int),(h:Int)),(x.1.1,x.1.2)) with
 | some n=>decide (x.1.1<n)
 | none=>false
def jbj (w h:Nat) (x:aW):Bool:=match Mm fuel (((w:Int),(h:Int)),(x.1.1,x.1.2)) with
 | some r=>decide (r.1.1.1=x.2.1.1)&&decide (r.1.1.2=x.2.1.2)&&decide (r.1.2=x.2.2.1)&&decide (r.2=x.2.2.2)
 | none=>false
def Sv {α:Type} (r:α->α->Bool):List α->Bool
 | []=>true
 | x::l=>l.all (r x)&&Sv r l
def jle (x y:aW):Bool:= !(decide (x.2.2.1=y.2.2.1)&&(decide (x.2.1.2=y.2.1.2)&&decide (x.2.1.1=y.2.1.1)))
structure Tab (w h:Nat) (T:List aW):Prop where
 all:Um fuel ((w:Int),(h:Int))=some T
 un:Gg fuel ((w:Int),(h:Int))=some (T.map (·.1))
 us:Ve fuel ((w:Int),(h:Int))=some (T.map (·.1),0)
 up:qF Yj (T.map (·.1))=true
 ok:T.all (jno w h)=true
 kd:Sv jle T=true
 wk:qF nxt (mX T w h)=true
 nb:(List.range (12*w*h)).all (jmo w h)=true
 rn:T.all (jo1 w h)=true
 lie:T.all (jbj w h)=true
end X
end Go.Vm
namespace Go.Vm
namespace X
open W
set_option maxRecDepth 100000
def sqK (X Y:Int):Nat->Int×Int
 | 0=>(X,Y)
 | 1=>(X+2,Y)
 | 2=>(X+2,Y+2)
 | _=>(X,Y+2)
def crK (x y q:Nat):Nat->Int×Int
 | 0=>(2* (x:Int)+1,2* (y:Int)+1)
 | 1=>sqK (2* (x:Int)) (2* (y:Int)) (bif q.beq 1||q.beq 2 then 2 else 0)
 | _=>sqK (2* (x:Int)) (2* (y:Int)) (bif q.blt 2 then 1 else 3)
def nxK:Nat->Nat->Int×(Int×Nat)
 | 0,0=>(0,(-1,2)) | 0,1=>(0,(0,1)) | 0,_=>(0,(0,3))
 | 1,0=>(1,(0,3)) | 1,1=>(0,(0,0)) | 1,_=>(0,(0,2))
 | 2,0=>(0,(1,0)) | 2,1=>(0,(0,3)) | 2,_=>(0,(0,1))
 | _,0=>(-1,(0,1)) | _,1=>(0,(0,2)) | _,_=>(0,(0,0))
def lnK (p r:Int×Int):Int×Int:=
 bif decide (p.1=r.1) then(1,p.1 / 2) else bif decide (p.2=r.2) then(2,p.2 / 2) else bif decide (p.1+p.2=r.1+r.2) then(3,(p.1+p.2) / 2) else(4,(p.2-p.1) / 2)
def enK (i e:Nat) (p r:Int×Int):aW:=
 bif decide ((lnK p r).1=1) then(((i:Int),(e:Int)),(lnK p r,(bif decide (p.2<r.2) then(p.2,r.2) else(r.2,p.2)))) else(((i:Int),(e:Int)),(lnK p r,(bif decide (p.1<r.1) then(p.1,r.1) else(r.1,p.1))))
def j4n (w h i e x y q:Nat) (d:Int×(Int×Nat)):Option aW:=
 bif decide (0<=(x:Int)+d.1)&&decide ((x:Int)+d.1<w)&&decide (0<=(y:Int)+d.2.1)&&decide ((y:Int)+d.2.1<h)&&decide ((i:Int)<4* (((y:Int)+d.2.1)*w+ ((x:Int)+d.1))+d.2.2) then
  some (enK i e (crK x y q ((e+1)%3)) (crK x y q ((e+2)%3))) else none
def fA (w h:Nat):List aW:=(List.range (4*w*h)).flatMap λi=>(List.range 3).filterMap λe=>j4n w h i e (i / 4%w) (i / 4 / w) (i%4) (nxK (i%4) e)
def jk0 (s:List Nat):Bool:=s.all (λb=>b.ble 57&&(45).ble b&& !(b.beq 46)&& !(b.beq 47))&&(1).ble s.length&&s.length.ble 5
def Es (k:Int) (b:Nat) (n:Int) (s:List Nat):Bool:=match Go.Proofs.S07.lpFin (b::32::s) with
 | (a,c)=>nD a k&&nD c n
def Qh:List Nat->List Nat->Bool
 | [],[]=>true
 | a::l,b::m=>a.beq b&&Qh l m
 | _,_=>false
def eU (n:Int):Bool:=match jS fuel n with
 | some s=>(match oQ fuel n with | some t=>Qh t s | none=>false)&&(match rJ fuel s with | some (a,b)=>nD a n&&b | none=>false)&&jk0 s&&Es 1 120 n s&&Es 2 121 n s&&Es 3 117 n s&&Es 4 100 n s
 | none=>false
end X
end Go.Vm
