/- Segments: where the units of a sheet lie; looking for a unit by its line and its place. -/
import Derived.Test.YtccefhabickfiaaGreatDoorQ7
set_option linter.unusedSimpArgs false
set_option linter.unusedVariables false
namespace Go.Vm
namespace X
open W
abbrev aR:=Int×Int
abbrev aI:=aR×((Int×Int)×(Int×Int))
abbrev KT:Ty:=.prod (.prod (.int .u8) (.int .i64)) (.int .i64)
abbrev VT:Ty:=.prod (.prod (.int .i64) (.int .u8)) (.int .i64)
def vZ (l:Int×Int) (p:Int) (x:aI):Bool:=decide (x.2.1.1=l.1)&&decide (x.2.1.2=l.2)&&decide (x.2.2.1=p)
def dW (T:List aI) (l:Int×Int) (p:Int):Option aI:=T.find? (vZ l p)
theorem jhn {l:Int×Int} {p:Int} {x:aI}:vZ l p x=true↔x.2.1=l/\x.2.2.1=p:=by
 unfold vZ;simp only[aT,aO,qh1]
theorem jB {T:List aI} {l:Int×Int} {p:Int} {x:aI} (h:dW T l p=some x):x∈T/\x.2.1=l/\x.2.2.1=p:=
 ⟨xL h,jhn.1 (xN h)⟩
def KeyD (T:List aI):Prop:=T.Pairwise λx y=>¬(x.2.1=y.2.1/\x.2.2.1=y.2.2.1)
theorem KeyD.uniq {T:List aI} (h:KeyD T):∀ {x y:aI},x∈T->y∈T->x.2.1=y.2.1->x.2.2.1=y.2.2.1->x=y:=by
 induction T with
 | nil=>intro x y hx;cases hx
 | cons a T ih=>
   intro x y hx hy h1 h2;obtain⟨k1,k2⟩:=jY.1 h;rcases bK.1 hx with e | hx'<;>rcases bK.1 hy with e' | hy'
   ·rw[e,e']
   ·subst e;exact absurd ⟨h1,h2⟩ (k1 y hy')
   ·subst e';exact absurd ⟨h1.symm,h2.symm⟩ (k1 x hx')
   ·exact ih k2 hx' hy' h1 h2
theorem V3 {T:List aI} (hT:KeyD T) {x:aI} (hx:x∈T):dW T x.2.1 x.2.2.1=some x:=by
 cases h:dW T x.2.1 x.2.2.1 with
 | none=>
   have:=oP.1 h x hx;exact absurd (jhn.2 ⟨rfl,rfl⟩) this
 | some y=>
   obtain⟨h1,h2,h3⟩:=jB h;rw[hT.uniq h1 hx h2 h3]
def mO (T:List aI):List (((Int×Int)×Int)×((Int×Int)×Int)):=T.map λx=>((x.2.1,x.2.2.1),(x.1,x.2.2.2))
theorem jg8 (a b:(Int×Int)×Int):KT.eqb a b=true↔a=b:=by
 obtain⟨⟨a1,a2⟩,a3⟩:=a;obtain⟨⟨b1,b2⟩,b3⟩:=b;simp only[Ty.eqb];by_cases h1:a1=b1
 ·by_cases h2:a2=b2
  ·simp[h1,h2]
  ·simp[h1,h2]
 ·simp[h1]
theorem jnc (l:Int×Int) (p:Int):∀T:List aI,fG KT VT (l,p) (mO T)=(dW T l p).map λx=>(x.1,x.2.2.2)
 | []=>rfl
 | x::T=>by
   show(bif KT.eqb (l,p) (x.2.1,x.2.2.1) then some (x.1,x.2.2.2) else fG KT VT (l,p) (mO T))=_;unfold dW;rw[List.find?_cons];by_cases h:x.2.1=l/\x.2.2.1=p
   ·have e1:KT.eqb (l,p) (x.2.1,x.2.2.1)=true:=(jg8 _ _).2 (by rw[h.1,h.2]);rw[jhn.2 h,e1];rfl
   ·have e1:KT.eqb (l,p) (x.2.1,x.2.2.1)=false:=by
     cases hq:KT.eqb (l,p) (x.2.1,x.2.2.1) with
     | false=>rfl
     | true=>
       have:=(jg8 _ _).1 hq;simp only[bC] at this;exact absurd ⟨this.1.symm,this.2.symm⟩ h
    have e2:vZ l p x=false:=by
     cases hq:vZ l p x with
     | false=>rfl
     | true=>exact absurd (jhn.1 hq) h
    rw[e2,e1];exact jnc l p T
theorem jnd {k v:Ty} {x:k.den} {y:v.den}:∀ {L:List (k.den×v.den)},(∀a∈L,k.eqb x a.1=false)->lO k v x y L=L++[(x,y)]
 | [],_=>rfl
 | a::L,h=>by
   simp only[lO,h a (bM ..),aG];rw[jnd λb hb=>h b (bN _ hb)];rfl
theorem tH {α:Type} (T:List α) (i:Nat) (hi:i<T.length):T.take (i+1)=T.take i++[T[i]]:=by
 rw[sU,dI hi];rfl
theorem jhd {α:Type} {T:List α} {p:α->Bool} {i:Nat} (hi:i<T.length) (h:∀x∈T.take i,p x=false) (hq:p T[i]=true):T.find? p=some T[i]:=by
 refine List.find?_eq_some_iff_getElem.2 ⟨hq,i,hi,rfl,λj hj=>?_⟩;rw[h T[j] (qfr.2 ⟨j,by omega,rfl⟩)];rfl
theorem jam {T:List aI} {l:Int×Int} {p:Int} (hn:T.length<=1000000):ji3 fuel (T,(l,p))=some (match dW T l p with
  | some x=>(x.1,(x.2.2.2,1))
  | none=>((0,0),(0,0))):=by
 apply Ret.eq;unfold ji3;refine dK (λs:Int×(Int×Int)=>∃i:Nat,s.1=(i:Int)/\i<=T.length/\s.2=(0,0)/\∀x∈T.take i,vZ l p x=false) (λs=>T.length-s.1.toNat) ?_ fuel _ ⟨0,rfl,eJ _,rfl,by simp⟩ (by simp only[fuel];omega);rintro ⟨s1,s2⟩ rec ⟨i,h1,h2,h3,h4⟩ hrec;simp only at h1 h3 ⊢;subst h1;subst h3;refine aD (λhlt=>?_) λhge=>?_
 ·have hi:i<T.length:=by omega
  have hx:T.getD ((i:Int).toNat) ((0,0),((0,0),(0,0)))=T[i]:=by
   rw[cZ,gH,dI hi];rfl
  have hin:aU (i:Int) T.length=true:=bG (by omega) hlt;rw[hx]
  have next:vZ l p T[i]=false->Ret (aA (aM ((i:Int)+1)) (rec ((i:Int)+1,0,0))) λx=>x=(match dW T l p with
    | some x=>(x.1,(x.2.2.2,1))
    | none=>((0,0),(0,0))):=λhq=>by
   refine aV (hrec _ ⟨i+1,by simp,hi,rfl,λx hx=>?_⟩ (by simp only;omega));rw[tH T i hi,bO] at hx;rcases hx with hx | hx
   ·exact h4 x hx
   ·rw[bW.1 hx];exact hq
  refine aK hin (dN (λhl=>aK hin (aD (λhp=>aK hin (aK hin (aW ?_))) λhp=>next ?_)) λhl=>next ?_)
  ·have hq:vZ l p T[i]=true:=by
    simp only[aT,aO] at hl;exact jhn.2 ⟨jJ hl.1 hl.2,hp⟩
   rw[show dW T l p=some T[i] from jhd hi h4 hq]
  ·unfold vZ;simp[hp]
  ·unfold vZ;rw[hl];rfl
 ·have hi:i=T.length:=by omega
  subst hi;rw[iY] at h4;have:dW T l p=none:=oP.2 λx hx=>by rw[h4 x hx];simp
  rw[this];exact aW rfl
end X
end Go.Vm
namespace Go.Vm
namespace X
open W Go.Proofs.Un
def N7 (T:List aI) (n:Nat) (l:Int×Int):List aI:=(List.range n).filterMap fun(p:Nat)=>dW (T.filter λx=>decide (x.2.1.1=l.1)&&decide (x.2.1.2=l.2)) l (p:Int)
def fH (T:List aI) (w h:Nat):List aI:=(List.range 4).flatMap fun(k:Nat)=>(List.range (w+ (w+h)+1)).flatMap fun(c:Nat)=>N7 T (2* (w+h)+1) ((k:Int)+1,(c:Int)-(w:Int))
def O3 (x y:aI):Bool:=decide (x.2.1.1<y.2.1.1)||decide (x.2.1.1=y.2.1.1)&&(decide (x.2.1.2<y.2.1.2)||decide (x.2.1.2=y.2.1.2)&&decide (x.2.2.2<=y.2.2.1))
def L6 (x y:aR):Bool:=decide (x.1<y.1)||decide (x.1=y.1)&&decide (x.2<y.2)
def iS {α:Type} (r:α->α->Bool):List α->Bool
 | []=>true
 | x::l=>(match l with
   | []=>true
   | y::_=>r x y)&&iS r l
def jip (w h:Nat) (x:aI):Bool:=decide (1<=x.2.1.1)&&decide (x.2.1.1<=4)&&decide (-(w:Int)<=x.2.1.2)&&decide (x.2.1.2<=(w:Int)+h)&&decide (0<=x.2.2.1)&&decide (x.2.2.1<x.2.2.2)&&decide (x.2.2.2<=2* ((w:Int)+h))&&
 decide (0<=x.1.1)&&decide (x.1.1<4* (w:Int)*h)&&decide (0<=x.1.2)&&decide (x.1.2<=2)
def jii (w h:Nat) (i:Nat):Bool:=match G6 w h i with
 | some (n,er)=>decide (er≠0)||decide (n≠((i / 3:Nat):Int))
 | none=>false
def jov (w h:Nat) (x:aI):Bool:=match jos fuel (((w:Int),(h:Int)),(x.1.1,x.1.2)) with
 | some n=>decide (x.1.1<n)
 | none=>false
def V1 (w h:Nat) (x:aI):Bool:=match jad fuel (((w:Int),(h:Int)),(x.1.1,x.1.2)) with
 | some r=>decide (r.1.1.1=x.2.1.1)&&decide (r.1.1.2=x.2.1.2)&&decide (r.1.2=x.2.2.1)&&decide (r.2=x.2.2.2)
 | none=>false
def H8 {α:Type} (r:α->α->Bool):List α->Bool
 | []=>true
 | x::l=>l.all (r x)&&H8 r l
def jib (x y:aI):Bool:= !(decide (x.2.2.1=y.2.2.1)&&(decide (x.2.1.2=y.2.1.2)&&decide (x.2.1.1=y.2.1.1)))
structure Tab (w h:Nat) (T:List aI):Prop where
 all:jot fuel ((w:Int),(h:Int))=some T
 un:jfi fuel ((w:Int),(h:Int))=some (T.map (·.1))
 us:jag fuel ((w:Int),(h:Int))=some (T.map (·.1),0)
 up:iS L6 (T.map (·.1))=true
 ok:T.all (jip w h)=true
 kd:H8 jib T=true
 wk:iS O3 (fH T w h)=true
 nb:(List.range (12*w*h)).all (jii w h)=true
 rn:T.all (jov w h)=true
 lie:T.all (V1 w h)=true
end X
end Go.Vm
namespace Go.Vm
namespace X
open W
set_option maxRecDepth 100000
def sqK (X Y:Int):Nat->Int×Int
 | 0=>(X,Y)
 | 1=>(X+2,Y)
 | 2=>(X+2,Y+2)
 | _=>(X,Y+2)
def crK (x y q:Nat):Nat->Int×Int
 | 0=>(2* (x:Int)+1,2* (y:Int)+1)
 | 1=>sqK (2* (x:Int)) (2* (y:Int)) (bif q.beq 1||q.beq 2 then 2 else 0)
 | _=>sqK (2* (x:Int)) (2* (y:Int)) (bif q.blt 2 then 1 else 3)
def nxK:Nat->Nat->Int×(Int×Nat)
 | 0,0=>(0,(-1,2)) | 0,1=>(0,(0,1)) | 0,_=>(0,(0,3))
 | 1,0=>(1,(0,3)) | 1,1=>(0,(0,0)) | 1,_=>(0,(0,2))
 | 2,0=>(0,(1,0)) | 2,1=>(0,(0,3)) | 2,_=>(0,(0,1))
 | _,0=>(-1,(0,1)) | _,1=>(0,(0,2)) | _,_=>(0,(0,0))
def lnK (p r:Int×Int):Int×Int:=
 bif decide (p.1=r.1) then(1,p.1 / 2) else bif decide (p.2=r.2) then(2,p.2 / 2) else bif decide (p.1+p.2=r.1+r.2) then(3,(p.1+p.2) / 2) else(4,(p.2-p.1) / 2)
def enK (i e:Nat) (p r:Int×Int):aI:=
 bif decide ((lnK p r).1=1) then(((i:Int),(e:Int)),(lnK p r,(bif decide (p.2<r.2) then(p.2,r.2) else(r.2,p.2)))) else(((i:Int),(e:Int)),(lnK p r,(bif decide (p.1<r.1) then(p.1,r.1) else(r.1,p.1))))
def kki (w h i e x y q:Nat) (d:Int×(Int×Nat)):Option aI:=
 bif decide (0<=(x:Int)+d.1)&&decide ((x:Int)+d.1<w)&&decide (0<=(y:Int)+d.2.1)&&decide ((y:Int)+d.2.1<h)&&decide ((i:Int)<4* (((y:Int)+d.2.1)*w+ ((x:Int)+d.1))+d.2.2) then
  some (enK i e (crK x y q ((e+1)%3)) (crK x y q ((e+2)%3))) else none
def jS (w h:Nat):List aI:=(List.range (4*w*h)).flatMap λi=>(List.range 3).filterMap λe=>kki w h i e (i / 4%w) (i / 4 / w) (i%4) (nxK (i%4) e)
def jho (s:List Nat):Bool:=s.all (λb=>b.ble 57&&(45).ble b&& !(b.beq 46)&& !(b.beq 47))&&(1).ble s.length&&s.length.ble 5
def yS (k:Int) (b:Nat) (n:Int) (s:List Nat):Bool:=match Go.Proofs.S07.lpFin (b::32::s) with
 | (a,c)=>tZ a k&&tZ c n
def E8:List Nat->List Nat->Bool
 | [],[]=>true
 | a::l,b::m=>a.beq b&&E8 l m
 | _,_=>false
def gK (n:Int):Bool:=match fU fuel n with
 | some s=>(match mV fuel n with | some t=>E8 t s | none=>false)&&(match kF fuel s with | some (a,b)=>tZ a n&&b | none=>false)&&jho s&&yS 1 120 n s&&yS 2 121 n s&&yS 3 117 n s&&yS 4 100 n s
 | none=>false
end X
end Go.Vm
