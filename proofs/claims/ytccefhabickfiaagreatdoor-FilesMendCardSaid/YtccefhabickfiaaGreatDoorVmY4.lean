/- Parts of the proof. -/
import Derived.Test.YtccefhabickfiaaGreatDoorVmWT
set_option linter.unusedSimpArgs false
set_option linter.unusedVariables false
namespace Go.Vm
namespace W
open Go Go.RowKit
variable {P:Program} {gl:List Nat} {B:Base}
end W
end Go.Vm
namespace Go.Vm
namespace W
open Go Go.RowKit
variable {P:Program} {gl:List Nat} {B:Base}
def iK:List Int->List Int->Int
 | [],[]=>0
 | [],_::_=> -1
 | _::_,[]=>1
 | x::xs,y::ys=>if x<y then -1 else if y<x then 1 else iK xs ys
def pick {α:Type} (d:α) (l:List α) (o:List Nat):List α:=o.map λi=>l.getD i d
def jgh (w w':World) (blk off:Nat) (V:List Value):Prop:=
 w'.os=w.os/\w'.tape=w.tape/\w'.output=w.output/\w.heap.size<=w'.heap.size/\(∀x,x<w.heap.size->x≠blk->w'.heap[x]?=w.heap[x]?)/\
 ∀cs e fr,w.heap[blk]?=some (.cells cs e fr)->∃cs',w'.heap[blk]?=some (.cells cs' e fr)/\cs'.size=cs.size/\∀j,j<cs.size->cs'[j]?=if off<=j/\j<off+V.length then V[j-off]? else cs[j]?
end W
end Go.Vm
namespace Go.Vm
namespace W
theorem Qa:∀x:List Int,iK x x=0
 | []=>rfl
 | a::x=>by simp only[iK,Int.lt_irrefl,cO];exact Qa x
end W
end Go.Vm
namespace Go.Vm
namespace W
open Go Go.RowKit
variable {P:Program} {gl:List Nat} {B:Base}
def uW:AV->Bool
 | .int _ _=>true
 | .bool _=>true
 | _=>false
def nU:AV->Value
 | .int k z=>.int k z
 | .bool b=>.bool b
 | _=>.bool false
theorem jgi {ρ:RM}:∀ {a:AV} {v:Value},uW a=true->(VR ρ a v↔v=nU a)
 | .int k z,v,_=>by simp[VR,nU]
 | .bool b,v,_=>by simp[VR,nU]
theorem juy {ρ:RM} {A:List AV} {V:List Value} (hd:A.all uW=true) (h:VRs ρ A V):V=A.map nU:=by
 have hl:=h.length;refine qgt (by simp;omega) λi h1 h2=>?_
 obtain⟨v,e1,e2⟩:=h.get (i:=i) (a:=A[i]'(by omega)) (dK (by omega));rw[dK h1] at e1;cases e1;rw[qgu];exact(jgi (bS.1 hd _ (dU _))).1 e2
theorem juz {ρ:RM} {A:List AV} (hd:A.all uW=true):VRs ρ A (A.map nU):=by
 rw[rW];refine⟨by simp,λi a v ha hv=>?_⟩;rw[jH,ha] at hv;cases hv;exact(jgi (bS.1 hd _ (rC ha))).2 rfl
def Gt (k:Nat) (sv:List AV->Option (List AV)) (ro:Nat) (H:Tr Blk) (nx b o n:Nat):bN:=
 bif(rx ro).ble b&&(1:Nat).ble n&&n.ble 1000000 then(match H.get b with
  | some (.cells c m)=>bif(o+n*k).ble m then(match take c o (n*k) with
    | some A=>bif A.all uW then(match sv A with
      | some A'=>bif A'.all uW&&A'.length.beq (n*k) then some (.tup [],H.set b (.cells (put A' o c) m),nx) else none
      | none=>none) else none
    | none=>none) else none
  | _=>none) else none
def tG (k:Nat) (sv:List AV->Option (List AV)) (f fc:FuncId):dX:=λg as=>bif Nat.beq g f then(match as with
 | [.sl b o n _ z,.fn (.func h) [] []]=>bif Nat.beq h fc&&Nat.beq z k then some λH nx ro=>(match n with
   | 0=>some (.tup [],H,nx)
   | n+1=>Gt k sv ro H nx b o (n+1)) else none
 | [.nils,.fn (.func h) [] []]=>bif Nat.beq h fc then some λH nx _=>some (.tup [],H,nx) else none
 | _=>none) else none
abbrev RowK (P:Program) (k:Nat) (sv:List AV->Option (List AV)) (f fc:FuncId):Prop:=
 ∀(blk off n c:Nat) (A A':List AV) (w:World) (_:A.length=n*k) (_:0<n) (_:n<=1000000) (_:n<=c) (_:A.all uW=true) (_:sv A=some A') (_:A'.all uW=true) (_:A'.length=n*k)
  (_:∀(j:Nat) (v:Value),(A.map nU)[j]?=some v->w.cell? ⟨blk,off+j,none⟩=some v/\w.frozen? ⟨blk,off+j,none⟩=false),
  Calls P f #[.slice (some ⟨blk,off,none⟩) n c,.func (.func fc) #[] #[]] w λe w'=>e=.returned (.tuple #[])/\jgh w w' blk off (A'.map nU)
theorem jqn {k:Nat} {sv:List AV->Option (List AV)} {f fc:FuncId} (hfn:tI P f)
  (c0:∀(p:Option Addr) (c:Nat) (w:World),Calls P f #[.slice p 0 c,.func (.func fc) #[] #[]] w λe w'=>e=.returned (.tuple #[])/\w'=w) (c1:RowK P k sv f fc):iX P gl B (tG k sv f fc):=by
 intro g as kk hk H nx v H' nx' ro hv hb;unfold tG at hk;obtain⟨e,hk2⟩:=aR hk;rw[aL,aH] at e;clear hk;subst e;split at hk2<;>try (cases hk2;done)
 ·rename_i b o n cap z k2;obtain⟨e2,hk3⟩:=aR hk2;rw[aN,aL,aL,aH,aH] at e2;clear hk2;obtain⟨e2,ez⟩:=e2;subst e2;subst ez;cases hk3;cases n with
  | zero=>
    simp only[aG,aM] at hv;obtain⟨rfl,rfl,rfl⟩:=hv;refine⟨Syn.refl _ _ _,λρ w args hr hf hro hgl hwf ha=>⟨hfn,?_⟩⟩;simp only[VRs] at ha;obtain⟨X,l1,h1,hX,Y,l2,rfl,hY,rfl⟩:=ha;obtain rfl:args=#[X,Y]:=gF.1 h1;simp only[VR] at hX hY;obtain⟨xs,ys,rfl,hxs,hys⟩:=hY;obtain rfl:xs=#[]:=gF.1 (by simpa[VRs] using hxs);obtain rfl:ys=#[]:=gF.1 (by simpa[VRs] using hys);obtain⟨lc,cc,off,g1,rfl,g2,_,g3,g4⟩:=hX;refine(c0 _ _ w).mono ?_;rintro e w' ⟨rfl,rfl⟩;exact⟨_,rfl,ρ,Step.refl _ _ _ _ _,hr,by simp[VR,VRs]⟩
  | succ n=>
  obtain⟨N,hN⟩:∃N,N=n+1:=⟨_,rfl⟩
  simp only[<-hN] at hv;unfold Gt at hv;obtain⟨hc,hv⟩:=aR hv;simp only[aN,aP,aH] at hc;obtain⟨⟨hrx,hn⟩,hn6⟩:=hc;obtain⟨hro,hRO⟩:=jC hrx;split at hv<;>try (cases hv;done)
  rename_i c m hbk;obtain⟨hm,hv⟩:=aR hv;rw[aP,aH] at hm;split at hv<;>try (cases hv;done)
  rename_i A hA;obtain⟨hd,hv⟩:=aR hv;split at hv<;>try (cases hv;done)
  rename_i A' hA';obtain⟨hd',hv⟩:=aR hv;rw[aN,aL,aH] at hd';obtain⟨hd',hl'⟩:=hd';simp only[aG,aM] at hv;obtain⟨rfl,rfl,rfl⟩:=hv;obtain⟨tA,_⟩:=Cm (N*z) c o A hA;have hs:(H.get b).isSome:=by rw[hbk];rfl
  refine⟨⟨aU _,λx hx=>?_,λx h1 h2=>?_⟩,λρ w args hr hf hro' hgl hwf ha=>⟨hfn,?_⟩⟩
  ·by_cases e:x=b
   ·exact .inr (by rw[e];exact hs)
   ·rw[Tr.get_set,aD e] at hx;exact .inr hx
  ·rw[Tr.get_set,aD (by omega)]
  ·simp only[VRs] at ha;obtain⟨X,l1,h1,hX,Y,l2,rfl,hY,rfl⟩:=ha;obtain rfl:args=#[X,Y]:=gF.1 h1;rw[<-hN] at hX;simp only[VR] at hX hY;obtain⟨lc,cc,off,g1,rfl,g2,_,g3,g4⟩:=hX;obtain⟨xs,ys,rfl,hxs,hys⟩:=hY;obtain rfl:xs=#[]:=gF.1 (by simpa[VRs] using hxs);obtain rfl:ys=#[]:=gF.1 (by simpa[VRs] using hys);obtain rfl:off=lc.base+o:=by omega
   obtain⟨cs,elem,fr,q1,q2,q3,q4,q5⟩:=hr.blk b _ lc hbk g1;obtain⟨V,v1,v2,v3,_⟩:=zW (P:=P) hr hbk g1 hm hA;have eV:=juy hd v1;subst eV;refine(c1 lc.blk (lc.base+o) N cc A A' w tA (by omega) hn6 g2 hd hA' hd' hl' (λj v hj=>⟨?_,?_⟩)).mono ?_
   ·have:=v3 j v hj;rwa[nZ] at this
   ·have hjn:j<N*z:=by rw[<-v2];exact(jG.1 hj).1
    have:=q4 (lc.base+o+j) (by omega) (λhf=>by rw[aP,eH] at hf;omega);simp only[World.frozen?,q1];simp only[vM,eH];omega
   ·rintro en w' ⟨rfl,w1,w2,w3,w4,w5,w6⟩;obtain⟨cs2,w7,w8,w9⟩:=w6 cs elem fr q1;have hp:VRs ρ A' (A'.map nU):=juz hd';have hpl:(A'.map nU).length=N*z:=by rw[dM];omega
    obtain⟨a1,a2,a3,a4,a5,cs',a6,a7,a8⟩:=Uy lc.blk (A'.map nU) (lc.base+o) w cs elem fr q1;have hcc:cs2=cs':=by
     apply Array.ext_getElem?;intro j;by_cases hj:j<cs.size
     ·rw[w9 j hj,a8 j hj]
     ·rw[Lf (by omega),Lf (by omega)]
    subst hcc;obtain⟨k1,k2⟩:=hr.write (nx:=nx) (.cells (put A' o c) m) lc hs g1 hrx a1 a2 a3 a4 a5 ⟨cs2,elem,fr,a6,q2,by omega,q4,λi hi=>by
     rw[mP,a8 _ (by omega)];by_cases hc:o<=i/\i<o+A'.length
     ·rw[aK hc,aK (by omega)];obtain⟨v2,h2,h3⟩:=hp.get (i:=i-o) (a:=A'[i-o]) (by rw[dK]);refine⟨_,v2,by rw[dK],?_,h3⟩;rw[show lc.base+i-(lc.base+o)=i-o by omega];exact h2
     ·rw[aD hc,aD (by omega)];exact q5 i hi⟩
    have hblk:lc.blk<w.heap.size:=(eJ.1 q1).1;have q:Quiet (w.setCells lc.blk (lc.base+o) (A'.map nU)) w':=⟨w1.trans a1.symm,w2.trans a2.symm,w3.trans a3.symm,by omega,λx hx=>by
     by_cases e:x=lc.blk
     ·rw[e,w7,a6]
     ·rw[w5 x (by omega) e,a5 x e]⟩
    exact⟨_,rfl,ρ,k2.trans q.step,q.hr k1,by simp[VR,VRs]⟩
 ·rename_i k2;obtain⟨e2,hk3⟩:=aR hk2;rw[aL,aH] at e2;clear hk2;subst e2;cases hk3;simp only[aG,aM] at hv;obtain⟨rfl,rfl,rfl⟩:=hv;refine⟨Syn.refl _ _ _,λρ w args hr hf hro hgl hwf ha=>⟨hfn,?_⟩⟩;simp only[VRs] at ha;obtain⟨X,l1,h1,hX,Y,l2,rfl,hY,rfl⟩:=ha;obtain rfl:args=#[X,Y]:=gF.1 h1;simp only[VR] at hX hY;obtain⟨xs,ys,rfl,hxs,hys⟩:=hY;obtain rfl:xs=#[]:=gF.1 (by simpa[VRs] using hxs);obtain rfl:ys=#[]:=gF.1 (by simpa[VRs] using hys);subst hX;refine(c0 _ _ w).mono ?_;rintro e w' ⟨rfl,rfl⟩;exact⟨_,rfl,ρ,Step.refl _ _ _ _ _,hr,by simp[VR,VRs]⟩
end W
end Go.Vm
