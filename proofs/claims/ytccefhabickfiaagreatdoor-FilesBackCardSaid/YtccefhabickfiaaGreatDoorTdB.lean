/-
  Words: a text is cut at its spaces, and put together pI.
  Files: strconv.Itoa and the definition's Decimal write a number's digits.
  Files: which texts are numbers, by the program and by the definition.
  Files: the chapter's examples, run by the kernel.
  Files: the check sequence by its definition; the law FilesSum.
  Segments, texts: all numbers. (Printed by a program.)
  Segments: texts of lines and of segments.
  Segments: texts of segments; the law SegmentsText.
  Segments: Parse; the law SegmentsText.
  Files: the law's number, and the numbers of a line.
  Files: the law's cut; lines.
  Files: what a file's lines say; the program's divide.
  Files: the definition reads the same lines (the loop).
  Files: the definition reads the same lines.
  Files: what is ahead of the end; lines that are wrong have a number.
  Segments: what the tables say; the units of a segment.
  Segments: the units of a segment, by the program and by the reference; the law SegmentsUnits.
  Segments: the reference's units; the law SegmentsUnits.
  Segments: patterns out of segments, by the program and by the reference.
  Segments: the program's Pattern and the reference's.
  Segments: the reference's Pattern.
  Segments: the units of all lines in order, and how they grow together.
  Segments: the reference walks along all lines.
  Segments: the program's segments are those of the walk.
  Segments: the names of units; which patterns are valid.
  Segments: the two checks of a pattern.
  Segments: what the segments of a pattern are made of.
  Segments: the law SegmentsPattern.
  Segments: the law SegmentsOf.
  Segments: the law SegmentsErrors.
  Files: Decode says what the definition says.
  Files: the segments of a valid pattern have texts.
  Files: a text's end; what Encode writes.
  Files: what Encode writes for a valid pattern.
  Files: Encode writes what the definition says.
  Files: a byte that is changed changes the check sequence.
  Files: what an accepted text looks like.
  Files: the lines of a file that is written.
  Files: a file that is written is read pI: its lines.
  Files: a file that is written is read pI.
  Files: Decode of a written file is the pattern.
  Files: a text with one byte changed does not end with its check sequence.
  Files: how long the pieces of a changed text are, and of a text that is cut.
  Files: a written file that is cut is not read.
  Files: a text that is accepted is a written file.
  Files: Mend.
  Files: the law FilesBack.
  Segments: the tables of all small sheets.
-/
import Derived.Test.YtccefhabickfiaaGreatDoorTb
import Derived.Test.YtccefhabickfiaaGreatDoorTg
import Derived.Test.YtccefhabickfiaaGreatDoorMS
set_option linter.unusedSimpArgs false
set_option linter.unusedVariables false
set_option linter.unusedSectionVars false
set_option linter.unnecessarySimpa false
namespace Go.Vm.X
open Go Go.Vm Go.Vm.W
noncomputable section
set_option maxRecDepth 100000
def jkq (N:Nat) (a:(Int×(Int×(List Int)))):Option Bool:=(rH N (a.1,(a.2.1,a.2.2))).bind λr1=>(zZ N (r1.1,(r1.2.1,r1.2.2))).bind λr2=>(gD N r2.1).bind λr3=>(nG N r2.1).bind λr4=>bif(decide (r2.2=0)) then((yZ N (r1.1,(r1.2.1,r1.2.2))).bind λr5=>bif(decide (r2.1=r5)) then(bif(decide (r3.2.2=0)) then(bif(decide (r3.2.1=0)) then((A1 N ((r3.1.1,(r3.1.2.1,r3.1.2.2)),(r1.1,(r1.2.1,r1.2.2)))).bind λr6=>bif(decide (r6=0)) then(bif(decide (((r3.1.2.2.length:Nat):Int)=((r3.1.2.2.length:Nat):Int))) then(bif(decide (r4.2=0)) then(bif(decide (r4.1=r2.1)) then((qD N ()).bind λr7=>some r7) else(some false)) else(some false)) else(some false)) else(some false)) else(some false)) else(some false)) else(some false)) else(some false)
abbrev jwn (N:Nat):TE:=⟨7,[(.d (.prod (.int .u8) (.prod (.int .u8) (.sl (.int .u8)))))],[(.d .bool)],jkq N⟩
theorem kh4:∀N a,eJ N (hnd N [Y3 N,G6 N,jhr N,jeh N,jhy N,jeg N,jhw N] [] 0) GG j6z.2 (jwn N).ins (jwn N).outs a=jkq N a:=λN a=>by kernel_rfl
end
end Go.Vm.X
namespace Go.Proofs.YtccefhabickfiaaGreatDoor
namespace Vm
open Go Go.Vm Go.Vm.W Go.Vm.X
noncomputable section
set_option maxRecDepth 100000
theorem kan (mx:Int):CK mx j6z:=⟨λ_=>rfl,by kernel_rfl⟩
theorem kj6 (mx:Int):OK mx 27 (jwn fuel):=dP (m:=26) (d:=0) (bR (bS (jgx mx) (bN rfl)) (bR (bS (jby mx) (bN rfl)) (bR (bS (jp2 mx) (bN rfl)) (bR (bS (jp3 mx) (bN rfl)) (bR (bS (ju2 mx) (bN rfl)) (bR (bS (juu mx) (bN rfl)) (bR (bS (ju0 mx) (bN rfl)) dK))))))) dJ (dH mx) (kan mx) (λa=>kh4 fuel a)
end
end Vm
end Go.Proofs.YtccefhabickfiaaGreatDoor
namespace Go.Proofs.YtccefhabickfiaaGreatDoor
open Go.ChangeShapes Go.WideShapes Go.ChangeAt Go.RowKit Go.Deep
namespace Vm
open Go Go.Vm Go.Vm.W Go.Vm.X
set_option maxRecDepth 100000
section
variable {H:Type} {enc:TypeId×Value->H} {W:World}
end
section
variable {H:Type} {enc:TypeId×Value->H} {W:World}
end
theorem kik {m:Nat} {f:FuncId} {run:iX [.d G5]->Option (iX [.d .bool])} (ho:∀mx,fU (BB mx) (told mx) prog m [⟨f,[.d G5],[.d .bool],run⟩]) {W:World} (hsh:W.ShapedOpen Tryz.prog) (hL:laidMetH Tryz.prog Rows.filesBackRow.laid W) {v0:Value} {l0:Vm.Loc} {L:List Int} {M:List AV} {a b:Int}
  (hrun:run (a,(b,L))=some true) (h0:∀A,eM (cT A (.int .u8)) L M) (k0:Z1 1 W v0 l0 L.length M):
  Calls Tryz.prog f #[.agg #[.int .u8 a,.int .u8 b,v0]] W λe W'=>e=.returned (.bool true)/\Below W.heap.size W W':=by
 obtain⟨mx,p1,p2,hR⟩:=start hsh hL [l0];have r0:uU W 9 [p2,p1,l0] 11=some l0:=rfl;obtain⟨HA,O0,u0,A0,q1,q2,q3,q4,q5,q6,q7,q8⟩:=jku (by decide) h0 rfl k0 r0 hR (jhk mx) (jhj mx) (show nx0<=11 by decide) (by decide) (by simp);refine je3 (t:=⟨f,[.d G5],[.d .bool],run⟩) (jim mx) mixed N8 (n:=m) (ho mx _ (cD.2 rfl) m (bV _)) rfl (a:=(a,(b,L))) hrun q3 (A:=A0) (λx hx=>.inl (q5 x hx)) (vs:=[.agg [.int .u8 a,.int .u8 b,u0]]) ?_ q1 jfi (jhb (show 9+3<=RO by decide)) q2 ?_
 ·exact⟨_,rfl,⟨_,rfl,rfl,⟨[_],[_,_],rfl,rfl,[_],[_],rfl,rfl,⟨_,rfl,q7⟩⟩,rfl⟩⟩
 ·simp only[VRs,VR];exact⟨_,_,rfl,⟨_,rfl,_,_,rfl,rfl,_,_,rfl,rfl,_,_,rfl,q8,rfl⟩,rfl⟩
section
variable {H:Type} {enc:TypeId×Value->H} {W:World}
end
end Vm
end Go.Proofs.YtccefhabickfiaaGreatDoor
namespace Go.Vm
namespace X
open W
def cW (c:UInt8):List UInt8->List (List UInt8)
 | []=>[[]]
 | b::l=>if b=c then []::cW c l else match cW c l with
   | w::ws=>(b::w)::ws
   | []=>[[b]]
theorem K5 {b c:UInt8} {l:List UInt8} (h:b≠c):Lib.index (b::l) [c]=if Lib.index l [c]== -1 then -1 else Lib.index l [c] +1:=by
 rw[Lib.index];have:([c]:List UInt8).isPrefixOf (b::l)=false:=by simp[List.isPrefixOf];exact λe=>h e.symm
 rw[this];simp
theorem K6 {c:UInt8} {l:List UInt8}:Lib.index (c::l) [c]=0:=by
 rw[Lib.index];simp[List.isPrefixOf]
theorem Q9 {b c:UInt8} {l:List UInt8} (h:b≠c):∀k,∃w ws,Lib.splitK [c] 0 k l=w::ws/\Lib.splitK [c] 0 k (b::l)=(b::w)::ws
 | 0=>⟨l,[],rfl,rfl⟩
 | k+1=>by
   unfold Lib.splitK;rw[K5 h];by_cases h1:Lib.index l [c]= -1
   ·simp only[h1];exact⟨l,[],by simp,by simp⟩
   ·have hge:=Lib.index_ge l [c];have e1:(Lib.index l [c]== -1)=false:=by simpa using h1
    have e2:(Lib.index l [c] +1== -1)=false:=by simp;omega
    simp only[e1,e2,lC,dR];obtain⟨j,hj⟩:=qe1 (show 0<=Lib.index l [c] by omega);rw[hj];refine⟨_,_,rfl,?_⟩;have e3:((j:Int)+1).toNat=j+1:=by omega
    simp only[e3,cK,nX,g9,dU,qfk]
theorem mI (c:UInt8):∀s:List UInt8,Lib.split s [c]=cW c s
 | []=>by
   unfold Lib.split;rw[Lib.count_one];rfl
 | b::l=>by
   have ih:=mI c l;unfold Lib.split at ih ⊢;by_cases h:b=c
   ·subst h;rw[Lib.count_cons_eq,l9];unfold Lib.splitK;rw[K6];simp only[cW,cM];rw[<-ih];simp
   ·rw[Lib.count_cons_ne _ _ _ h];obtain⟨w,ws,e1,e2⟩:=Q9 h (Lib.count l [c]);rw[e2];simp only[cW,h,dR];rw[<-ih,e1]
theorem tQ {c:UInt8}:∀s:List UInt8,cW c s≠[]
 | []=>by simp[cW]
 | b::l=>by
   unfold cW;split
   ·simp
   ·split<;>simp
theorem jd6 {c:UInt8} {r:List UInt8} {v:List UInt8} {vs:List (List UInt8)} (hr:cW c r=v::vs):∀ {w:List UInt8},c∉w->cW c (w++r)=(w++v)::vs
 | [],_=>hr
 | b::w,h=>by
   have hb:b≠c:=λe=>h (by rw[e];exact bH ..)
   rw[fN];unfold cW;rw[aF hb,jd6 hr (λhm=>h (bL _ hm))];rfl
theorem jly {c:UInt8}:∀ {w:List UInt8} {ws:List (List UInt8)},(∀x∈w::ws,c∉x)->cW c (Lib.join (w::ws) [c])=w::ws
 | w,[],h=>by
   rw[Lib.join_one];have:=jd6 (c:=c) (r:=[]) (v:=[]) (vs:=[]) rfl (h w (bH ..));simpa using this
 | w,w'::ws,h=>by
   have ih:=jly (c:=c) (w:=w') (ws:=ws) λx hx=>h x (bL _ hx)
   have e:Lib.join (w::w'::ws) [c]=w++(c::Lib.join (w'::ws) [c]):=by
    rw[Lib.join_cons,Lib.join_cons];simp[Lib.joinTail]
   rw[e];have:=jd6 (c:=c) (r:=c::Lib.join (w'::ws) [c]) (v:=[]) (vs:=cW c (Lib.join (w'::ws) [c])) (by rw[cW,aK rfl]) (h w (bH ..));rw[this,ih];simp
theorem nR {w:List Nat} (h:∀x∈w,x<256):(u8 w).map UInt8.toNat=w:=by
 unfold u8;rw[iQ];conv=>rhs;rw[<-sO w]
 refine kM λx hx=>?_
 have:=h x hx;simp[Function.comp,qfl,X2 this]
theorem nS (w:List UInt8):u8 (w.map UInt8.toNat)=w:=by
 unfold u8;rw[iQ];conv=>rhs;rw[<-sO w]
 exact kM λx hx=>by simp[Function.comp]
theorem jbo {w:List Nat} {ws:List (List Nat)} (h:∀x∈w::ws,(∀y∈x,y<256/\y≠32)):cB (iT (w::ws) [32]) [32]=w::ws:=by
 unfold iT cB;rw[nS,show u8 [32]=[32] from rfl,mI,dA,jly,<-dA (f:=u8),iQ]
 ·conv=>rhs;rw[<-sO (w::ws)]
  exact kM λx hx=>nR λy hy=>(h x hx y hy).1
 ·intro x hx hm;rw[<-dA] at hx;obtain⟨x',hx',rfl⟩:=bC.1 hx;obtain⟨y,hy,e⟩:=bC.1 hm;have:=h x' hx' y hy;have e2:y=32:=by
   have:=congrArg UInt8.toNat e;simpa[qfl,X2 (h x' hx' y hy).1] using this
  exact this.2 e2
theorem T6 {s:List Nat}:cB s [32]≠[]:=by
 unfold cB;rw[show u8 [32]=[32] from rfl,mI];intro h;exact tQ _ (qfm.1 h)
theorem wM {c:UInt8}:∀s:List UInt8,(cW c s).length<=s.length+1/\∀w∈cW c s,w.length<=s.length
 | []=>by simp[cW]
 | b::l=>by
   obtain⟨h1,h2⟩:=wM (c:=c) l;unfold cW;split
   ·refine⟨by simp;omega,λw hw=>?_⟩;rcases bJ.1 hw with rfl | hw
    ·simp
    ·have:=h2 w hw;simp;omega
   ·split
    ·rename_i w ws e;rw[e] at h1 h2;refine⟨by simp at h1 ⊢;omega,λx hx=>?_⟩;rcases bJ.1 hx with rfl | hx
     ·have:=h2 w (bH ..);simpa using this
     ·have:=h2 x (bL _ hx);simp;omega
    ·refine⟨by simp,λx hx=>?_⟩;rw[cD.1 hx];simp
theorem xU (s:List Nat):(cB s [32]).length<=s.length+1/\∀w∈cB s [32],w.length<=s.length:=by
 obtain⟨h1,h2⟩:=wM (c:=32) (u8 s);unfold cB;rw[show u8 [32]=[32] from rfl,mI];refine⟨by simpa[u8] using h1,λw hw=>?_⟩;obtain⟨w',hw',rfl⟩:=bC.1 hw;simpa[u8] using h2 w' hw'
end X
end Go.Vm
namespace Go.Vm
namespace X
open W
set_option maxRecDepth 100000
def aX:Nat->Nat->List Nat
 | 0,_=>[]
 | k+1,u=>bif u.blt 10 then [48+u] else aX k (u / 10)++[48+u%10]
def bM (n:Int):List Nat:=aX 20 n.toNat
theorem vJ (a b:Nat):a.blt b=decide (a<b):=by
 simp only[Nat.blt,bE];rfl
theorem lQ:∀(k u:Nat),u<10^k->k≠0->aX k u=(Lib.decDigits u).map UInt8.toNat
 | 0,u,_,h=>absurd rfl h
 | k+1,u,h,_=>by
   unfold aX;rw[Lib.decDigits,vJ];by_cases g:u<10
   ·rw[bD g,dif_pos g];simp;omega
   ·rw[kN g,dif_neg g];have hk:k≠0:=by
     intro e;subst e;simp at h;omega
    simp only[aJ,eI,dA,lM];rw[lQ k (u / 10) (by rw[oH] at h;omega) hk]
    congr 2
    simp;omega
theorem gJ:∀(k u:Nat),(aX k u).length<=k
 | 0,u=>by simp[aX]
 | k+1,u=>by
   unfold aX;cases h:u.blt 10 with
   | true=>simp
   | false=>have:=gJ k (u / 10);simp;omega
theorem mY (n:Int):IntKind.u8.wrap n=n%256:=by simp[IntKind.wrap,IntKind.bits,IntKind.signed]
theorem T5 {v:Int} (h1:0<=v) (h2:v<=9223372036854775807):IntKind.i64.wrap v=v:=jdd (aG (by omega) (by omega))
theorem uZ:∀(k u:Nat),u<10^k->u<9223372036854775800->k≠0->k<=1000->yV fuel k (u:Int)=some (aX k u)
 | 0,u,_,_,h,_=>absurd rfl h
 | k+1,u,h,hu,_,hk1=>by
   apply Ret.eq;show Ret (m6 fuel (yV fuel k) (u:Int)) _;unfold m6 aX;rw[vJ];refine aD (λg=>absurd g (by omega)) λ_=>aD (λg=>?_) λg=>?_
   ·rw[bD (show u<10 by omega)];rw[mY,show(48+ (u:Int))%256=((48+u:Nat):Int) by omega];refine aA (aG (by omega) (by omega)) (aA (by simp;omega) (aS (by simp;omega)))
   ·rw[kN (show ¬u<10 by omega)];have hk:k≠0:=by
     intro e;subst e;simp at h;omega
    have e1:(u:Int) / 10=((u / 10:Nat):Int):=by omega
    have e2:(48+ (u:Int)%10)%256=((48+u%10:Nat):Int):=by omega
    rw[mY,e2,e1,T5 (by omega) (by omega),uZ k (u / 10) (by rw[oH] at h;omega) (by omega) hk (by omega),aC];have hl:=gJ k (u / 10);refine aA (by simp) (aA (by simp) (aA (aG (by omega) (by omega)) (aA (by simp;omega) (aA (by simp;omega) (aS ?_)))));simp;omega
theorem J5 {k j u:Nat} (h:u<10^k) (hk:k≠0) (hj:k<=j):aX j u=aX k u:=by
 rw[lQ k u h hk,lQ j u (nK h (mN (by decide) hj)) (by omega)]
theorem oD {n:Int} (h0:0<=n) (h1:n<1000000000000000):mB fuel n=some (bM n):=by
 unfold mB bM
 have h2:n.toNat<10^20:=by have:(10:Nat)^20=100000000000000000000:=(by decide);omega
 have:=uZ 22 n.toNat (nK h2 (by decide)) (by omega) (by decide) (by decide);rw[show((n.toNat:Nat):Int)=n by omega] at this;rw[this,J5 h2 (by decide) (by decide)]
theorem T1 (n:Int):IntKind.u32.wrap n=n%4294967296:=by simp[IntKind.wrap,IntKind.bits,IntKind.signed]
theorem T3 (n:Int):IntKind.u64.wrap n=n%18446744073709551616:=by simp[IntKind.wrap,IntKind.bits,IntKind.signed]
theorem S8 {m:Nat} (h:m<100):eK.getD (2*m) 0=48+m / 10/\eK.getD (2*m+1) 0=48+m%10:=by
 have:(List.range 100).all (λm=>(eK.getD (2*m) 0).beq (48+m / 10)&&(eK.getD (2*m+1) 0).beq (48+m%10))=true:=by kernel_rfl
 have:=cI.1 this m (eZ.2 h);simpa[bQ] using this
def Buf (l:List Int):Prop:=l.length=24/\∀x∈l,0<=x/\x<=255
theorem Buf.set {l:List Int} {i:Nat} {v:Int} (h:Buf l) (h1:0<=v) (h2:v<=255):Buf (l.set i v):=by
 refine⟨by rw[rP];exact h.1,λx hx=>?_⟩;rcases N9 hx with h3 | h3
 ·exact h.2 x h3
 ·rw[h3];exact⟨h1,h2⟩
theorem Buf.all {l:List Int} (h:Buf l) (m o:Nat):((List.take m (List.drop o l)).all λx=>decide (0<=x)&&decide (x<=255))=true:=by
 rw[cI];intro x hx;have:=h.2 x (rM (wE hx));simpa using this
structure DigInv (n d:Nat) (i:Int) (L:List Int):Prop where
 buf:Buf L
 dg:∀k:Nat,i<=k->k<d->L[1+k]?=some ((48+n / 10^ (d-1-k)%10:Nat):Int)
theorem qW {L:List Int} {i j:Nat} {v:Int} (hi:i<L.length):(L.set i v)[j]?=if i=j then some v else L[j]?:=by
 rw[O6];by_cases h:i=j
 ·subst h;simp[hi]
 ·simp[h]
theorem DigInv.two {n d:Nat} {i j1 j2 a b:Int} {L:List Int} (h:DigInv n d i L) (hd:d<=20) (hi:2<=i) (hid:i<=d) (e1:j1=i-1) (e2:j2=i-2)
  (ha:a=2* ((n / 10^ (d-i.toNat):Nat):Int)%200+1) (hb:b=2* ((n / 10^ (d-i.toNat):Nat):Int)%200):
  DigInv n d j2 ((L.set (1+j1.toNat) ((eK.getD a.toNat 0:Nat):Int)).set (1+j2.toNat) ((eK.getD b.toNat 0:Nat):Int)):=by
 obtain⟨v,hv⟩:∃v,v=n / 10^ (d-i.toNat):=⟨_,rfl⟩
 rw[<-hv] at ha hb;have ea:a.toNat=2* (v%100)+1:=by omega
 have eb:b.toNat=2* (v%100):=by omega
 obtain⟨t1,t2⟩:=S8 (m:=v%100) (by omega);rw[ea,eb,t1,t2];have hL:=h.buf.1;refine⟨(h.buf.set (by omega) (by omega)).set (by omega) (by omega),λk k1 k2=>?_⟩;rw[qW (by rw[rP];omega),qW (by omega)];by_cases g2:1+j2.toNat=1+k
 ·rw[aK g2];have e3:d-1-k=(d-i.toNat)+1:=by omega
  rw[e3,oH,<-F5,<-hv]
  congr 2
  omega
 ·rw[aF g2];by_cases g1:1+j1.toNat=1+k
  ·rw[aK g1];have e3:d-1-k=d-i.toNat:=by omega
   rw[e3,<-hv]
   congr 2
   omega
  ·rw[aF g1];exact h.dg k (by omega) k2
theorem DigInv.one {n d:Nat} {v:Int} {L:List Int} (h:DigInv n d 1 L) (hd:1<=d) (hn:n<10^d) (hv:v=48+ ((n / 10^ (d-1):Nat):Int)):DigInv n d 0 (L.set 1 v):=by
 have hL:=h.buf.1;have hq:n / 10^ (d-1)<10:=by
  rw[z8 (G1 (by decide))];rw[qgv,<-oH,show(d-1).succ=d by omega];exact hn
 obtain⟨q,hq0⟩:∃q:Nat,q=n / 10^ (d-1):=⟨_,rfl⟩
 rw[<-hq0] at hv hq;refine⟨h.buf.set (by omega) (by omega),λk k1 k2=>?_⟩;rw[qW (by omega)];by_cases g:1=1+k
 ·rw[aK g];have:k=0:=by omega
  subst this;rw[hv,sN,<-hq0]
  congr 1
  omega
 ·rw[aF g];exact h.dg k (by omega) k2
theorem DigInv.out {n d:Nat} {L:List Int} (h:DigInv n d 0 L) (hd:d<=20) (e:Lib.nDigits n=d) (hn:n<10^20):(List.take ((1+ (d:Int)).toNat-1) (List.drop 1 L)).map Int.toNat=aX 20 n:=by
 rw[lQ 20 n hn (by decide),Lib.decDigits_eq,e,show(1+ (d:Int)).toNat-1=d by omega];have hL:=h.buf.1;refine O8 (by simp;omega) λk k1 k2=>?_
 have hk:k<d:=by simpa using k2
 have h1:=h.dg k (by omega) hk;obtain⟨h2,h3⟩:=oM.1 h1;simp only[O9,qgq,pO,pQ];rw[h3,Lib.dg];obtain⟨q,hq0⟩:∃q:Nat,q=n / 10^ (d-1-k):=⟨_,rfl⟩
 rw[<-hq0,cK,qge];omega
theorem M5 {u:Nat} (h1:1<=u) (h2:u<18446744073709551616):xF fuel (u:Int)=some ((Lib.nDigits u:Nat):Int):=by
 apply Ret.eq;unfold xF;have e1:c8 fuel (u:Int)=some ((Lib.bitLen u:Nat):Int):=by
  unfold c8 jbq;rw[bD (by omega)];rfl
 have b1:=Lib.bitLen_le u 64 (bV _) (by omega);obtain⟨d1,d2⟩:=Lib.numDigits_eq u h1 h2;rw[e1,aC];have e2:b9 fuel ((Lib.bitLen u:Nat):Int)=some ((Lib.l10 (Lib.bitLen u):Nat):Int):=by
  unfold b9 jbt;rw[bD (by omega)];rfl
 rw[e2,aC];generalize Lib.l10 (Lib.bitLen u)=q at d1 d2 ⊢;have hp:yQ.getD ((q:Int)).toNat 0=((10^q:Nat):Int):=by
  have:(List.range 20).all (λq=>decide (yQ.getD q 0=((10^q:Nat):Int)))=true:=by kernel_rfl
  have:=cI.1 this q (eZ.2 (by omega));simpa using this
 rw[hp];refine aA (aV (by omega) (by omega)) (aD (λg=>?_) λg=>?_)
 ·rw[aK (by omega)] at d1;exact aA (aG (by omega) (by omega)) (aS (by omega))
 ·rw[aF (by omega)] at d1;exact aA (aG (by omega) (by omega)) (aS (by omega))
theorem jC {u d:Nat} {i j:Int} (h:2<=i) (hd:i<=d) (e:j=i-2):u / 10^ (d-j.toNat)=u / 10^ (d-i.toNat) / 100:=by
 rw[show d-j.toNat=(d-i.toNat)+2 by omega,G2,<-F5]
theorem wA {u d:Nat} {i:Int} (h:u<10^d) (h0:0<=i) (hi:i<=d):u / 10^ (d-i.toNat)<10^i.toNat:=by
 rw[z8 (G1 (by decide)),<-G2,show i.toNat+ (d-i.toNat)=d by omega];exact h
theorem H6:(List.range 100).all (λk=>match eX fuel (k:Int) with
 | some l=>decide (l=aX 20 k)
 | none=>false)=true:=by kernel_rfl
theorem mJ {n:Int} (h0:0<=n) (h1:n<9223372036854775808):eX fuel n=some (bM n):=by
 by_cases hs:n<100
 ·have:=cI.1 H6 n.toNat (eZ.2 (by omega));rw[show((n.toNat:Nat):Int)=n by omega] at this;split at this
  ·rename_i l e;rw[e];unfold bM
   congr 1
   exact of_decide_eq_true this
  ·cases this
 obtain⟨u,rfl⟩:∃u:Nat,n=(u:Int):=⟨n.toNat,by omega⟩
 have hdn:bM (u:Int)=aX 20 u:=rfl;apply Ret.eq;unfold eX;simp only[T1,T3,mY];refine aD (λ_=>aD (λg=>absurd g hs) λ_=>?_) λg=>absurd h0 g
 refine oQ (λx=>x=(u:Int)) (λx1 hx=>?_) λj hj=>aD (λg=>absurd g (by omega)) λ_=>hj _ (by omega)
 subst hx;rw[M5 (by omega) (by omega),aC];obtain⟨d,hd⟩:∃d,d=Lib.nDigits u:=⟨_,rfl⟩
 have hu:=Lib.lt_pow_nDigits u;obtain⟨d1,d2⟩:=Lib.numDigits_eq u (by omega) (by omega);have hd20:d<=20:=by
  rw[<-hd] at d1;split at d1<;>omega
 rw[<-hd] at hu ⊢;have out:∀ {L:List Int},DigInv u d 0 L->Ret (aB ((List.take ((1+ (d:Int)).toNat-1) (List.drop 1 L)).all λx=>decide (0<=x)&&decide (x<=255)) (some ((List.take ((1+ (d:Int)).toNat-1) (List.drop 1 L)).map Int.toNat))) λx=>x=bM (u:Int):=λh=>
  aA (h.buf.all _ _) (aS (by rw[h.out hd20 hd.symm (by have:(10:Nat)^20=100000000000000000000:=(by decide);omega)];rfl))
 refine aA (aG (by omega) (by omega)) (aA (cN.2 ⟨by omega,by omega,by omega⟩) ?_);refine cS (Inv:=λx:Int×(Int×(List Int))=>0<=x.2.1/\x.2.1<=d/\x.1=((u / 10^ (d-x.2.1.toNat):Nat):Int)/\DigInv u d x.2.1 x.2.2) (m:=λx=>x.2.1.toNat) ?_ _ _ ⟨by simp only;omega,by simp only;omega,by
  simp only;rw[show d-(((1+ (d:Int)).toNat-1:Nat):Int).toNat=0 by omega,qhs,qhr],⟨by simp[Buf],λk k1 k2=>absurd k1 (by simp only;omega)⟩⟩ (by simp only[fuel];omega)
 rintro ⟨x,i,L⟩ rec ⟨i1,i2,i3,i4⟩ ih;simp only at i1 i2 i3 i4 ⊢;have hlt:=wA hu i1 i2;obtain⟨v,hv⟩:∃v,v=u / 10^ (d-i.toNat):=⟨_,rfl⟩
 have hvu:v<=u:=by rw[hv];exact qg7 _ _
 rw[<-hv] at i3 hlt;subst i3;refine aD (λh8=>?_) λh8=>?_
 ·have p2:=jC (u:=u) (d:=d) (j:=i-2) (by omega) i2 rfl;have p4:=jC (u:=u) (d:=d) (j:=i-4) (i:=i-2) (by omega) (by omega) (by omega);have p6:=jC (u:=u) (d:=d) (j:=i-6) (i:=i-4) (by omega) (by omega) (by omega);have p8:=jC (u:=u) (d:=d) (j:=i-8) (i:=i-6) (by omega) (by omega) (by omega);rw[<-hv] at p2;rw[p2] at p4;rw[p4] at p6;rw[p6] at p8;repeat (refine aA (by first | exact aG (by omega) (by omega) | exact aV (by omega) (by omega) | exact cN.2 ⟨by omega,by omega,by omega⟩ | (simp only[aW,aQ];omega)) ?_)
  refine ih _ ⟨by simp only;omega,by simp only;omega,by simp only;rw[p8];omega,?_⟩ (by simp only;omega);simp only;have q2:=i4.two hd20 (by omega) i2 (j1:=i-1) (j2:=i-2) rfl rfl (a:=((((v:Int)%100000000%4294967296%10000%100*2)%4294967296+1)%4294967296)) (b:=((v:Int)%100000000%4294967296%10000%100*2)%4294967296) (by rw[<-hv];omega) (by rw[<-hv];omega);have q4:=q2.two hd20 (by omega) (by omega) (j1:=i-3) (j2:=i-4) (by omega) (by omega) (a:=((((v:Int)%100000000%4294967296%10000 / 100*2)%4294967296+1)%4294967296)) (b:=((v:Int)%100000000%4294967296%10000 / 100*2)%4294967296) (by rw[p2];omega) (by rw[p2];omega);have q6:=q4.two hd20 (by omega) (by omega) (j1:=i-5) (j2:=i-6) (by omega) (by omega) (a:=((((v:Int)%100000000%4294967296 / 10000%100*2)%4294967296+1)%4294967296)) (b:=((v:Int)%100000000%4294967296 / 10000%100*2)%4294967296) (by rw[p4];omega) (by rw[p4];omega);exact q6.two hd20 (by omega) (by omega) (j1:=i-7) (j2:=i-8) (by omega) (by omega) (a:=((((v:Int)%100000000%4294967296 / 10000 / 100*2)%4294967296+1)%4294967296)) (b:=((v:Int)%100000000%4294967296 / 10000 / 100*2)%4294967296) (by rw[p6];omega) (by rw[p6];omega)
 ·clear ih;have h7:10^i.toNat<=10^7:=mN (by decide) (by omega);have h7':(10:Nat)^7=10000000:=by decide
  refine oQ (λx=>0<=x.1/\x.1<=3/\x.1<=d/\x.2.1=((u / 10^ (d-x.1.toNat):Nat):Int)/\DigInv u d x.1 x.2.2) (λx4 hx4=>?_) λj hj=>?_
  ·obtain⟨i',u',L'⟩:=x4;obtain⟨k1,k2,k3,k4,k5⟩:=hx4;simp only at k1 k2 k3 k4 k5 ⊢;have hl':=wA hu k1 k3;obtain⟨v',hv'⟩:∃v,v=u / 10^ (d-i'.toNat):=⟨_,rfl⟩
   rw[<-hv'] at k4 hl';subst k4;refine aD (λh2=>?_) λh2=>?_
   ·have b3:10^i'.toNat<=10^3:=mN (by decide) (by omega);have b3':(10:Nat)^3=1000:=by decide
    have p2:=jC (u:=u) (d:=d) (j:=i'-2) h2 k3 rfl;rw[<-hv'] at p2;have q2:=k5.two hd20 h2 k3 (j1:=i'-1) (j2:=i'-2) rfl rfl (a:=((((v':Int)%100*2)%4294967296+1)%4294967296)) (b:=((v':Int)%100*2)%4294967296) (by rw[<-hv'];omega) (by rw[<-hv'];omega);repeat (refine aA (by first | exact aG (by omega) (by omega) | exact aV (by omega) (by omega) | exact cN.2 ⟨by omega,by omega,by omega⟩ | (simp only[aW,aQ];omega)) ?_)
    refine aD (λh3=>?_) λh3=>?_
    ·have e3:i'=3:=by omega
     subst e3;have q3:=DigInv.one (v:=(48+ (v':Int) / 100)%4294967296%256) q2 (by omega) hu (by
      rw[show d-1=d-((3:Int)-2).toNat by omega,p2];omega)
     repeat (refine aA (by first | exact aG (by omega) (by omega) | exact aV (by omega) (by omega) | exact cN.2 ⟨by omega,by omega,by omega⟩ | (simp only[aW,aQ];omega)) ?_)
     try (refine aD (λg=>absurd g (by omega)) λ_=>?_)
     repeat (refine aA (by first | exact aG (by omega) (by omega) | exact aV (by omega) (by omega) | exact cN.2 ⟨by omega,by omega,by omega⟩ | (simp only[aW,aQ];omega)) ?_)
     exact out q3
    ·have e3:i'=2:=by omega
     subst e3;try (refine aD (λg=>absurd g (by omega)) λ_=>?_)
     repeat (refine aA (by first | exact aG (by omega) (by omega) | exact aV (by omega) (by omega) | exact cN.2 ⟨by omega,by omega,by omega⟩ | (simp only[aW,aQ];omega)) ?_)
     exact out q2
   ·refine aD (λh3=>?_) λh3=>?_
    ·have e3:i'=1:=by omega
     subst e3;have hv9:v'<10:=by simpa using hl'
     have q3:=DigInv.one (v:=(48+ (v':Int))%4294967296%256) k5 (by omega) hu (by
      rw[show d-1=d-(1:Int).toNat by omega,<-hv'];omega)
     repeat (refine aA (by first | exact aG (by omega) (by omega) | exact aV (by omega) (by omega) | exact cN.2 ⟨by omega,by omega,by omega⟩ | (simp only[aW,aQ];omega)) ?_)
     try (refine aD (λg=>absurd g (by omega)) λ_=>?_)
     repeat (refine aA (by first | exact aG (by omega) (by omega) | exact aV (by omega) (by omega) | exact cN.2 ⟨by omega,by omega,by omega⟩ | (simp only[aW,aQ];omega)) ?_)
     exact out q3
    ·have e3:i'=0:=by omega
     subst e3;try (refine aD (λg=>absurd g (by omega)) λ_=>?_)
     repeat (refine aA (by first | exact aG (by omega) (by omega) | exact aV (by omega) (by omega) | exact cN.2 ⟨by omega,by omega,by omega⟩ | (simp only[aW,aQ];omega)) ?_)
     exact out k5
  ·refine aD (λh4=>?_) λh4=>?_
   ·have p2:=jC (u:=u) (d:=d) (j:=i-2) (by omega) i2 rfl;have p4:=jC (u:=u) (d:=d) (j:=i-4) (i:=i-2) (by omega) (by omega) (by omega);rw[<-hv] at p2;rw[p2] at p4;repeat (refine aA (by first | exact aG (by omega) (by omega) | exact aV (by omega) (by omega) | exact cN.2 ⟨by omega,by omega,by omega⟩ | (simp only[aW,aQ];omega)) ?_)
    refine hj _ ⟨by simp only;omega,by simp only;omega,by simp only;omega,by simp only;rw[p4];omega,?_⟩;have q2:=i4.two hd20 (by omega) i2 (j1:=i-1) (j2:=i-2) rfl rfl (a:=((((v:Int)%4294967296%10000%100*2)%4294967296+1)%4294967296)) (b:=((v:Int)%4294967296%10000%100*2)%4294967296) (by rw[<-hv];omega) (by rw[<-hv];omega);exact q2.two hd20 (by omega) (by omega) (j1:=i-3) (j2:=i-4) (by omega) (by omega) (a:=((((v:Int)%4294967296%10000 / 100*2)%4294967296+1)%4294967296)) (b:=((v:Int)%4294967296%10000 / 100*2)%4294967296) (by rw[p2];omega) (by rw[p2];omega)
   ·refine hj _ ⟨i1,by simp only;omega,i2,by simp only;rw[<-hv];omega,i4⟩
end X
end Go.Vm
namespace Go.Vm
namespace X
open W
theorem vL:∀(u:Nat),∀c∈Lib.decDigits u,48<=c.toNat/\c.toNat<=57:=by
 intro u;induction u using Nat.strongRecOn with
 | _ u ih=>
   intro c hc;rw[Lib.decDigits] at hc;split at hc
   ·simp at hc;subst hc;simp;omega
   ·rcases bU.1 hc with h | h
    ·exact ih (u / 10) (by omega) c h
    ·simp at h;subst h;simp;omega
theorem J6 (u:Nat):Lib.decDigits u≠[]:=by
 rw[Lib.decDigits];split<;>simp
theorem vY:∀(l:List UInt8) (acc v:Nat) (c:UInt8),Lib.parseUint10 acc l=.ok v->48<=c.toNat/\c.toNat<=57->v<1844674407370955162->v*10+ (c.toNat-48)<18446744073709551616->Lib.parseUint10 acc (l++[c])=.ok (v*10+ (c.toNat-48))
 | [],acc,v,c,h,hc,h1,h2=>by
   simp only[Lib.parseUint10] at h;injection h with h;subst h;simp only[fB,Lib.parseUint10];rw[aK hc,aF (by omega),aF (by omega)]
 | b::l,acc,v,c,h,hc,h1,h2=>by
   simp only[fN,Lib.parseUint10] at h ⊢;split at h
   ·rename_i g1;split at h
    ·cases h
    ·rename_i g2;split at h
     ·cases h
     ·rename_i g3;rw[aK g1,aF g2,aF g3];exact vY l _ v c h hc h1 h2
   ·cases h
theorem N6:∀(u:Nat),u<9223372036854775808->Lib.parseUint10 0 (Lib.decDigits u)=.ok u:=by
 intro u;induction u using Nat.strongRecOn with
 | _ u ih=>
   intro hu;rw[Lib.decDigits];split
   ·rename_i g;simp only[Lib.parseUint10];have e:(UInt8.ofNat (48+u)).toNat=48+u:=by simp;omega
    rw[e,aK (by omega),aF (by omega),aF (by omega)]
    congr 1;omega
   ·have e:(UInt8.ofNat (48+u%10)).toNat=48+u%10:=by simp;omega
    have:=vY (Lib.decDigits (u / 10)) 0 (u / 10) (UInt8.ofNat (48+u%10)) (ih (u / 10) (by omega) (by omega)) (by rw[e];omega) (by omega) (by rw[e];omega);rw[this,e]
    congr 1;omega
theorem pX {u:Nat} (hu:u<9223372036854775808):Lib.atoiAll (Lib.decDigits u)=.ok (u:Int):=by
 have h1:=N6 u hu;have h2:=vL u;have h3:=J6 u;generalize Lib.decDigits u=l at h1 h2 h3 ⊢
 match l,h3 with
 | c::r,_=>
   have hc:=h2 c bH;unfold Lib.atoiAll;simp only;rw[aF (by omega)];have hp:Lib.parseMag (c::r)=.ok u:=by
    unfold Lib.parseMag;rw[aF (by simp)];exact h1
   rw[hp];simp only;rw[aF (by omega),aF (by omega),aF (by omega)]
theorem jY {u:Nat} (hu:u<9223372036854775808):aX 20 u=(Lib.decDigits u).map UInt8.toNat:=
 lQ 20 u (by have:(10:Nat)^20=100000000000000000000:=(by decide);omega) (by decide)
theorem xA {u v:Nat} (hu:u<9223372036854775808) (hv:v<9223372036854775808) (h:aX 20 u=aX 20 v):u=v:=by
 rw[jY hu,jY hv] at h;have h1:=congrArg u8 h;rw[nS,nS] at h1;have h2:=pX hu;rw[h1,pX hv] at h2;injection h2 with h2;omega
theorem lK {u:Nat} (hu:u<9223372036854775808):∀c∈aX 20 u,48<=c/\c<=57:=by
 rw[jY hu];intro c hc;obtain⟨b,hb,rfl⟩:=bC.1 hc;exact vL u b hb
theorem J4 {u:Nat} (hu:u<9223372036854775808) (h:(aX 20 u).length<=9):u<1000000000:=by
 rw[jY hu,cY,Lib.decDigits_length] at h;have h1:=Lib.lt_pow_nDigits u;have h2:(10:Nat)^Lib.nDigits u<=10^9:=mN (by decide) h;have h3:(10:Nat)^9=1000000000:=by decide
 omega
open Classical in
noncomputable def eG (s:List Nat):Option Nat:=if h:∃u:Nat,s=aX 20 u/\u<1000000000/\s.length<=9 then some h.choose else none
theorem kK {s:List Nat} {u:Nat}:eG s=some u↔s=aX 20 u/\u<1000000000/\s.length<=9:=by
 unfold eG;constructor
 ·intro h;split at h
  ·rename_i g;have:=g.choose_spec;cases h;exact this
  ·cases h
 ·rintro ⟨h1,h2,h3⟩;have g:∃u:Nat,s=aX 20 u/\u<1000000000/\s.length<=9:=⟨u,h1,h2,h3⟩
  rw[dif_pos g];have h4:=g.choose_spec
  congr 1
  exact xA (by omega) (by omega) (h4.1.symm.trans h1)
theorem oL {s:List Nat} (h:∀u,s=aX 20 u->u<1000000000->s.length<=9->False):eG s=none:=by
 cases e:eG s with
 | none=>rfl
 | some u=>obtain⟨h1,h2,h3⟩:=kK.1 e;exact absurd (h u h1 h2 h3) id
theorem M8 {s:List Nat} (hl:s.length<=1000000) (hb:∀x∈s,x<256):
  (∃u:Nat,eG s=some u/\u<1000000000/\jN fuel s=some ((u:Int),true)/\s.length<=9/\eX fuel (u:Int)=some s)\/
  (eG s=none/\∃r,jN fuel s=some r/\(r.2=false\/r.1<0\/9<s.length\/(0<=r.1/\∃t,eX fuel r.1=some t/\t≠s))):=by
 have ha:jN fuel s=sW s:=rfl;rw[ha];unfold sW;rw[bE,bD hl,aH];by_cases h9:s.length<=9
 ·cases e:eG s with
  | some u=>
    obtain⟨h1,h2,h3⟩:=kK.1 e;have e2:u8 s=Lib.decDigits u:=by rw[h1,jY (by omega),nS]
    refine .inl ⟨u,rfl,h2,?_,h9,?_⟩
    ·rw[e2,pX (by omega)]
    ·rw[mJ (by omega) (by omega),h1];rfl
  | none=>
    refine .inr ⟨rfl,?_⟩;cases ea:Lib.atoiAll (u8 s) with
    | «syntax»=>exact⟨_,rfl,.inl rfl⟩
    | range=>exact⟨_,rfl,.inl rfl⟩
    | ok v=>
      refine⟨_,rfl,?_⟩;by_cases hv:v<0
      ·exact .inr (.inl hv)
      ·have hb2:=Lib.atoiAll_bounds ea;refine .inr (.inr (.inr ⟨by simp only;omega,_,mJ (by simp only;omega) (by simp only;omega),λg=>?_⟩));have h1:s=aX 20 v.toNat:=g.symm;have h2:=J4 (u:=v.toNat) (by omega) (by rw[<-h1];exact h9);rw[kK.2 ⟨h1,h2,h9⟩] at e;cases e
 ·refine .inr ⟨oL λu _ _ h=>absurd h h9,?_⟩;cases ea:Lib.atoiAll (u8 s) with
  | «syntax»=>exact⟨_,rfl,.inl rfl⟩
  | range=>exact⟨_,rfl,.inl rfl⟩
  | ok v=>exact⟨_,rfl,.inr (.inr (.inl (by omega)))⟩
end X
end Go.Vm
namespace Go.Vm
namespace X
open W
theorem L7:qD fuel ()=some true:=by kernel_rfl
end X
end Go.Vm
namespace Go.Vm
namespace X
open W Go.RowKit
theorem tE {s:List Nat} {i:Nat} (h:i<s.length):s.getD ((i:Int)).toNat 0=s[i]:=by
 simp[List.getD,dE h]
theorem zA {s:List Nat} (hl:s.length<=1000000000) (hb:∀x∈s,x<256):pS fuel s=some (cR s):=by
 apply Ret.eq;unfold pS;refine cS (λp:Int×Int=>∃i:Nat,i<=s.length/\(s.take i).foldl (zC s.length) (17,0)=p/\p.2=i/\0<=p.1/\p.1<65521) (λp=>s.length-p.2.toNat) ?_ fuel (17,0) ⟨0,eW _,rfl,rfl,by decide,by decide⟩ (by simp only[fuel];omega);rintro ⟨n,i'⟩ rec ⟨i,hi,hf,e,h0,h1⟩ ih;simp only at e h0 h1 ⊢;subst e;refine aD (λhlt=>?_) λhge=>aS ?_
 ·have hlt:i<s.length:=by omega
  rw[tE hlt];have hx:=hb _ (bX hlt);obtain⟨c,hc⟩:∃c:Nat,c=s[i] * (17+s.length-i):=⟨_,rfl⟩
  have e1:((s[i]:Nat):Int)* (17+ (s.length:Int)-(i:Int))=(c:Int):=by
   rw[hc,nW]
   congr 1
   omega
  have hcb:c<=255*1000000017:=by
   rw[hc];exact gL (by omega) (by omega)
  rw[e1];refine aA (aG (by omega) (by omega)) (aA (aV (by omega) (by omega)) (aA (aG (by omega) (by omega)) (aA (aG (by omega) (by omega)) (aA (aG (by omega) (by omega)) (aA (aG (by omega) (by omega)) (aA (aG (by omega) (by omega)) (aA (by simp;omega) (aA (aG (by omega) (by omega)) ?_))))))));refine ih _ ⟨i+1,hlt,?_,by simp,by simp only;omega,by simp only;omega⟩ (by simp only;omega);rw[uS,dE hlt,jU,O7,hf];simp only[O1,qhg,zC];rw[e1]
 ·have:i=s.length:=by omega
  subst this;rw[iL] at hf;rw[jho,hf];omega
theorem xP {s:List Nat} (hl:s.length<=1000000000):sC s=some (cR s):=by
 unfold sC;rw[bE,bD hl];rfl
theorem u5:Ret ((qD fuel ()).bind λr=>some r) λx=>x=true:=by rw[L7];exact aS rfl
end X
end Go.Vm
namespace Go.Vm
namespace X
open W
theorem bT {a:Int} {m:Nat} (h:((List.range m).all λk=>iC ((k:Int)+a))=true) {n:Int} (h1:a<=n) (h2:n<a+m):iC n=true:=by
 have:=cI.1 h (n-a).toNat (eZ.2 (by omega));rw[show(((n-a).toNat:Nat):Int)+a=n by omega] at this;exact this
theorem M7 {n:Int} (h1: -4096<=n) (h2:n<=4096):iC n=true:=by
 by_cases g1_0:n < -3840
 ·exact bT jf1 (by omega) (by omega)
 by_cases g1_1:n < -3584
 ·exact bT jf2 (by omega) (by omega)
 by_cases g1_2:n < -3328
 ·exact bT jf3 (by omega) (by omega)
 by_cases g1_3:n < -3072
 ·exact bT jf4 (by omega) (by omega)
 by_cases g1_4:n < -2816
 ·exact bT jf5 (by omega) (by omega)
 by_cases g1_5:n < -2560
 ·exact bT jf6 (by omega) (by omega)
 by_cases g1_6:n < -2304
 ·exact bT jf7 (by omega) (by omega)
 by_cases g1_7:n < -2047
 ·exact bT jf8 (by omega) (by omega)
 by_cases g2_0:n < -1791
 ·exact bT jf9 (by omega) (by omega)
 by_cases g2_1:n < -1535
 ·exact bT jga (by omega) (by omega)
 by_cases g2_2:n < -1279
 ·exact bT jgb (by omega) (by omega)
 by_cases g2_3:n < -1023
 ·exact bT jgc (by omega) (by omega)
 by_cases g2_4:n < -767
 ·exact bT jgd (by omega) (by omega)
 by_cases g2_5:n < -511
 ·exact bT jge (by omega) (by omega)
 by_cases g2_6:n < -255
 ·exact bT jgf (by omega) (by omega)
 by_cases g2_7:n<1
 ·exact bT jgg (by omega) (by omega)
 by_cases g3_0:n<257
 ·exact bT jgh (by omega) (by omega)
 by_cases g3_1:n<513
 ·exact bT jgi (by omega) (by omega)
 by_cases g3_2:n<769
 ·exact bT jgj (by omega) (by omega)
 by_cases g3_3:n<1025
 ·exact bT jgk (by omega) (by omega)
 by_cases g3_4:n<1281
 ·exact bT jgl (by omega) (by omega)
 by_cases g3_5:n<1537
 ·exact bT jgm (by omega) (by omega)
 by_cases g3_6:n<1793
 ·exact bT jgn (by omega) (by omega)
 by_cases g3_7:n<2049
 ·exact bT jgo (by omega) (by omega)
 by_cases g4_0:n<2305
 ·exact bT jgp (by omega) (by omega)
 by_cases g4_1:n<2561
 ·exact bT jgq (by omega) (by omega)
 by_cases g4_2:n<2817
 ·exact bT jgr (by omega) (by omega)
 by_cases g4_3:n<3073
 ·exact bT jgs (by omega) (by omega)
 by_cases g4_4:n<3329
 ·exact bT jgt (by omega) (by omega)
 by_cases g4_5:n<3585
 ·exact bT jgu (by omega) (by omega)
 by_cases g4_6:n<3841
 ·exact bT jgv (by omega) (by omega)
 exact bT jgw (by omega) (by omega)
end X
end Go.Vm
namespace Go.Vm
namespace X
open W Go.RowKit
theorem vM:∀ {a b:List Nat},zY a b=true->a=b
 | [],[],_=>rfl
 | [],b::m,h=>by cases h
 | a::l,[],h=>by cases h
 | a::l,b::m,h=>by
   simp only[zY,aW] at h;rw[wD h.1,vM h.2]
def nm (n:Int):List Nat:=(eX fuel n).getD []
structure NumOK (n:Int):Prop where
 it:eX fuel n=some (nm n)
 de:mB fuel n=some (nm n)
 at':jN fuel (nm n)=some (n,true)
 ch:∀y∈nm n,45<=y/\y<=57
 ne:1<=(nm n).length
 le:(nm n).length<=5
 l1:Go.Proofs.S07.lpFin (120::32::nm n)=(1,n)
 l2:Go.Proofs.S07.lpFin (121::32::nm n)=(2,n)
 l3:Go.Proofs.S07.lpFin (117::32::nm n)=(3,n)
 l4:Go.Proofs.S07.lpFin (100::32::nm n)=(4,n)
theorem nV {k:Int} {b:Nat} {n:Int} {s:List Nat} (h:xI k b n s=true):Go.Proofs.S07.lpFin (b::32::s)=(k,n):=by
 unfold xI at h;split at h;rename_i a c e;simp only[aW,uH,aQ] at h;rw[e,h.1,h.2]
theorem dL {n:Int} (h1: -4096<=n) (h2:n<=4096):NumOK n:=by
 have h:=M7 h1 h2;unfold iC at h;cases hs:eX fuel n with
 | none=>rw[hs] at h;cases h
 | some s=>
   have en:nm n=s:=by unfold nm;rw[hs];rfl
   rw[hs] at h;simp only[aW] at h;obtain⟨⟨⟨⟨⟨⟨a1,a2⟩,a3⟩,a4⟩,a5⟩,a6⟩,a7⟩:=h;unfold jde at a3;simp only[aW,cI,bE,aQ] at a3;obtain⟨⟨b1,b2⟩,b3⟩:=a3;refine⟨by rw[en];exact hs,?_,?_,λy hy=>?_,by rw[en];exact b2,by rw[en];exact b3,by rw[en];exact nV a4,by rw[en];exact nV a5,by rw[en];exact nV a6,by rw[en];exact nV a7⟩
   ·rw[en];cases hd:mB fuel n with
    | none=>rw[hd] at a1;cases a1
    | some t=>rw[hd] at a1;rw[vM a1]
   ·rw[en];cases hd:jN fuel s with
    | none=>rw[hd] at a2;cases a2
    | some r=>
      obtain⟨a,b⟩:=r;rw[hd] at a2;simp only[aW,uH,aQ] at a2;rw[a2.1,a2.2]
   ·rw[en] at hy;have:=b1 y hy;omega
def VL (l:Int×Int):Prop:=1<=l.1/\l.1<=4/\ -4096<=l.2/\l.2<=4096
def eO (k:Int):Nat:=([32,120,121,117,100]:List Nat).getD k.toNat 0
def eA (l:Int×Int):List Nat:=eO l.1::32::nm l.2
theorem wW {k:Int} (h:0<=k) (h2:k<=254):IntKind.u8.wrap (k+1)=k+1:=by
 unfold IntKind.wrap;simp[IntKind.bits,IntKind.signed];omega
abbrev gH:=Int×((Int×Int)×(Int×Int))
structure OrdPT (x:gH):Prop where
 k1:1<=x.1
 k3:x.1<=3
 l1:1<=x.2.1.1
 l4:x.2.1.1<=4
 c0: -4096<=x.2.1.2
 c1:x.2.1.2<=4096
 ft:x.2.2.1<x.2.2.2
theorem vT (l:Int×Int):lG fuel l=some 0/\(1<=l.1/\l.1<=4/\ -4096<=l.2/\l.2<=4096)\/lG fuel l=some 1/\¬(1<=l.1/\l.1<=4/\ -4096<=l.2/\l.2<=4096):=by
 unfold lG;by_cases h1:l.1<1
 ·simp only[h1,aU,aH];exact .inr ⟨trivial,by omega⟩
 by_cases h2:4<l.1
 ·simp only[h1,h2,aU,aT,aH,aJ];exact .inr ⟨trivial,by omega⟩
 by_cases h3:l.2 < -4096
 ·simp only[h1,h2,h3,aU,aT,aH,aJ];exact .inr ⟨trivial,by omega⟩
 by_cases h4:4096<l.2
 ·simp only[h1,h2,h3,h4,aU,aT,aH,aJ];exact .inr ⟨trivial,by omega⟩
 simp only[h1,h2,h3,h4,aT,aJ];exact .inl ⟨trivial,by omega⟩
theorem N4 (x:gH):∃b,oV fuel x=some b/\(b=true↔OrdPT x):=by
 unfold oV;by_cases h1:1<=x.1
 rotate_left
 ·simp only[h1,aT,aJ];exact⟨_,rfl,by simp;intro h;exact h1 h.k1⟩
 by_cases h2:x.1<=3
 rotate_left
 ·simp only[h1,h2,aU,aT,aH,aJ];exact⟨_,rfl,by simp;intro h;exact h2 h.k3⟩
 simp only[h1,h2,aU,aH];rcases vT (x.2.1.1,x.2.1.2) with⟨e,g⟩ | ⟨e,g⟩
 ·rw[e,aC];simp only[aU,aH];simp only at g;exact⟨_,rfl,by simp only[aQ];exact⟨λh=>⟨h1,h2,g.1,g.2.1,g.2.2.1,g.2.2.2,h⟩,λh=>h.ft⟩⟩
 ·rw[e,aC];simp only[show((1:Int)=0)=False by simp,aT,aJ];exact⟨_,rfl,by simp;intro h;exact g ⟨h.l1,h.l4,h.c0,h.c1⟩⟩
theorem uL (l:Int×Int):VL l/\kF fuel l=some (eA l)\/¬VL l/\kF fuel l=some []:=by
 rcases vT l with⟨e,h⟩ | ⟨e,h⟩
 ·left;refine⟨h,?_⟩;obtain⟨h1,h2,h3,h4⟩:=h;have hn:=dL h3 h4;have hle:=hn.le;unfold kF;rw[show((l.1,l.2):Int×Int)=l from rfl,e,aC];have hw:=wW (k:=l.1) (by omega) (by omega);rw[hw,hn.it,aC];have hk:l.1=1\/l.1=2\/l.1=3\/l.1=4:=by omega
  unfold eA eO;generalize nm l.2=s at hle;rcases hk with e | e | e | e<;>(rw[e];simp[aB,cU,pP];try omega)
 ·right;refine⟨h,?_⟩;unfold kF;rw[show((l.1,l.2):Int×Int)=l from rfl,e,aC];rfl
theorem P9 {l:Int×Int} (h:VL l):yW fuel l=some (eA l):=by
 obtain⟨h1,h2,h3,h4⟩:=h;have hn:=dL h3 h4;have hle:=hn.le;unfold yW;rw[hn.de,aC];have hk:l.1=1\/l.1=2\/l.1=3\/l.1=4:=by omega
 unfold eA eO;generalize nm l.2=s at hle;rcases hk with e | e | e | e<;>(rw[e];simp[aB,bB,pP];try omega)
end X
end Go.Vm
namespace Go.Vm
namespace X
open W Go.RowKit
def fC (k:Int):Nat:=([32,109,118,97]:List Nat).getD k.toNat 0
def cG (x:gH):List Nat:=((((([fC x.1]++[32])++eA x.2.1)++[32])++nm x.2.2.1)++[32])++nm x.2.2.2
structure OkX (x:gH):Prop where
 o:OrdPT x
 f0: -4096<=x.2.2.1
 t1:x.2.2.2<=4096
theorem qE {l:Int×Int} (h:VL l):(eA l).length<=7:=by
 have:=(dL h.2.2.1 h.2.2.2).le;unfold eA;simp only[cL];omega
theorem OkX.vl {x:gH} (h:OkX x):VL x.2.1:=⟨h.o.l1,h.o.l4,h.o.c0,h.o.c1⟩
theorem pE (x:gH):OkX x/\fG fuel x=some (cG x)\/¬OkX x/\fG fuel x=some []:=by
 obtain⟨b,hb,hb2⟩:=N4 x;by_cases ho:OrdPT x
 rotate_left
 ·refine .inr ⟨λh=>ho h.o,?_⟩;unfold fG;rw[show(x.1,((x.2.1.1,x.2.1.2),(x.2.2.1,x.2.2.2)))=x from rfl,hb,aC];cases b with
  | true=>exact absurd (hb2.1 rfl) ho
  | false=>rfl
 have eb:b=true:=hb2.2 ho;subst eb;by_cases h1:x.2.2.1 < -4096
 ·refine .inr ⟨λh=>by have:=h.f0;omega,?_⟩;unfold fG;rw[show(x.1,((x.2.1.1,x.2.1.2),(x.2.2.1,x.2.2.2)))=x from rfl,hb,aC];simp only[fS,aJ,h1,aU,aH]
 by_cases h2:4096<x.2.2.2
 ·refine .inr ⟨λh=>by have:=h.t1;omega,?_⟩;unfold fG;rw[show(x.1,((x.2.1.1,x.2.1.2),(x.2.2.1,x.2.2.2)))=x from rfl,hb,aC];simp only[fS,aJ,h1,h2,aT,aU,aH]
 have hx:OkX x:=⟨ho,by omega,by omega⟩
 have hv:=hx.vl;have hft:=ho.ft;have n1:=dL (n:=x.2.2.1) (by omega) (by omega);have n2:=dL (n:=x.2.2.2) (by omega) (by omega);have hl:=qE hv;have le1:=n1.le;have le2:=n2.le;have hk:x.1=1\/x.1=2\/x.1=3:=by have:=ho.k1;have:=ho.k3;omega
 have hL:kF fuel (x.2.1.1,x.2.1.2)=some (eA x.2.1):=by
  rcases uL x.2.1 with⟨_,e⟩ | ⟨h,_⟩
  ·exact e
  ·exact absurd hv h
 refine .inl ⟨hx,?_⟩;unfold fG;rw[show(x.1,((x.2.1.1,x.2.1.2),(x.2.2.1,x.2.2.2)))=x from rfl,hb,aC];simp only[fS,aJ,h1,h2,aT];rw[wW (k:=x.1) (by omega) (by omega),hL,aC,n1.it,aC,n2.it,aC];unfold cG fC;generalize nm x.2.2.1=s1 at le1;generalize nm x.2.2.2=s2 at le2;generalize eA x.2.1=s3 at hl;rcases hk with e | e | e<;>(rw[e];simp[aB,cU,pP];try omega)
theorem G4 {x:gH} (hx:OkX x):xL fuel x=some (cG x):=by
 have hv:=hx.vl;have hft:=hx.o.ft;have f0:=hx.f0;have t1:=hx.t1;have n1:=dL (n:=x.2.2.1) (by omega) (by omega);have n2:=dL (n:=x.2.2.2) (by omega) (by omega);have hl:=qE hv;have le1:=n1.le;have le2:=n2.le;have hk:x.1=1\/x.1=2\/x.1=3:=by have:=hx.o.k1;have:=hx.o.k3;omega
 unfold xL;rw[show(x.2.1.1,x.2.1.2)=x.2.1 from rfl,P9 hv,aC,n1.de,aC,n2.de,aC];unfold cG fC;generalize nm x.2.2.1=s1 at le1;generalize nm x.2.2.2=s2 at le2;generalize eA x.2.1=s3 at hl;rcases hk with e | e | e<;>(rw[e];simp[aB,bB,pP];try omega)
end X
end Go.Vm
namespace Go.Vm
namespace X
open W Go.RowKit
theorem uJ {w:List Nat} (h:∀y∈w,y<256):iT [w] [32]=w:=by
 simp only[iT,dA,lM,Lib.join_one];exact nR h
theorem oF {w0:List Nat} {ws:List (List Nat)} {w:List Nat} (h:∀y∈w,y<256):iT ((w0::ws)++[w]) [32]=iT (w0::ws) [32]++32::w:=by
 have e:(u8 w).map UInt8.toNat=w:=nR h;simp only[iT,fN,dA,eI,lM,Lib.join_cons];simp only[Lib.joinTail,eI,z6,dA,lM,kH,qgb,kO,dX,e]
 congr 2
theorem jam (s:List Nat):∃r,xH fuel s=some r:=by
 have htx:∀l:Int×Int,∃t,kF fuel l=some t/\asc t=true:=λl=>by
  rcases uL l with⟨hv,e⟩ | ⟨_,e⟩
  ·refine⟨_,e,?_⟩;have hn:=dL hv.2.2.1 hv.2.2.2;unfold eA asc;rw[cI];intro y hy;have hl:eO l.1<128:=by
    unfold eO;have hk:l.1=1\/l.1=2\/l.1=3\/l.1=4:=by have:=hv.1;have:=hv.2.1;omega
    rcases hk with e | e | e | e<;>(rw[e];decide)
   simp only[Nat.blt,bE,aQ];rcases bJ.1 hy with rfl | hy
   ·omega
   ·rcases bJ.1 hy with rfl | hy
    ·omega
    ·have:=hn.ch y hy;omega
  ·exact⟨_,e,rfl⟩
 unfold xH L9;cases asc s with
 | true=>
   obtain⟨t,ht,_⟩:=htx (Go.Proofs.S07.lpFin s);rw[aH,ht];exact⟨_,rfl⟩
 | false=>
   rw[aJ];unfold jdj;rw[aK λk c _=>htx (k,c)];exact⟨_,rfl⟩
theorem zT {s:List Nat} (h:s.length<=1000000):∃r,jN fuel s=some r:=by
 unfold jN sW;rw[bE,bD h,aH];split<;>exact⟨_,rfl⟩
theorem R5 {t:List Nat} (h:t.length<=1000):strings_Split fuel (t,[32])=some (cB t [32]):=by
 unfold strings_Split tR;simp only;rw[bE,bD (by omega)];rfl
theorem jaj {w:List Nat} (h:w.length=1):∃r,n7 fuel ([32,109,118,97],w)=some r:=by
 unfold n7 jak
 match w,h with
 | [c],_=>exact⟨_,rfl⟩
abbrev n9:gH:=(0,((0,0),(0,0)))
theorem D9 {s:List Nat} (h:s.length<=1000):∃r,kQ fuel s=some r/\(r=(n9,4)\/(r.2=0/\fG fuel r.1=some s/\s≠[])):=by
 suffices hs:Ret (kQ fuel s) λr=>(r=(n9,4)\/(r.2=0/\fG fuel r.1=some s/\s≠[])) from hs
 obtain⟨hw1,hw2⟩:=xU s;have hlen:∀i,i< (cB s [32]).length->((cB s [32]).getD i []).length<=1000:=λi hi=>by
  rw[gP,dE hi,qO];exact gE (hw2 _ (bX hi)) h
 unfold kQ;rw[R5 h,aC];refine aD (λ_=>aS (.inl rfl)) λh5=>?_
 have h5:(cB s [32]).length=5:=by have:=iF.1 h5;omega
 have hin:∀i:Nat,i<5->bB (i:Int) (cB s [32]).length=true:=λi hi=>aV (by omega) (by rw[h5];omega)
 have hne:s≠[]:=λe=>by rw[e] at h5;exact absurd h5 (by decide)
 refine aA (hin 0 (by omega)) (aD (λ_=>aS (.inl rfl)) λh1=>?_);have h1:((cB s [32]).getD 0 []).length=1:=by have:=iF.1 h1;omega
 have l1:=hlen 1 (by omega);have l2:=hlen 2 (by omega);have l3:=hlen 3 (by omega);have l4:=hlen 4 (by omega);obtain⟨r2,e2⟩:=jam (((cB s [32]).getD 1 []++[32])++(cB s [32]).getD 2 []);obtain⟨r3,e3⟩:=zT (s:=(cB s [32]).getD 3 []) (by omega);obtain⟨r4,e4⟩:=zT (s:=(cB s [32]).getD 4 []) (by omega);obtain⟨r5,e5⟩:=jaj h1;refine aA (hin 1 (by omega)) (aA (by rw[aQ];omega) (aA (hin 2 (by omega)) (aA (by rw[aQ,cZ,dU];omega) ?_)));rw[e2,aC];refine aA (hin 3 (by omega)) ?_;rw[e3,aC];refine aA (hin 4 (by omega)) ?_;rw[e4,aC];refine aA (hin 0 (by omega)) ?_;rw[e5,aC];refine aD (λ_=>aS (.inl rfl)) λ_=>cV (λ_=>aS (.inl rfl)) λ_=>cV (λ_=>aS (.inl rfl)) λ_=>?_
 have hT:∃t,fG fuel (IntKind.u8.wrap (max r5 0),((r2.1.1,r2.1.2),(r3.1,r4.1)))=some t:=by
  rcases pE (IntKind.u8.wrap (max r5 0),((r2.1.1,r2.1.2),(r3.1,r4.1))) with⟨_,e⟩ | ⟨_,e⟩<;>exact⟨_,e⟩
 obtain⟨t,et⟩:=hT;rw[et,aC];refine aD (λ_=>aS (.inl rfl)) λhr=>aS (.inr ⟨rfl,?_,hne⟩)
 have hr:t=s:=iF.1 hr;rw[<-hr];exact et
theorem t6 {k:Int} (h:1<=k/\k<=3):fC k<256/\fC k≠32:=by
 have hk:k=1\/k=2\/k=3:=by omega
 unfold fC;rcases hk with rfl | rfl | rfl<;>decide
theorem u7 {k:Int} (h:1<=k/\k<=4):eO k<256/\eO k≠32:=by
 have hk:k=1\/k=2\/k=3\/k=4:=by omega
 unfold eO;rcases hk with rfl | rfl | rfl | rfl<;>decide
theorem jlt {x:gH} (hx:OkX x):cB (cG x) [32]=[[fC x.1],[eO x.2.1.1],nm x.2.1.2,nm x.2.2.1,nm x.2.2.2]:=by
 have hv:=hx.vl;have hft:=hx.o.ft;have f0:=hx.f0;have t1:=hx.t1;have n0:=dL hv.2.2.1 hv.2.2.2;have n1:=dL (n:=x.2.2.1) (by omega) (by omega);have n2:=dL (n:=x.2.2.2) (by omega) (by omega);have k1:=t6 ⟨hx.o.k1,hx.o.k3⟩;have k2:=u7 ⟨hv.1,hv.2.1⟩;have c1:∀y∈[eO x.2.1.1],y<256:=λy hy=>by rw[cD.1 hy];exact k2.1
 have c0:∀y∈[fC x.1],y<256:=λy hy=>by rw[cD.1 hy];exact k1.1
 have cn:∀ {n:Int},NumOK n->∀y∈nm n,y<256:=λh y hy=>by have:=h.ch y hy;omega
 have e:cG x=iT ([fC x.1]::[[eO x.2.1.1],nm x.2.1.2,nm x.2.2.1,nm x.2.2.2]) [32]:=by
  have j1:=uJ c0;have j2:=oF (w0:=[fC x.1]) (ws:=[]) c1;have j3:=oF (w0:=[fC x.1]) (ws:=[[eO x.2.1.1]]) (cn n0);have j4:=oF (w0:=[fC x.1]) (ws:=[[eO x.2.1.1],nm x.2.1.2]) (cn n1);have j5:=oF (w0:=[fC x.1]) (ws:=[[eO x.2.1.1],nm x.2.1.2,nm x.2.2.1]) (cn n2);simp only[fN,fB] at j2 j3 j4 j5;rw[j5,j4,j3,j2,j1];simp[cG,eA]
 rw[e,jbo];intro w hw y hy;simp only[bJ,gV,gR] at hw;rcases hw with rfl | rfl | rfl | rfl | rfl
 ·rw[cD.1 hy];exact k1
 ·rw[cD.1 hy];exact k2
 ·have:=n0.ch y hy;omega
 ·have:=n1.ch y hy;omega
 ·have:=n2.ch y hy;omega
theorem mC {x:gH} (hx:OkX x):(cG x).length<=40:=by
 have hv:=hx.vl;have hft:=hx.o.ft;have f0:=hx.f0;have t1:=hx.t1;have n1:=(dL (n:=x.2.2.1) (by omega) (by omega)).le;have n2:=(dL (n:=x.2.2.2) (by omega) (by omega)).le;have n0:=qE hv;unfold cG;simp only[cZ,dU];omega
theorem jum {l:Int×Int} (hv:VL l):xH fuel (eA l)=some (l,0):=by
 have hn:=dL hv.2.2.1 hv.2.2.2;have ha:asc (eA l)=true:=by
  unfold eA asc;rw[cI];intro y hy;have hl:eO l.1<128:=by
   unfold eO;have hk:l.1=1\/l.1=2\/l.1=3\/l.1=4:=by have:=hv.1;have:=hv.2.1;omega
   rcases hk with e | e | e | e<;>(rw[e];decide)
  simp only[Nat.blt,bE,aQ];rcases bJ.1 hy with rfl | hy
  ·omega
  ·rcases bJ.1 hy with rfl | hy
   ·omega
   ·have:=hn.ch y hy;omega
 have hf:Go.Proofs.S07.lpFin (eA l)=l:=by
  have hk:l.1=1\/l.1=2\/l.1=3\/l.1=4:=by have:=hv.1;have:=hv.2.1;omega
  unfold eA eO;rcases hk with e | e | e | e
  ·rw[e];exact hn.l1.trans (iN e.symm rfl)
  ·rw[e];exact hn.l2.trans (iN e.symm rfl)
  ·rw[e];exact hn.l3.trans (iN e.symm rfl)
  ·rw[e];exact hn.l4.trans (iN e.symm rfl)
 have ht:kF fuel l=some (eA l):=by
  rcases uL l with⟨_,e⟩ | ⟨h,_⟩
  ·exact e
  ·exact absurd hv h
 unfold xH L9;rw[ha,aH,hf,ht,aC];have:(eA l).isEmpty=false:=rfl;rw[this];simp
theorem jt0 {k:Int} (h:1<=k/\k<=3):n7 fuel ([32,109,118,97],[fC k])=some k:=by
 have hk:k=1\/k=2\/k=3:=by omega
 unfold fC;rcases hk with rfl | rfl | rfl<;>rfl
theorem jve {x:gH} (hx:OkX x):kQ fuel (cG x)=some (x,0):=by
 have hv:=hx.vl;have hft:=hx.o.ft;have f0:=hx.f0;have t1:=hx.t1;have n0:=dL hv.2.2.1 hv.2.2.2;have n1:=dL (n:=x.2.2.1) (by omega) (by omega);have n2:=dL (n:=x.2.2.2) (by omega) (by omega);have le0:=n0.le;have hk:1<=x.1/\x.1<=3:=⟨hx.o.k1,hx.o.k3⟩
 have hT:fG fuel x=some (cG x):=by
  rcases pE x with⟨_,e⟩ | ⟨h,_⟩
  ·exact e
  ·exact absurd hx h
 apply Ret.eq;unfold kQ;rw[R5 (by have:=mC hx;omega),aC,jlt hx];refine aD (λg=>absurd (by rfl) g) λ_=>aA rfl (aD (λg=>absurd (by rfl) g) λ_=>aA rfl (aA rfl (aA rfl (aA ?_ ?_))))
 ·rw[aQ];show([eO x.2.1.1]++[32]).length+ (nm x.2.1.2).length<=_;simp only[cZ,dU];omega
 have e1:(([[fC x.1],[eO x.2.1.1],nm x.2.1.2,nm x.2.2.1,nm x.2.2.2]:List (List Nat)).getD 1 []++[32])++([[fC x.1],[eO x.2.1.1],nm x.2.1.2,nm x.2.2.1,nm x.2.2.2]:List (List Nat)).getD 2 []=eA x.2.1:=rfl;have e3:([[fC x.1],[eO x.2.1.1],nm x.2.1.2,nm x.2.2.1,nm x.2.2.2]:List (List Nat)).getD 3 []=nm x.2.2.1:=rfl;have e4:([[fC x.1],[eO x.2.1.1],nm x.2.1.2,nm x.2.2.1,nm x.2.2.2]:List (List Nat)).getD 4 []=nm x.2.2.2:=rfl;have e0:([[fC x.1],[eO x.2.1.1],nm x.2.1.2,nm x.2.2.1,nm x.2.2.2]:List (List Nat)).getD 0 []=[fC x.1]:=rfl;rw[e1,jum hv,aC];refine aA rfl ?_;rw[e3,n1.at',aC];refine aA rfl ?_;rw[e4,n2.at',aC];refine aA rfl ?_;rw[e0,jt0 hk,aC];have hw:IntKind.u8.wrap (max x.1 0)=x.1:=by
  rcases(by omega:x.1=1\/x.1=2\/x.1=3) with e | e | e<;>(rw[e];rfl)
 refine aD (λg=>absurd rfl g) λ_=>cV (λg=>by cases g) λ_=>cV (λg=>by cases g) λ_=>?_
 rw[hw,show(x.1,((x.2.1.1,x.2.1.2),(x.2.2.1,x.2.2.2)))=x from rfl,hT,aC];exact aD (λg=>absurd rfl g) λ_=>aS rfl
end X
end Go.Vm
namespace Go.Vm
namespace X
open W
noncomputable def dF:List (List Nat)->Option (List Int)
 | []=>some []
 | s::t=>match eG s with
   | none=>none
   | some u=>(dF t).map λl=>(u:Int)::l
theorem b6:∀ {T:List (List Nat)} {l:List Int},dF T=some l->l.length=T.length
 | [],l,h=>by cases h;rfl
 | s::t,l,h=>by
   unfold dF at h;split at h
   ·cases h
   ·obtain⟨r,hr,rfl⟩:=fR.1 h;simp[b6 hr]
noncomputable def cC (line word:List Nat) (many:Nat):Option (List Int):=match cB line [32] with
 | w::T=>if w=word/\T.length=many then dF T else none
 | []=>none
theorem uX (s:List Nat):∀w∈cB s [32],∀x∈w,x<256:=by
 intro w hw x hx;unfold cB at hw;obtain⟨v,_,rfl⟩:=bC.1 hw;obtain⟨b,_,rfl⟩:=bC.1 hx;exact b.toNat_lt
theorem R6 {t:List Nat} (h:t.length<=1000000):strings_Split fuel (t,[32])=some (cB t [32]):=by
 show tR (t,[32])=_;unfold tR;simp only;have:(t.length.ble 1000000&& !(([32]:List Nat).length.beq 0))=true:=by rw[bE,bD h];rfl
 first | rw[this,aH] | simp[bE,h]
theorem uM {line word:List Nat} {many:Nat} (hl:line.length<=1000000) (hm:many<=1000):uG fuel (line,(word,(many:Int)))=some (match cC line word many with
  | some l=>(l,true)
  | none=>([],false)):=by
 have hws:=xU line;have hwb:=uX line;have hne:cB line [32]≠[]:=T6;apply Ret.eq;unfold uG cC;rw[R6 hl,aC];generalize cB line [32]=ws at hws hwb hne ⊢
 match ws,hne with
 | w::T,_=>
   have hT:T.length<=1000000:=by have:=hws.1;simp only[cL] at this;omega
   simp only;refine aA (aV (by omega) (by simp)) (aD (λg=>aS ?_) λg=>?_)
   ·rw[aF λh=>g h.1]
   ·have g:w=word:=iF.1 g;refine aA (aG (by omega) (by omega)) (aD (λg2=>aS ?_) λg2=>?_)
    ·rw[aF λh=>g2 (by rw[cL,h.2];omega)]
    ·have g2:T.length=many:=by
      have:=iF.1 g2;rw[cL] at this;omega
     rw[aK ⟨g,g2⟩];refine aA (cN.2 ⟨by omega,by rw[cL];omega,by omega⟩) ?_;refine cS (λp:List Int×Int=>∃i:Nat,p.2=i/\i<=T.length/\p.1.length=i/\dF T=(dF (T.drop i)).map (p.1++·)) (λp=>T.length-p.2.toNat) ?_ fuel ([],0) ⟨0,rfl,eW _,rfl,by simp⟩ (by simp only[fuel];omega);rintro ⟨out,i'⟩ rec ⟨i,e,hi,ho,hg⟩ ih;simp only at e ho hg ih ⊢;subst e;have hlen:(w::T).length-1=T.length:=by simp
     rw[hlen];refine aD (λhlt=>?_) λhge=>?_
     ·have hlt:i<T.length:=by omega
      have hget:(w::T).getD (1+ ((i:Int)).toNat) []=T[i]:=by
       rw[cK,l9,O4,gP,dE hlt];rfl
      have hmem:T[i]∈w::T:=bL _ (bX hlt);have hdrop:T.drop i=T[i]::T.drop (i+1):=iJ hlt;rw[hget];refine aA (aV (by omega) (by omega)) ?_;rcases M8 (s:=T[i]) (gE (hws.2 _ hmem) hl) (hwb _ hmem) with⟨u,n1,n2,n3,n4,n5⟩ | ⟨n1,r,n2,n3⟩
      ·rw[n3,aC];refine cV (λh=>by cases h) λ_=>aD (λh=>absurd h (by simp only;omega)) λ_=>aD (λh=>absurd h (by omega)) λ_=>?_
       rw[n5,aC];refine aD (λh=>absurd rfl h) λ_=>aA (eT (by omega)) (aA (aG (by omega) (by omega)) (ih _ ⟨i+1,by simp only;omega,hlt,by simp;omega,?_⟩ (by simp only;omega)))
       rw[hg,hdrop,dF,n1];simp only;rw[qg2]
       congr 1
       funext l
       simp
      ·have hno:dF T=none:=by rw[hg,hdrop,dF,n1];rfl
       have bad:Ret (some (([]:List Int),false)) λx=>x=(match dF T with
        | some l=>(l,true)
        | none=>([],false)):=aS (by rw[hno])
       rw[n2,aC];refine cV (λh=>bad) λh1=>aD (λh=>bad) λh2=>aD (λh=>bad) λh3=>?_
       rcases n3 with h | h | h | ⟨_,t,h4,h5⟩
       ·rw[h] at h1;cases h1
       ·exact absurd h h2
       ·exact absurd (by omega) h3
       ·rw[h4,aC];exact aD (λ_=>bad) λh=>absurd h5 h
     ·have:i=T.length:=by omega
      subst this;rw[jM] at hg;have hg:dF T=some out:=by rw[hg,dF];simp
      exact aS (by rw[hg])
end X
end Go.Vm
namespace Go.Vm
namespace X
open W
def aM (c:Nat):List Nat->List (List Nat)
 | []=>[[]]
 | b::l=>if b=c then []::aM c l else match aM c l with
   | w::ws=>(b::w)::ws
   | []=>[[b]]
theorem jX (c:Nat):∀l:List Nat,aM c l≠[]
 | []=>by simp[aM]
 | b::l=>by
   unfold aM;split
   ·simp
   ·split<;>simp
theorem lJ (c:Nat):∀l:List Nat,(aM c l).length<=l.length+1/\∀w∈aM c l,w.length<=l.length
 | []=>by simp[aM]
 | b::l=>by
   obtain⟨h1,h2⟩:=lJ c l;unfold aM;split
   ·refine⟨by simp;omega,λw hw=>?_⟩;rcases bJ.1 hw with rfl | hw
    ·simp
    ·have:=h2 w hw;simp;omega
   ·split
    ·rename_i w ws e;rw[e] at h1 h2;refine⟨by simp at h1 ⊢;omega,λv hv=>?_⟩;rcases bJ.1 hv with rfl | hv
     ·have:=h2 w bH;simp;omega
     ·have:=h2 v (bL _ hv);simp;omega
    ·exact⟨by simp,λv hv=>by simp at hv;subst hv;simp⟩
theorem uD {w:List Nat} (h:w.length<=1000000000):gW fuel (w++[10],[10])=some (w,true):=by
 apply Ret.eq;unfold gW;have e1:((w++[10]).length:Int)-(([10]:List Nat).length:Int)=(w.length:Int):=by simp
 simp only;rw[e1];refine aD (λ_=>?_) λg=>absurd (by simp;omega) g
 refine aA (aG (by omega) (by omega)) (aA (cN.2 ⟨by omega,by simp;omega,by simp⟩) (cV (λg=>?_) λ_=>aA (aG (by omega) (by omega)) (aA (cN.2 ⟨by omega,by omega,by simp;omega⟩) (aS ?_))))
 ·simp at g
 ·simp
theorem wZ {e:List Nat} (h:e.length<=1000000000) (hn:10∉e):gW fuel (e,[10])=some (e,false):=by
 apply Ret.eq;unfold gW;simp only;refine aD (λg=>?_) λ_=>aS rfl
 have g:1<=e.length:=by simp at g;omega
 refine aA (aG (by simp;omega) (by simp;omega)) (aA (cN.2 ⟨by simp;omega,by simp;omega,by omega⟩) (cV (λ_=>aS rfl) λg2=>?_));exfalso;have g3:((e.drop (((e.length:Int)-(([10]:List Nat).length:Int))).toNat).take (e.length-(((e.length:Int)-(([10]:List Nat).length:Int))).toNat))=[10]:=by simpa using g2
 have:(10:Nat)∈([10]:List Nat):=by simp
 rw[<-g3] at this;exact hn (rM (wE this))
def fM:List (List Nat)->List (List Nat)
 | []=>[]
 | [e]=>if e=[] then [] else [e]
 | w::v::ws=>(w++[10])::fM (v::ws)
theorem nC {c:Nat} {b:List Nat}:∀ {a:List Nat},c∉a->aM c (a++c::b)=a::aM c b
 | [],_=>by simp[aM]
 | x::a,h=>by
   have hx:x≠c:=λe=>h (e▸bH)
   rw[fN,aM,aF hx,nC λg=>h (bL _ g)]
theorem uC {c:Nat}:∀ {a:List Nat},c∉a->aM c a=[a]
 | [],_=>rfl
 | x::a,h=>by
   have hx:x≠c:=λe=>h (e▸bH)
   rw[aM,aF hx,uC λg=>h (bL _ g)]
theorem vP (c:Nat):∀s:List Nat,c∉s\/∃a b,s=a++c::b/\c∉a
 | []=>.inl (by simp)
 | x::s=>by
   by_cases h:x=c
   ·exact .inr ⟨[],s,by rw[h];rfl,by simp⟩
   ·rcases vP c s with g | ⟨a,b,e,g⟩
    ·exact .inl λq=>(bJ.1 q).elim (λq=>h q.symm) λq=>g q
    ·exact .inr ⟨x::a,b,by rw[e];rfl,λq=>(bJ.1 q).elim (λq=>h q.symm) λq=>g q⟩
theorem rX:∀(n:Nat) (s:List Nat),s.length<=n->kD s=fM (aM 10 s)
 | 0,s,h=>by
   have:s=[]:=tJ (by omega);subst this;rw[(yI).2 rfl];rfl
 | n+1,s,h=>by
   rcases vP 10 s with g | ⟨a,b,rfl,g⟩
   ·rw[uC g];by_cases h0:s=[]
    ·subst h0;rw[(yI).2 rfl];rfl
    ·rw[jbs h0 g,fM,aF h0]
   ·rw[jbr g,nC g,rX n b (by simp at h;omega)];have:=jX 10 b
    match aM 10 b,this with
    | v::ws,_=>rfl
end X
end Go.Vm
namespace Go.Vm
namespace X
open W
set_option maxRecDepth 100000
abbrev bG:=Int×((Int×Int)×(Int×Int))
def bF:List Nat:=[101,110,100]
def cA:List Nat:=[99,114,101,97,115,101]
noncomputable def gY (w:List Nat):Option bG:=match kQ fuel w with
 | some r=>if r.2=0 then some r.1 else none
 | none=>none
theorem y9 {w:List Nat} (h:w.length<=1000):(∃x,gY w=some x/\kQ fuel w=some (x,0))\/(gY w=none/\∃r,kQ fuel w=some r/\r.2≠0):=by
 obtain⟨r,h1,_⟩:=D9 h;unfold gY;rw[h1];by_cases h0:r.2=0
 ·exact .inl ⟨r.1,by simp[h0],by rw[<-h0]⟩
 ·exact .inr ⟨by simp[h0],r,rfl,h0⟩
noncomputable def bP (i:Nat) (sh:Int×Int) (l:List bG) (body:List Nat):List (List Nat)->Int ⊕ ((Int×Int)×(List bG×(Int×List Nat)))
 | []=>.inl (i+1)
 | [_]=>.inl (i+1)
 | w::v::ws=>match (if i=0 then none else cC w bF 1) with
   | some ns=>if v=[]/\ws=[] then .inr (sh,(l,(ns.getD 0 0,body))) else .inl (i+2)
   | none=>if i=0 then(match cC w cA 2 with
      | none=>.inl 1
      | some ns=>bP 1 (ns.getD 0 0,ns.getD 1 0) l (body++(w++[10])) (v::ws))
     else(match gY w with
      | none=>.inl (i+1)
      | some x=>bP (i+1) sh (l++[x]) (body++(w++[10])) (v::ws))
def kA (r:Int ⊕ ((Int×Int)×(List bG×(Int×List Nat)))):(Int×(Int×(List bG×(Int×Int))))×Int:=match r with
 | .inl n=>((0,(0,([],(0,0)))),n)
 | .inr a=>((a.1.1,(a.1.2,(a.2.1,(a.2.2.1,(a.2.2.2.length:Int))))),0)
theorem uN {w word:List Nat} {m:Nat} {l:List Int} (h:cC w word m=some l):l.length=m:=by
 unfold cC at h;split at h
 ·split at h
  ·rename_i g;rw[b6 h];exact g.2
  ·cases h
 ·cases h
theorem jaa {y:List Nat} (h:y.length<=1000000000) (hy:(∃v,y=v++[10])\/10∉y):∃r,gW fuel (y,[10])=some r:=by
 rcases hy with⟨v,rfl⟩ | hy
 ·exact⟨_,uD (by simp at h;omega)⟩
 ·exact⟨_,wZ h hy⟩
theorem jag {v:List Nat} {ws:List (List Nat)} (h:¬(v=[]/\ws=[])) (hv:10∉v):∃y r,fM (v::ws)=y::r/\((∃u,y=u++[10])\/10∉y)/\y.length<=v.length+1:=by
 cases ws with
 | nil=>
   have h0:v≠[]:=λe=>h ⟨e,rfl⟩
   exact⟨v,[],by rw[fM,aF h0],.inr hv,by omega⟩
 | cons w ws=>exact⟨v++[10],fM (w::ws),rfl,.inl ⟨v,rfl⟩,by simp⟩
abbrev jO:=(Int×Unit)×((Int×(Int×(List bG×(Int×Int))))×((Bool×Unit)×(Int×Unit)))
def fA (i:Int) (sh:Int×Int) (l:List bG) (sum b:Int) (over:Bool) (at_:Int):jO:=((i,()),((sh.1,(sh.2,(l,(sum,b)))),((over,()),(at_,()))))
abbrev kZ:=(Int×(Int×(List bG×(Int×Int))))×Int
structure StepD (D:jO->Option kZ) (S:List Nat->(jO->Option kZ)->jO->Option kZ):Prop where
 d0:∀(i:Nat) sh l sum b at_,i<=3000000->D (fA i sh l sum b false at_)=some ((0,(0,([],(0,0)))),(i:Int)+1)
 d1:∀(i:Nat) sh l sum b at_,i<=3000000->D (fA i sh l sum b true at_)=some ((sh.1,(sh.2,(l,(sum,b)))),0)
 cut:∀y rec (i:Nat) sh l sum b over at_ w,i<=3000000->gW fuel (y,[10])=some (w,false)->S y rec (fA i sh l sum b over at_)=some ((0,(0,([],(0,0)))),(i:Int)+1)
 late:∀y rec (i:Nat) sh l sum b at_ w,i<=3000000->gW fuel (y,[10])=some (w,true)->S y rec (fA i sh l sum b true at_)=some ((0,(0,([],(0,0)))),(i:Int)+1)
 line:∀y rec (i:Nat) sh l (n:Nat) w,i<=3000000->l.length<=3000000->n<=3000000000->w.length<=1000->y.length<=1001->gW fuel (y,[10])=some (w,true)->
  S y rec (fA i sh l 0 0 false n)=(match (if i=0 then none else cC w bF 1) with
    | some ns=>rec (fA ((i:Int)+1) sh l (ns.getD 0 0) n true ((n:Int)+y.length))
    | none=>if i=0 then(match cC w cA 2 with
       | none=>some ((0,(0,([],(0,0)))),1)
       | some ns=>rec (fA ((i:Int)+1) (ns.getD 0 0,ns.getD 1 0) l 0 0 false ((n:Int)+y.length)))
      else(match gY w with
       | none=>some ((0,(0,([],(0,0)))),(i:Int)+1)
       | some x=>rec (fA ((i:Int)+1) sh (l++[x]) 0 0 false ((n:Int)+y.length))))
theorem c7 {D:jO->Option kZ} {S:List Nat->(jO->Option kZ)->jO->Option kZ} (h:StepD D S):∀(P:List (List Nat)),P≠[]->(∀w∈P,10∉w)->(∀w∈P,w.length<=1000)->∀(i:Nat) (sh:Int×Int) (l:List bG) (body:List Nat),i+P.length<=2000000->l.length<=i->body.length<=1001*i->
  fZ D S (fM P) (fA i sh l 0 0 false body.length)=some (kA (bP i sh l body P))
 | [],h0,_,_,_,_,_,_,_,_,_=>absurd rfl h0
 | [e],_,h10,hl,i,sh,l,body,hi,hll,hbl=>by
   simp only[cL,iD] at hi;have e10:=h10 e (by simp);have el:=hl e (by simp);rw[fM,bP];by_cases h0:e=[]
   ·rw[aK h0,fZ,h.d0 i _ _ _ _ _ (by omega)];rfl
   ·rw[aF h0,fZ,h.cut _ _ i _ _ _ _ _ _ _ (by omega) (wZ (by omega) e10)];rfl
 | w::v::ws,_,h10,hl,i,sh,l,body,hi,hll,hbl=>by
   simp only[cL] at hi;have wl:=hl w (by simp);have hv10:=h10 v (by simp);have vl:=hl v (by simp);have ih:=c7 h (v::ws) (by simp) (λx hx=>h10 x (bL _ hx)) (λx hx=>hl x (bL _ hx));have hlen:(((w++[10]).length:Nat):Int)=(w.length:Int)+1:=by simp
   rw[fM,fZ,h.line _ _ i _ _ body.length w (by omega) (by omega) (by omega) wl (by simp;omega) (uD (by omega))];rw[bP];cases e1:(if i=0 then none else cC w bF 1) with
   | some ns=>
     simp only;by_cases hv:v=[]/\ws=[]
     ·rw[aK hv,hv.1,hv.2,fM,aK rfl,fZ];have:=h.d1 (i+1) sh l (ns.getD 0 0) body.length ((body.length:Int)+ ((w++[10]).length:Nat)) (by omega);rw[show(((i+1:Nat):Int))=(i:Int)+1 by omega] at this;rw[this];rfl
     ·rw[aF hv];obtain⟨y,r,ey,hy,yl⟩:=jag hv hv10;rw[ey,fZ];obtain⟨c,hc⟩:=jaa (by omega) hy;have e2:(((i+1:Nat):Int))=(i:Int)+1:=by omega
      obtain⟨cw,cb⟩:=c;cases cb with
      | false=>
        have:=h.cut y (fZ D S r) (i+1) sh l (ns.getD 0 0) body.length true ((body.length:Int)+ ((w++[10]).length:Nat)) cw (by omega) hc;rw[e2] at this;rw[this];simp only[kA]
        congr 2
      | true=>
        have:=h.late y (fZ D S r) (i+1) sh l (ns.getD 0 0) body.length ((body.length:Int)+ ((w++[10]).length:Nat)) cw (by omega) hc;rw[e2] at this;rw[this];simp only[kA]
        congr 2
   | none=>
     simp only;have eb:(((body++(w++[10])).length:Nat):Int)=(body.length:Int)+ (((w++[10]).length:Nat):Int):=by rw[cZ];omega
     by_cases h0:i=0
     ·rw[aK h0,aK h0];subst h0;cases e2:cC w cA 2 with
      | none=>rfl
      | some ns=>
        simp only;have:=ih 1 (ns.getD 0 0,ns.getD 1 0) l (body++(w++[10])) (by simp only[cL];omega) (by omega) (by simp;omega);rw[eb] at this;exact this
     ·rw[aF h0,aF h0];cases e2:gY w with
      | none=>rfl
      | some x=>
        simp only;have:=ih (i+1) sh (l++[x]) (body++(w++[10])) (by simp only[cL];omega) (by simp;omega) (by simp;omega);rw[eb,show(((i+1:Nat):Int))=(i:Int)+1 by omega] at this;exact this
theorem zW:∀s:List Nat,∀w∈aM 10 s,10∉w
 | [],w,hw=>by simp[aM] at hw;subst hw;simp
 | b::s,w,hw=>by
   have ih:=zW s;unfold aM at hw;split at hw
   ·rcases bJ.1 hw with rfl | hw
    ·simp
    ·exact ih w hw
   ·rename_i hb;split at hw
    ·rename_i v vs e;rw[e] at ih;rcases bJ.1 hw with rfl | hw
     ·intro g;rcases bJ.1 g with g | g
      ·exact hb g.symm
      ·exact ih v bH g
     ·exact ih w (bL _ hw)
    ·simp at hw;subst hw;intro g;simp at g;exact hb g.symm
theorem aY {α:Type} {c:Bool} {x:Option α} (h:c=true):aB c x=x:=by rw[h];rfl
theorem dG {α:Type} {p:Prop} {inst:Decidable p} {x y:α} (h:¬p):(bif @decide p inst then x else y)=y:=by rw[kN h];rfl
theorem cO {α:Type} {p:Prop} {inst:Decidable p} {x y:α} (h:p):(bif @decide p inst then x else y)=x:=by rw[bD h];rfl
theorem J8 {s:List Nat} (hs:s.length<=1000000) (hp:∀w∈aM 10 s,w.length<=1000):yD fuel s=some (kA (bP 0 (0,0) [] [] (aM 10 s))):=by
 have hlen:(aM 10 s).length<=1000001:=by have:=(lJ 10 s).1;omega
 unfold yD V9;simp only;rw[bE,bD (by omega),aH,aC,rX s.length s (bV _)];refine c7 ?_ (aM 10 s) (jX 10 s) (zW s) hp 0 (0,0) [] [] (by omega) (bV _) (bV _);have endE:([101,110,100]:List Nat)=bF:=rfl;have creE:([99,114,101,97,115,101]:List Nat)=cA:=rfl;refine⟨λi sh l sum b at_ hi=>?_,λi sh l sum b at_ hi=>?_,λy rec i sh l sum b over at_ w hi hc=>?_,λy rec i sh l sum b at_ w hi hc=>?_,λy rec i sh l n w hi hl hn hw hy hc=>?_⟩
 ·apply Ret.eq;simp only[fA];exact cV (λ_=>aA (aG (by omega) (by omega)) (aS rfl)) λg=>by cases g
 ·apply Ret.eq;simp only[fA];exact cV (λg=>by cases g) λ_=>aS rfl
 ·apply Ret.eq;simp only[fA];refine aA (aG (by omega) (by omega)) ?_;rw[hc,aC];exact cV (λ_=>aS rfl) λg=>by cases g
 ·apply Ret.eq;simp only[fA];refine aA (aG (by omega) (by omega)) ?_;rw[hc,aC];exact cV (λg=>by cases g) λ_=>cV (λ_=>aS rfl) λg=>by cases g
 ·have hy':(y.length:Int)<=1001:=by omega
  simp only[fA];rw[aY (aG (by omega) (by omega)),hc,aC];simp only[fS,aJ];have n1:=uM (line:=w) (word:=bF) (many:=1) (by omega) (by omega);have n2:=uM (line:=w) (word:=cA) (many:=2) (by omega) (by omega);rw[show(((1:Nat)):Int)=1 from rfl] at n1;rw[show(((2:Nat)):Int)=2 from rfl] at n2;rw[endE,creE,n1,n2];simp only[aC];by_cases h0:i=0
  ·have q1:¬((1:Int)< (i:Int)+1):=by omega
   have q2:(i:Int)+1=1:=by omega
   rw[aK h0];simp only;rw[aK h0];cases e2:cC w cA 2 with
   | none=>
     cases cC w bF 1 with
     | none=>simp only[aJ];(refine(cO q2).trans ?_;rw[q2];rfl)
     | some ms=>simp only[aH];(refine(dG q1).trans ((cO q2).trans ?_);rw[q2];rfl)
   | some ns=>
     have l2:=uN e2;cases cC w bF 1 with
     | none=>
       simp only[fS,aJ];refine(cO q2).trans ?_;rw[aY (aV (by omega) (by omega)),aY (aV (by omega) (by omega)),aY (aG (by omega) (by omega))]
     | some ms=>
       simp only[fS,aJ,aH];refine(dG q1).trans ((cO q2).trans ?_);rw[aY (aV (by omega) (by omega)),aY (aV (by omega) (by omega)),aY (aG (by omega) (by omega))]
  ·have q1:(1:Int)< (i:Int)+1:=by omega
   have q2:¬((i:Int)+1=1):=by omega
   rw[aF h0];cases e1:cC w bF 1 with
   | some ns=>
     have l1:=uN e1;simp only[aH];refine(cO q1).trans ?_;rw[aY (aV (by omega) (by omega)),aY (aG (by omega) (by omega))]
   | none=>
     simp only[aJ];refine(dG q2).trans ?_;rw[aF h0];rcases y9 hw with⟨x,p1,p2⟩ | ⟨p1,r,p2,p3⟩
     ·rw[p1,p2,aC];simp only;refine(dG (λg=>g rfl)).trans ?_;rw[aY (eT (by omega)),aY (aG (by omega) (by omega))]
     ·rw[p1,p2,aC];simp only;exact cO p3
end X
end Go.Vm
namespace Go.Vm
namespace X
open W
abbrev iR:=List bG×(List Nat×(Int×(Int×(Int×((Int×(Int×Unit))×(Int×Int))))))
def tD (l:List bG) (body:List Nat) (sum e i:Int) (sh:Int×Int):iR:=(l,(body,(sum,(e,(i,((0,(0,())),sh))))))
structure StepT {β:Type} (P:List (List Nat)) (S:(iR->Option β)->iR->Option β) (T:iR->Option β) (bad:Int->β):Prop where
 stop:∀rec l body sum e sh,S rec (tD l body sum e (P.length:Int) sh)=T (tD l body sum e (P.length:Int) sh)
 last:∀rec (i:Nat) (h:i+1=P.length) l body sum (e:Nat) sh,body.length<=3000000000->S rec (tD l body sum e (i:Int) sh)=if P[i]=[]/\0<e then rec (tD l body sum e ((i:Int)+1) sh) else some (bad ((i:Int)+1))
 late:∀rec (i:Nat),i+1<P.length->∀l body sum (e:Nat) sh,0<e->S rec (tD l body sum e (i:Int) sh)=some (bad ((i:Int)+1))
 line:∀rec (i:Nat) (h:i+1<P.length) l body sum sh,l.length<=2000000->body.length<=3000000000->S rec (tD l body sum 0 (i:Int) sh)=
  (if i=0 then(match cC P[i] cA 2 with
      | none=>some (bad 1)
      | some ns=>rec (tD l (body++(P[i]++[10])) sum 0 ((i:Int)+1) (ns.getD 0 0,ns.getD 1 0)))
    else(match cC P[i] bF 1 with
     | some ns=>rec (tD l body (ns.getD 0 0) ((i:Int)+1) ((i:Int)+1) sh)
     | none=>(match gY P[i] with
       | none=>some (bad ((i:Int)+1))
       | some x=>rec (tD (l++[x]) (body++(P[i]++[10])) sum 0 ((i:Int)+1) sh))))
end X
end Go.Vm
namespace Go.Vm
namespace X
open W
set_option maxRecDepth 100000
abbrev lA:=(Int×(Int×(List (Int×(Int×Int)))))×(Int×Int)
def nB (m:Int):lA:=((0,(0,[])),(m,4))
theorem iP {σ β:Type} {k:σ->Option β} {f:(σ->Option β)->Option β}:jn k f=f k:=rfl
end X
end Go.Vm
namespace Go.Vm
namespace X
open W
end X
end Go.Vm
namespace Go.Vm
namespace X
open W Go.Proofs.Un
theorem vF {α:Type} {r:α->α->Bool} (tr:∀x y z,r x y=true->r y z=true->r x z=true):∀ {l:List α},iA r l=true->l.Pairwise λx y=>r x y=true
 | [],_=>List.Pairwise.nil
 | x::l,h=>by
   simp only[iA,aW] at h;have ih:=vF tr h.2;refine jH.2 ⟨λy hy=>?_,ih⟩;cases l with
   | nil=>cases hy
   | cons z l=>
     rcases bJ.1 hy with e | hy
     ·rw[e];exact h.1
     ·exact tr _ _ _ h.1 ((jH.1 ih).1 y hy)
theorem vH {x y:aP}:p9 x y=true↔x.1<y.1\/x.1=y.1/\x.2<y.2:=by
 simp[p9]
def Nx (x y:aI):Prop:=x.2.1.1<y.2.1.1\/x.2.1.1=y.2.1.1/\(x.2.1.2<y.2.1.2\/x.2.1.2=y.2.1.2/\x.2.2.2<=y.2.2.1)
theorem vX {x y:aI}:y8 x y=true↔Nx x y:=by
 simp[y8,Nx]
structure LiOK (w h:Nat) (x:aI):Prop where
 k1:1<=x.2.1.1
 k4:x.2.1.1<=4
 c0: -(w:Int)<=x.2.1.2
 c1:x.2.1.2<=(w:Int)+h
 f0:0<=x.2.2.1
 ft:x.2.2.1<x.2.2.2
 t1:x.2.2.2<=2* ((w:Int)+h)
 u0:0<=x.1.1
 u1:x.1.1<4* (w:Int)*h
 e0:0<=x.1.2
 e2:x.1.2<=2
section
variable {w h:Nat} {T:List aI}
theorem Tab.li (t:Tab w h T) {x:aI} (hx:x∈T):LiOK w h x:=by
 have:=cI.1 t.ok x hx;simp only[jdp,aW,aQ] at this;obtain⟨⟨⟨⟨⟨⟨⟨⟨⟨⟨a1,a2⟩,a3⟩,a4⟩,a5⟩,a6⟩,a7⟩,a8⟩,a9⟩,a10⟩,a11⟩:=this;exact⟨a1,a2,a3,a4,a5,a6,a7,a8,a9,a10,a11⟩
theorem Tab.asc (t:Tab w h T):(T.map (·.1)).Pairwise λx y=>x.1<y.1\/x.1=y.1/\x.2<y.2:=
 (vF (λx y z h1 h2=>by rw[vH] at *;omega) t.up).imp λh=>vH.1 h
theorem Tab.ndU (t:Tab w h T):(T.map (·.1)).Nodup:=t.asc.imp λ{a b} h e=>by subst e;omega
theorem pA {α:Type} {l:List α} (h:l.Nodup) {i j:Nat} (hi:i<l.length) (hj:j<l.length) (e:l[i]=l[j]):i=j:=by
 rcases oN i j with g | g | g
 ·exact absurd e (fV.1 h i j hi hj g)
 ·exact g
 ·exact absurd e.symm (fV.1 h j i hj hi g)
theorem Tab.unitInj (t:Tab w h T) {x y:aI} (hx:x∈T) (hy:y∈T) (e:x.1=y.1):x=y:=by
 obtain⟨i,hi,rfl⟩:=fH hx;obtain⟨j,hj,rfl⟩:=fH hy;have h1:(T.map (·.1))[i]'(by simpa using hi)=(T.map (·.1))[j]'(by simpa using hj):=by simpa using e
 have:=pA t.ndU _ _ h1;subst this;rfl
theorem vZ {α:Type} {r:α->α->Bool}:∀ {l:List α},d9 r l=true->l.Pairwise λx y=>r x y=true
 | [],_=>List.Pairwise.nil
 | x::l,h=>by
   simp only[d9,aW] at h;exact jH.2 ⟨λy hy=>cI.1 h.1 y hy,vZ h.2⟩
theorem Tab.key (t:Tab w h T):KeyD T:=(vZ t.kd).imp λ{x y} h ⟨h1,h2⟩=>by
 simp[jdg,h1,h2] at h
theorem Tab.len (t:Tab w h T) (hw:w<=6) (hh:h<=6):T.length<=1000:=by
 have hn:=t.ndU;have:(T.map (·.1)).length<=1000:=by
  have hsub:∀u∈T.map (·.1),u∈((List.range 144).flatMap fun(i:Nat)=>(List.range 3).map fun(e:Nat)=>(((i:Nat):Int),((e:Nat):Int))):=by
   intro u hu;obtain⟨x,hx,rfl⟩:=bC.1 hu;have:=t.li hx;have h1:=this.u0;have h2:=this.u1;have h3:=this.e0;have h4:=this.e2
   have h5:4* (w:Int)*h<=4*6*6:=by
    have:w*h<=6*6:=gL hw hh;have e:(4* (w:Int)*h)=4* ((w*h:Nat):Int):=by rw[nW,sJ]
    omega
   refine iV.2 ⟨x.1.1.toNat,eZ.2 (by omega),bC.2 ⟨x.1.2.toNat,eZ.2 (by omega),?_⟩⟩;exact iN (by simp only;omega) (by simp only;omega)
  have:=hn.length_le_of_subset hsub;exact gE this (by decide +kernel)
 simpa using this
theorem jau (t:Tab w h T) (hw:1<=w/\w<=6) (hh:1<=h/\h<=6):A4 fuel ((w:Int),(h:Int))=some (jZ T):=by
 have hlen:=t.len hw.2 hh.2;apply Ret.eq;unfold A4;rw[t.us,aC];refine cS (λs:Int×List (((Int×Int)×Int)×((Int×Int)×Int))=>∃i:Nat,s.1=(i:Int)/\i<=T.length/\s.2=jZ (T.take i)) (λs=>T.length-s.1.toNat) ?_ fuel _ ⟨0,rfl,eW _,rfl⟩ (by simp only[fuel];omega);rintro ⟨s1,s2⟩ rec ⟨i,h1,h2,h3⟩ hrec;simp only at h1 h3 ⊢;subst h1;subst h3;refine aD (λhlt=>?_) λhge=>?_
 ·rw[cY] at hlt;have hi:i<T.length:=by omega
  have hx:(T.map (·.1)).getD ((i:Int).toNat) (0,0)=T[i].1:=by
   rw[cK,gP,mG,dE hi];rfl
  rw[hx];have hl:=cI.1 t.lie _ (bX hi);unfold D3 at hl;refine aA (aV (by omega) (by rw[cY];exact hlt)) ?_;split at hl
  rotate_left
  ·cases hl
  rename_i r hr;rw[hr,aC];simp only[aW,aQ] at hl;obtain⟨⟨⟨l1,l2⟩,l3⟩,l4⟩:=hl;refine aA (aG (by omega) (by omega)) (hrec _ ⟨i+1,by simp,hi,?_⟩ (by simp only;omega));rw[l1,l2,l3,l4,pU T i hi,jfy]
  ·unfold jZ;rw[eI];rfl
  ·intro a ha;obtain⟨y,hy,rfl⟩:=bC.1 ha;cases hq:KT.eqb ((T[i].2.1.1,T[i].2.1.2),T[i].2.2.1) (y.2.1,y.2.2.1) with
   | false=>rfl
   | true=>
     have e:=(jc5 _ _).1 hq;simp only[bK] at e;obtain⟨j,hj,hjy⟩:=qe3.1 hy;have hkd:=fV.1 t.key j i (by omega) hi (by omega);rw[hjy] at hkd;exact absurd (And.intro e.1.symm e.2.symm) hkd
 ·have hi:i=T.length:=by rw[cY] at hge;omega
  subst hi;rw[iL];exact aS rfl
end
end X
end Go.Vm
namespace Go.Vm
namespace X
open W
def TB (T:List aI):Prop:=∀x∈T,0<=x.2.2.1/\x.2.2.1<x.2.2.2/\x.2.2.2<=24
theorem Tab.tb {w h:Nat} {T:List aI} (t:Tab w h T) (hw:w<=6) (hh:h<=6):TB T:=λx hx=>by
 have:=t.li hx;exact⟨this.f0,this.ft,by have:=this.t1;omega⟩
def wk (T:List aI) (l:Int×Int) (tq:Int):Nat->Int->Option (List aP)
 | 0,_=>none
 | n+1,p=>if p=tq then some [] else match dM T l p with
   | none=>none
   | some x=>if tq<x.2.2.2 then none else(wk T l tq n x.2.2.2).map (x.1::·)
def mm (p:Int):Nat:=if 0<=p/\p<=24 then(24-p).toNat+1 else 26
theorem wV {T:List aI} (hT:TB T) {l:Int×Int} {tq:Int}:∀(n m:Nat) (p:Int),mm p<=n->mm p<=m->wk T l tq n p=wk T l tq m p
 | 0,_,p,h,_=>by unfold mm at h;split at h<;>omega
 | n+1,0,p,_,h=>by unfold mm at h;split at h<;>omega
 | n+1,m+1,p,hn,hm=>by
   simp only[wk];split
   ·rfl
   ·cases hl:dM T l p with
    | none=>rfl
    | some x=>
      obtain⟨h1,h2,h3⟩:=iB hl;obtain⟨b1,b2,b3⟩:=hT x h1;have e:mm x.2.2.2+1<=mm p:=by
       unfold mm;rw[aK (by omega),aK (by omega)];omega
      simp only;rw[wV hT n m x.2.2.2 (by omega) (by omega)]
def dS (T:List aI) (l:Int×Int) (tq p:Int):Option (List aP):=wk T l tq (mm p) p
theorem lF {T:List aI} (hT:TB T) (l:Int×Int) (tq p:Int):dS T l tq p=if p=tq then some [] else match dM T l p with
  | none=>none
  | some x=>if tq<x.2.2.2 then none else(dS T l tq x.2.2.2).map (x.1::·):=by
 unfold dS;cases hm:mm p with
 | zero=>unfold mm at hm;split at hm<;>omega
 | succ n=>
   simp only[wk];split
   ·rfl
   ·cases hl:dM T l p with
    | none=>rfl
    | some x=>
      obtain⟨h1,h2,h3⟩:=iB hl;obtain⟨b1,b2,b3⟩:=hT x h1;have e:mm x.2.2.2+1<=mm p:=by
       unfold mm;rw[aK (by omega),aK (by omega)];omega
      simp only;rw[wV hT n (mm x.2.2.2) x.2.2.2 (by omega) (bV _)]
abbrev aL:=Int×((Int×Int)×(Int×Int))
structure OrdP (x:aL):Prop where
 k1:1<=x.1
 k3:x.1<=3
 l1:1<=x.2.1.1
 l4:x.2.1.1<=4
 c0: -4096<=x.2.1.2
 c1:x.2.1.2<=4096
 ft:x.2.2.1<x.2.2.2
open Classical in
noncomputable def cJ (T:List aI) (x:aL):List aP×Int:=if OrdP x then(match dS T x.2.1 x.2.2.2 x.2.2.1 with
 | none=>([],7)
 | some u=>(u,0)) else([],1)
theorem jal (l:Int×Int):lG fuel l=some 0/\(1<=l.1/\l.1<=4/\ -4096<=l.2/\l.2<=4096)\/lG fuel l=some 1/\¬(1<=l.1/\l.1<=4/\ -4096<=l.2/\l.2<=4096):=by
 unfold lG;by_cases h1:l.1<1
 ·simp only[h1,aU,aH];exact .inr ⟨trivial,by omega⟩
 by_cases h2:4<l.1
 ·simp only[h1,h2,aU,aT,aH,aJ];exact .inr ⟨trivial,by omega⟩
 by_cases h3:l.2 < -4096
 ·simp only[h1,h2,h3,aU,aT,aH,aJ];exact .inr ⟨trivial,by omega⟩
 by_cases h4:4096<l.2
 ·simp only[h1,h2,h3,h4,aU,aT,aH,aJ];exact .inr ⟨trivial,by omega⟩
 simp only[h1,h2,h3,h4,aT,aJ];exact .inl ⟨trivial,by omega⟩
theorem jas (x:aL):∃b,oV fuel x=some b/\(b=true↔OrdP x):=by
 unfold oV;by_cases h1:1<=x.1
 rotate_left
 ·simp only[h1,aT,aJ];exact⟨_,rfl,by simp;intro h;exact h1 h.k1⟩
 by_cases h2:x.1<=3
 rotate_left
 ·simp only[h1,h2,aU,aT,aH,aJ];exact⟨_,rfl,by simp;intro h;exact h2 h.k3⟩
 simp only[h1,h2,aU,aH];rcases jal (x.2.1.1,x.2.1.2) with⟨e,g⟩ | ⟨e,g⟩
 ·rw[e,aC];simp only[aU,aH];simp only at g;exact⟨_,rfl,by simp only[aQ];exact⟨λh=>⟨h1,h2,g.1,g.2.1,g.2.2.1,g.2.2.2,h⟩,λh=>h.ft⟩⟩
 ·rw[e,aC];simp only[show((1:Int)=0)=False by simp,aT,aJ];exact⟨_,rfl,by simp;intro h;exact g ⟨h.l1,h.l4,h.c0,h.c1⟩⟩
section
variable {w h:Nat} {T:List aI}
theorem kR (hw:1<=w/\w<=6) (hh:1<=h/\h<=6):gG fuel ((w:Int),(h:Int))=some 0:=by
 unfold gG;have h5:w*h<=6*6:=gL hw.2 hh.2;have e:((w:Int)*h)=((w*h:Nat):Int):=by rw[nW]
 have n1:¬((w:Int)<1):=by omega
 have n2:¬((h:Int)<1):=by omega
 have n3:¬((256:Int)<w):=by omega
 have n4:¬((256:Int)<h):=by omega
 have n5:¬((256:Int)< (w:Int)*h):=by omega
 simp only[n1,n2,n3,n4,aT,aJ];rw[aG (by omega) (by omega)];simp only[aB,aH,n5,aT,aJ]
end
end X
end Go.Vm
namespace Go.Vm
namespace X
open W
section
variable {w h:Nat} {T:List aI}
theorem wT {T:List aI} (hT:TB T) {l:Int×Int} {tq:Int} (h24:24<tq):∀(n:Nat) (p:Int),p<tq->wk T l tq n p=none
 | 0,_,_=>rfl
 | n+1,p,hp=>by
   simp only[wk];rw[aF (by omega)];cases hl:dM T l p with
   | none=>rfl
   | some x=>
     obtain⟨h1,h2,h3⟩:=iB hl;obtain⟨b1,b2,b3⟩:=hT x h1;simp only;rw[wT hT h24 n x.2.2.2 (by omega)];split<;>rfl
theorem uW {T:List aI} (hT:TB T) {l:Int×Int} {tq:Int}:∀(n:Nat) (p:Int) (u:List aP),wk T l tq n p=some u->u=[]\/(0<=p/\p<24/\u.length<=(24-p).toNat)
 | 0,_,_,h=>by cases h
 | n+1,p,u,h=>by
   simp only[wk] at h;split at h
   ·cases h;exact .inl rfl
   ·cases hl:dM T l p with
    | none=>rw[hl] at h;cases h
    | some x=>
      obtain⟨h1,h2,h3⟩:=iB hl;obtain⟨b1,b2,b3⟩:=hT x h1;rw[hl] at h;simp only at h;split at h
      ·cases h
      ·obtain⟨v,hv,rfl⟩:=fR.1 h;right;rcases uW hT n _ v hv with rfl | ⟨g1,g2,g3⟩
       ·simp only[cL,iD];omega
       ·simp only[cL];omega
theorem T0 (hT:TB T) {x:aL} (hx:64<x.2.2.2\/x.2.2.1 < -64):(cJ T x).2≠0:=by
 unfold cJ;split
 ·rename_i ho;have:dS T x.2.1 x.2.2.2 x.2.2.1=none:=by
   rcases hx with hx | hx
   ·exact wT hT (by omega) _ _ ho.ft
   ·rw[lF hT,aF (by have:=ho.ft;omega)];cases hl:dM T x.2.1 x.2.2.1 with
    | none=>rfl
    | some y=>
      obtain⟨g1,g2,g3⟩:=iB hl;have:=(hT y g1).1;omega
  rw[this];simp
 ·simp
end
end X
end Go.Vm
namespace Go.Vm
namespace X
open W
def eE (u:aP) (c:aO):Bool:=decide (c.1=u.1)&&decide (c.2.1=u.2)
theorem kC {u:aP} {c:aO}:eE u c=true↔(c.1,c.2.1)=u:=by
 simp[eE,qhl]
def aN (out:List aO) (u:aP):Int:=match out.find? (eE u) with
 | some c=>c.2.2
 | none=>0
def aZ (c:aO):aP:=(c.1,c.2.1)
abbrev UT:Ty:=.prod (.int .i64) (.int .u8)
abbrev K8:Ty:=.int .u8
theorem iG (a b:aP):UT.eqb a b=true↔a=b:=by
 obtain⟨a1,a2⟩:=a;obtain⟨b1,b2⟩:=b;simp only[Ty.eqb];by_cases h1:a1=b1
 ·simp[h1]
 ·simp[h1]
theorem vW (u v:aP) (k:Int):∀L:List (aP×Int),eU UT K8 u (kX UT K8 v k L)=if u=v then some k else eU UT K8 u L
 | []=>by
   show(bif UT.eqb u v then some k else none)=_;by_cases h:u=v
   ·rw[aK h,(iG u v).2 h];rfl
   ·rw[aF h];cases hq:UT.eqb u v with
    | true=>exact absurd ((iG u v).1 hq) h
    | false=>rfl
 | a::L=>by
   show eU UT K8 u (bif UT.eqb v a.1 then(v,k)::L else a::kX UT K8 v k L)=if u=v then some k else(bif UT.eqb u a.1 then some a.2 else eU UT K8 u L)
   cases hv:UT.eqb v a.1 with
   | true=>
     have hva:=(iG _ _).1 hv;show(bif UT.eqb u v then some k else eU UT K8 u L)=_;by_cases h:u=v
     ·rw[aK h,(iG u v).2 h];rfl
     ·rw[aF h];cases hq:UT.eqb u v with
      | true=>exact absurd ((iG u v).1 hq) h
      | false=>
        cases hq2:UT.eqb u a.1 with
        | true=>exact absurd (((iG u a.1).1 hq2).trans hva.symm) h
        | false=>rfl
   | false=>
     show(bif UT.eqb u a.1 then some a.2 else eU UT K8 u (kX UT K8 v k L))=_;cases hq2:UT.eqb u a.1 with
     | true=>
       have e:=(iG u a.1).1 hq2;have:u≠v:=λe2=>by
        have h1:=(iG v a.1).2 (e2▸e);rw[hv] at h1;cases h1
       rw[aF this];rfl
     | false=>
       rw[aJ,aJ,vW u v k L]
structure OutOK (T:List aI) (out:List aO):Prop where
 nd:(out.map aZ).Nodup
 sub:∀c∈out,aZ c∈T.map (·.1)
 k1:∀c∈out,1<=c.2.2/\c.2.2<=3
theorem mF {out:List aO} (hn:(out.map aZ).Nodup) {c:aO} (hc:c∈out):aN out (aZ c)=c.2.2:=by
 unfold aN;cases h:out.find? (eE (aZ c)) with
 | none=>exact absurd (kC.2 rfl) (mP.1 h c hc)
 | some d=>
   have h1:=tK h;have h2:=kC.1 (tM h);obtain⟨i,hi,rfl⟩:=fH hc;obtain⟨j,hj,rfl⟩:=fH h1;have:=pA hn (i:=i) (j:=j) (by simpa using hi) (by simpa using hj) (by simpa[aZ] using h2.symm);subst this;rfl
theorem jL {T:List aI} {out:List aO} (ho:OutOK T out) {u:aP}:aN out u=0↔u∉out.map aZ:=by
 unfold aN;cases h:out.find? (eE u) with
 | none=>
   refine⟨λ_ hm=>?_,λ_=>rfl⟩;obtain⟨c,hc,e⟩:=bC.1 hm;exact absurd (kC.2 e) (mP.1 h c hc)
 | some c=>
   have h1:=tK h;have h2:=kC.1 (tM h);have:=ho.k1 c h1;refine⟨λe=>by simp only at e;omega,λhn=>absurd (bC.2 ⟨c,h1,h2⟩) hn⟩
theorem yG {T:List aI} {out:List aO} (ho:OutOK T out) {v:aP} {k:Int} (hv:aN out v=0) (u:aP):aN (out++[(v.1,(v.2,k))]) u=if u=v then k else aN out u:=by
 have hnot:=(jL ho).1 hv;unfold aN;rw[qgr];by_cases h:u=v
 ·subst h;have:out.find? (eE u)=none:=mP.2 λc hc hq=>hnot (bC.2 ⟨c,hc,kC.1 hq⟩)
  rw[this,aK rfl];simp[eE]
 ·rw[aF h];cases hf:out.find? (eE u) with
  | some c=>rfl
  | none=>
    have:eE u (v.1,(v.2,k))=false:=by
     cases hq:eE u (v.1,(v.2,k)) with
     | false=>rfl
     | true=>exact absurd (kC.1 hq).symm h
    simp[this]
theorem OutOK.add {T:List aI} {out:List aO} (ho:OutOK T out) {v:aP} {k:Int} (hv:aN out v=0) (hT:v∈T.map (·.1)) (hk:1<=k/\k<=3):OutOK T (out++[(v.1,(v.2,k))]):=by
 have hnot:=(jL ho).1 hv;refine⟨?_,λc hc=>?_,λc hc=>?_⟩
 ·rw[eI,qM];refine⟨ho.nd,by simp,λa ha b hb e=>?_⟩;have:b=v:=by simpa[aZ] using hb
  subst this;subst e;exact hnot ha
 ·rcases bU.1 hc with hc | hc
  ·exact ho.sub c hc
  ·rw[cD.1 hc];exact hT
 ·rcases bU.1 hc with hc | hc
  ·exact ho.k1 c hc
  ·rw[cD.1 hc];exact hk
theorem OutOK.len {w h:Nat} {T:List aI} (t:Tab w h T) (hw:w<=6) (hh:h<=6) {out:List aO} (ho:OutOK T out):out.length<=1000:=by
 have:=ho.nd.length_le_of_subset (l₂:=T.map (·.1)) (λu hu=>by
  obtain⟨c,hc,rfl⟩:=bC.1 hu;exact ho.sub c hc)
 have:=t.len hw hh;simp only[cY] at *;omega
def eF (k:Int):List aO->List aP->Option (List aO)
 | out,[]=>some out
 | out,v::us=>if aN out v=0 then eF k (out++[(v.1,(v.2,k))]) us else none
noncomputable def dI (T:List aI):Int->List aO->List aL->(List aO) ⊕ (Int×Int)
 | _,out,[]=>.inl out
 | i,out,x::l=>if(cJ T x).2=0 then(match eF x.1 out (cJ T x).1 with
   | none=>.inr (i,8)
   | some out'=>dI T (i+1) out' l) else .inr (i,(cJ T x).2)
theorem wU {T:List aI} {l:Int×Int} {tq:Int}:∀(n:Nat) (p:Int) (u:List aP),wk T l tq n p=some u->∀v∈u,v∈T.map (·.1)
 | 0,_,_,h=>by cases h
 | n+1,p,u,h=>by
   simp only[wk] at h;split at h
   ·cases h;intro v hv;cases hv
   ·cases hl:dM T l p with
    | none=>rw[hl] at h;cases h
    | some x=>
      rw[hl] at h;simp only at h;split at h
      ·cases h
      ·obtain⟨v,hv,rfl⟩:=fR.1 h;intro a ha;rcases bJ.1 ha with rfl | ha
       ·exact bC.2 ⟨x,(iB hl).1,rfl⟩
       ·exact wU n _ v hv a ha
theorem sV {T:List aI} {x:aL}:∀v∈(cJ T x).1,v∈T.map (·.1):=by
 unfold cJ;by_cases ho:OrdP x
 ·rw[aK ho];cases hu:dS T x.2.1 x.2.2.2 x.2.2.1 with
  | none=>intro v hv;cases hv
  | some u=>exact wU _ _ _ hu
 ·rw[aF ho];intro v hv;cases hv
theorem zL {T:List aI} {x:aL} (h:(cJ T x).2=0):1<=x.1/\x.1<=3:=by
 unfold cJ at h;by_cases ho:OrdP x
 ·exact⟨ho.k1,ho.k3⟩
 ·rw[aF ho] at h;cases h
theorem pW {T:List aI} {k:Int} (hk:1<=k/\k<=3):∀(us:List aP) (out out':List aO),OutOK T out->(∀v∈us,v∈T.map (·.1))->eF k out us=some out'->OutOK T out'
 | [],out,out',ho,_,e=>by cases e;exact ho
 | v::us,out,out',ho,hu,e=>by
   simp only[eF] at e;split at e
   ·rename_i h0;exact pW hk us _ _ (ho.add h0 (hu v (bH ..)) hk) (λa ha=>hu a (bL _ ha)) e
   ·cases e
theorem qI {T:List aI}:∀(l:List aL) (i:Int) (out out':List aO),OutOK T out->dI T i out l=.inl out'->OutOK T out'
 | [],i,out,out',ho,e=>by cases e;exact ho
 | x::l,i,out,out',ho,e=>by
   simp only[dI] at e;split at e
   ·rename_i h0;cases ha:eF x.1 out (cJ T x).1 with
    | none=>rw[ha] at e;cases e
    | some o2=>
      rw[ha] at e;exact qI l _ _ _ (pW (zL h0) _ _ _ ho sV ha) e
   ·cases e
theorem lB {T:List aI}:OutOK T []:=⟨qgj,(λc hc=>by cases hc),(λc hc=>by cases hc)⟩
def dD (T:List aI) (out:List aO):List aO:=T.filterMap λx=>if aN out x.1=0 then none else some (x.1.1,(x.1.2,aN out x.1))
theorem J9 {T:List aI} {out:List aO} (ho:OutOK T out) (c:aO):c∈dD T out↔c∈out:=by
 unfold dD;rw[qK];constructor
 ·rintro ⟨x,hx,e⟩;split at e
  ·cases e
  ·rename_i h0;have:∃d∈out,aZ d=x.1:=by
    have:x.1∈out.map aZ:=by
     apply nJ;intro hn;exact h0 ((jL ho).2 hn)
    exact bC.1 this
   obtain⟨d,hd,ed⟩:=this;have hk:=mF ho.nd hd;rw[ed] at hk;rw[hk] at e;cases e;rw[<-ed];exact hd
 ·intro hc;obtain⟨x,hx,ex⟩:=bC.1 (ho.sub c hc);refine⟨x,hx,?_⟩;have hk:=mF ho.nd hc;have:=ho.k1 c hc;rw[ex,hk,aF (by omega)];rfl
theorem kJ {n:Int} (h:0<=n) (h2:n<=1000):RowKit.wrap64 n=n:=by unfold RowKit.wrap64;omega
theorem oK {w h:Nat} {T:List aI} (t:Tab w h T) (out:List aO):(dD T out).Pairwise λa b=>jP a b<0:=by
 have hp:T.Pairwise λx y=>x∈T/\y∈T/\(x.1.1<y.1.1\/x.1.1=y.1.1/\x.1.2<y.1.2):=by
  have:=pB.1 t.asc;rw[fV] at this ⊢;intro i j hi hj hij;exact⟨bX _,bX _,this i j hi hj hij⟩
 refine qff _ (λx y hxy a ha b hb=>?_) hp;obtain⟨hx,hy,hlt⟩:=hxy;have lx:=t.li hx;have ly:=t.li hy;split at ha<;>simp only[F7,reduceCtorEq,bA] at ha
 split at hb<;>simp only[F7,reduceCtorEq,bA] at hb
 subst ha hb;rw[mK];simp only;rw[kJ lx.e0 (by have:=lx.e2;omega),kJ ly.e0 (by have:=ly.e2;omega)];exact hlt
theorem pM {w h:Nat} {T:List aI} (t:Tab w h T) {out:List aO} (ho:OutOK T out):out.Perm (dD T out):=by
 have n1:out.Nodup:=E8 _ (λa b h e=>h (by rw[e])) ho.nd;have n2:(dD T out).Nodup:=(oK t out).imp λ{a b} h e=>by subst e;rw[mK] at h;omega
 exact(F0 n1 n2).2 λc=>(J9 ho c).symm
theorem m9 {w h:Nat} {T:List aI} (t:Tab w h T) {out:List aO} (ho:OutOK T out):sortC jP out=dD T out:=by
 have hs:=oK t out;have hp:=(sT jP out).trans (pM t ho);refine tP jP (λx hx y hy h1 h2=>?_) (A5 jP jd8 out) (hs.imp λ{a b} h c=>by rw[mK] at *;omega) hp;have hx:=hp.subset hx;have hy:=hp.subset hy;obtain⟨i,hi,rfl⟩:=fH hx;obtain⟨j,hj,rfl⟩:=fH hy;rw[fV] at hs;rcases oN i j with g | g | g
 ·exact absurd (hs i j hi hj g) h1
 ·subst g;rfl
 ·exact absurd (hs j i hj hi g) h2
theorem jap {w h:Nat} {T:List aI} (t:Tab w h T) {out:List aO} (ho:OutOK T out):d7 out=true:=by
 unfold d7;rw[m9 t ho];exact E6 (oK t out)
end X
end Go.Vm
namespace Go.Vm
namespace X
open W
section
variable {w h:Nat} {T:List aI}
theorem ja3 (hT:TB T) {l:Int×Int} {tq:Int} {β:Type} (bad:β) (K:List aP->Option β)
  {step:((List aP×Int)->Option β)->(List aP×Int)->Option β}
  (hs:∀rec s,step rec s=bif(decide (s.2≠tq)) then(bif(!(eU KT VT ((l.1,l.2),s.2) (jZ T)).isSome) then(some bad) else(bif(decide (tq< ((eU KT VT ((l.1,l.2),s.2) (jZ T)).getD ((0,0),0)).2)) then(some bad) else(aB (gA (s.1.length+1)) (rec ((s.1++[(((eU KT VT ((l.1,l.2),s.2) (jZ T)).getD ((0,0),0)).1.1,((eU KT VT ((l.1,l.2),s.2) (jZ T)).getD ((0,0),0)).1.2)]),((eU KT VT ((l.1,l.2),s.2) (jZ T)).getD ((0,0),0)).2))))) else K s.1) (p:Int):
  dW step fuel ([],p)=(match dS T l tq p with
   | none=>some bad
   | some u=>K u):=by
 refine(oZ (λs:List aP×Int=>(s.1=[]\/(0<=s.2/\s.2<=24/\s.1.length<=s.2.toNat))) (λs=>mm s.2) (λs=>(match dS T l tq s.2 with
  | none=>some bad
  | some u=>K (s.1++u))) ?_ fuel ([],p) (.inl rfl) (by unfold mm;simp only[fuel];split<;>omega)).trans (by simp)
 rintro ⟨A,p⟩ rec hI hrec;simp only at hI;rw[hs,lF hT];simp only;by_cases hp:p=tq
 ·simp only[hp,ne_eq,gQ,aT,aJ,cM];rw[kO]
 ·simp only[hp,ne_eq,iK,aU,aH,dR];rw[show(l.1,l.2)=l from rfl,jfx];cases hl:dM T l p with
  | none=>rfl
  | some x=>
    obtain⟨h1,h2,h3⟩:=iB hl;obtain⟨b1,b2,b3⟩:=hT x h1;simp only[iS,qfg,fS,aJ,qO];by_cases hq:tq<x.2.2.2
    ·simp only[hq,aU,aH,cM]
    ·simp only[hq,aT,aJ,dR];have hA:A.length<=p.toNat:=by rcases hI with e | ⟨_,_,e⟩<;>(try subst e)<;>(try simp)<;>omega
     rw[eT (by omega)];simp only[aB,aH];rw[hrec (A++[x.1],x.2.2.2) (.inr ⟨by simp only;omega,by simp only;omega,by simp only[cZ,dU];omega⟩) (by
      unfold mm;simp only;rw[aK (by omega),aK (by omega)];omega)]
     simp only;cases dS T l tq x.2.2.2 with
     | none=>rfl
     | some u=>simp
theorem xR {x:aL} (h:¬OrdP x):cJ T x=([],1):=by unfold cJ;rw[aF h]
theorem xS {x:aL} (h:OrdP x):cJ T x=(match dS T x.2.1 x.2.2.2 x.2.2.1 with
 | none=>([],7)
 | some u=>(u,0)):=by
 unfold cJ;rw[aK h];try (cases dS T x.2.1 x.2.2.2 x.2.2.1<;>rfl)
theorem ja2 (hT:TB T) {l:Int×Int} {tq p:Int} {u:List aP} (h:dS T l tq p=some u):u.length<=24:=by
 rcases uW hT _ _ _ h with rfl | ⟨g1,g2,g3⟩
 ·simp
 ·omega
abbrev iE:=Int×(Int×List aO)
noncomputable def gU (T:List aI) (w h:Nat) (l:List aL):iE×(Int×Int):=match dI T 0 [] l with
 | .inl out=>(((w:Int),((h:Int),dD T out)),(0,0))
 | .inr e=>((0,(0,[])),e)
noncomputable def gS (T:List aI) (w h:Nat) (l:List aL) (i:Nat) (out:List aO):iE×(Int×Int):=match dI T (i:Int) out (l.drop i) with
 | .inl out=>(((w:Int),((h:Int),dD T out)),(0,0))
 | .inr e=>((0,(0,[])),e)
def MapOK (out:List aO) (M:List (aP×Int)):Prop:=∀u,(eU UT K8 u M).getD 0=aN out u
theorem MapOK.add {out:List aO} (ho:OutOK T out) {M:List (aP×Int)} (hM:MapOK out M) {v:aP} {k:Int} (hv:aN out v=0):MapOK (out++[(v.1,(v.2,k))]) (kX UT K8 v k M):=λu=>by
 rw[vW,yG ho hv];by_cases e:u=v
 ·rw[aK e,aK e];rfl
 ·rw[aF e,aF e,hM u]
theorem jK {α:Type} {l:List α} {i:Nat} (hi:i<l.length):l.drop i=l[i]::l.drop (i+1):=iJ hi
theorem dZ {α:Type} {l:List α} {i:Nat} {d:α} (hi:i<l.length):l.getD ((i:Int).toNat) d=l[i]:=by
 rw[cK,gP,dE hi];rfl
theorem U1 (t:Tab w h T) (hw:1<=w/\w<=6) (hh:1<=h/\h<=6) {l:List aL} (hl:l.length<=1000000):A3 fuel (((w:Int),(h:Int)),l)=some (gU T w h l):=by
 have hT:=t.tb hw.2 hh.2;unfold A3;simp only;rw[kR hw hh,aC];simp only[ne_eq,gQ,aT,aJ];rw[jau t hw hh,aC];refine(oZ (λs:List aO×(Int×((Int×(Int×Unit))×List (aP×Int)))=>∃i:Nat,s.2.1=(i:Int)/\i<=l.length/\OutOK T s.1/\MapOK s.1 s.2.2.2) (λs=>l.length-s.2.1.toNat) (λs=>some (gS T w h l s.2.1.toNat s.1)) ?_ fuel _ ⟨0,rfl,eW _,lB,λu=>rfl⟩ (by simp only[fuel];omega)).trans rfl;rintro ⟨out,i',vv,M⟩ rec ⟨i,hi',hi,ho,hM⟩ hrec;simp only at hi' ho hM;subst hi';simp only;have hob:=ho.len t hw.2 hh.2;by_cases hlt:(i:Int)< ((l.length:Nat):Int)
 ·have hi2:i<l.length:=by omega
  simp only[hlt,aU,aH];rw[aV (by omega) hlt];simp only[aB,aH];rw[dZ hi2];generalize hx:l[i]=x;rw[show(x.1,((x.2.1.1,x.2.1.2),(x.2.2.1,x.2.2.2)))=x from rfl];obtain⟨b,eb,hb⟩:=jas x;rw[eb,aC];have hdrop:l.drop i=x::l.drop (i+1):=by rw[jK hi2,hx]
  cases b with
  | false=>
    have hno:¬OrdP x:=λh=>by have:=hb.2 h;cases this
    simp only[wF,aH];unfold gS;rw[cK,hdrop];simp only[dI];rw[xR hno];rfl
  | true=>
    have hyes:=hb.1 rfl;simp only[fS,aJ];refine(ja3 hT (l:=x.2.1) (tq:=x.2.2.2) (((0,(0,[])),((i:Int),7)):iE×(Int×Int)) (λA=>(aB (cU 0 ((A.length:Nat):Int) A.length&&decide (((A.length:Nat):Int)<=((A.length:Nat):Int))&&decide (((A.length:Nat):Int)<=((A.length:Nat):Int))) (dW (λrec6 (x6:((List (Int×(Int×Int)))×(Int×((Int×(Int×Unit))×(List ((Int×Int)×Int))))))=>bif(decide (x6.2.1< ((A.length:Nat):Int))) then(aB (bB x6.2.1 A.length) (bif(decide (((eU (.prod (.int .i64) (.int .u8)) (.int .u8) ((A.getD (0+x6.2.1.toNat) (0,0)).1,(A.getD (0+x6.2.1.toNat) (0,0)).2) x6.2.2.2).getD 0)≠0)) then(some ((0,(0,[])),((i:Int),8))) else(aB (gA (x6.1.length+1)) (aB (aR (x6.2.1+1)) (rec6 ((x6.1++[((A.getD (0+x6.2.1.toNat) (0,0)).1,((A.getD (0+x6.2.1.toNat) (0,0)).2,x.1))]),((x6.2.1+1),((x6.2.2.1.1,(x6.2.2.1.2.1,())),(kX (.prod (.int .i64) (.int .u8)) (.int .u8) ((A.getD (0+x6.2.1.toNat) (0,0)).1,(A.getD (0+x6.2.1.toNat) (0,0)).2) x.1 x6.2.2.2))))))))) else(aB (aR ((i:Int)+1)) (rec (x6.1,(((i:Int)+1),((x6.2.2.1.1,(x6.2.2.1.2.1,())),x6.2.2.2)))))) fuel (out,(0,((vv.1,(vv.2.1,())),M)))))) (λrec s=>rfl) x.2.2.1).trans ?_;have hU:=xS (T:=T) hyes;have hW:∀u,dS T x.2.1 x.2.2.2 x.2.2.1=some u->cJ T x=(u,0):=λu hu=>by rw[hU,hu]
    cases hu:dS T x.2.1 x.2.2.2 x.2.2.1 with
    | none=>
      rw[hu] at hU;simp only at hU ⊢;unfold gS;rw[cK,hdrop];simp only[dI];rw[hU];rfl
    | some A=>
      have hUA:=hW A hu;have hA24:=ja2 hT hu;have hAm:∀v∈A,v∈T.map (·.1):=by have:=sV (T:=T) (x:=x);rw[hUA] at this;exact this
      simp only;have e1:cU 0 ((A.length:Nat):Int) A.length=true:=cN.2 ⟨by omega,by omega,by omega⟩;simp only[e1,qP,aU,kP,aB,aH]
      have hpat:some (gS T w h l i out)=(match eF x.1 out A with
        | none=>some (((0,(0,[])),((i:Int),8)):iE×(Int×Int))
        | some out'=>some (gS T w h l (i+1) out')):=by
       unfold gS;rw[hdrop];simp only[dI];rw[hUA];simp only[cM];cases eF x.1 out A with
       | none=>rfl
       | some o=>rw[show((i+1:Nat):Int)=(i:Int)+1 by omega]
      rw[cK,hpat]
      refine(oZ (λs:List aO×(Int×((Int×(Int×Unit))×List (aP×Int)))=>∃j:Nat,s.2.1=(j:Int)/\j<=A.length/\OutOK T s.1/\MapOK s.1 s.2.2.2) (λs=>A.length-s.2.1.toNat) (λs=>(match eF x.1 s.1 (A.drop s.2.1.toNat) with
       | none=>some (((0,(0,[])),((i:Int),8)):iE×(Int×Int))
       | some out'=>some (gS T w h l (i+1) out'))) ?_ fuel _ ⟨0,rfl,eW _,ho,hM⟩ (by simp only[fuel];omega)).trans (by simp)
      rintro ⟨o6,j',v6,M6⟩ rec6 ⟨j,hj',hj,ho6,hM6⟩ hrec6;simp only at hj' ho6 hM6;subst hj';simp only;have ho6b:=ho6.len t hw.2 hh.2;by_cases hjl:(j:Int)< ((A.length:Nat):Int)
      ·have hj2:j<A.length:=by omega
       simp only[hjl,aU,aH];rw[aV (by omega) hjl];simp only[aB,aH];rw[mV,dZ hj2,cK,jK hj2];generalize hv:A[j]=v;have hvT:v∈T.map (·.1):=hAm v (by rw[<-hv];exact bX _);rw[show(v.1,v.2)=v from rfl,hM6 v];simp only[eF];by_cases h0:aN o6 v=0
       ·simp only[h0,ne_eq,gQ,aT,aJ,cM];rw[eT (by omega),aG (by omega) (by omega)];simp only[aB,aH];rw[hrec6 _ ⟨j+1,by simp,hj2,ho6.add h0 hvT ⟨hyes.k1,hyes.k3⟩,hM6.add ho6 h0⟩ (by simp only;omega)];simp only;rw[show((j:Int)+1).toNat=j+1 by omega]
       ·simp only[h0,ne_eq,iK,aU,aH,dR]
      ·have hj2:j=A.length:=by omega
       subst hj2;simp only[hjl,aT,aJ];rw[aG (by omega) (by omega)];simp only[aB,aH];rw[cK,jM];simp only[eF];rw[hrec _ ⟨i+1,by simp,hi2,ho6,hM6⟩ (by simp only;omega)];simp only;rw[show((i:Int)+1).toNat=i+1 by omega]
 ·have hi2:i=l.length:=by omega
  subst hi2;simp only[hlt,aT,aJ];unfold jcb gS;simp only;rw[show(List.length (α:=aO) out).ble 1000000=true by rw[bE];exact bD (by omega),jap t ho,m9 t ho];simp only[kP,aH,iS,aC];have e1:cU 0 (((dD T out).length:Nat):Int) (dD T out).length=true:=cN.2 ⟨by omega,by omega,by omega⟩;simp only[e1,qP,aU,kP,aB,aH,iL,kV,iW];rw[cK,jM];simp only[dI]
end
end X
end Go.Vm
namespace Go.Vm
namespace X
open W
def eH:List aP->List Int->List aO
 | u::U,k::A=>if k=0 then eH U A else(u.1,(u.2,k))::eH U A
 | _,_=>[]
section
variable {w h:Nat} {T:List aI}
theorem C0 (t:Tab w h T) (hw:1<=w/\w<=6) (hh:1<=h/\h<=6) {A:List Int} (hA:A.length<=1000000):tN fuel (((w:Int),(h:Int)),A)=some ((w:Int),((h:Int),eH (T.map (·.1)) A)):=by
 have hlen:=t.len hw.2 hh.2;unfold tN;simp only;rw[t.un,aC];have hUl:(T.map (·.1)).length<=1000:=by simpa using hlen
 generalize T.map (·.1)=U at hUl;refine(oZ (λs:Int×(Int×(Int×List aO))=>∃i:Nat,s.1=(i:Int)/\i<=U.length/\s.2.2.2.length<=i/\s.2.1=(w:Int)/\s.2.2.1=(h:Int)) (λs=>U.length-s.1.toNat) (λs=>some ((w:Int),((h:Int),s.2.2.2++eH (U.drop s.1.toNat) (A.drop s.1.toNat)))) ?_ fuel _ ⟨0,rfl,eW _,bV _,rfl,rfl⟩ (by simp only[fuel];omega)).trans (by simp);rintro ⟨i',w',h',acc⟩ rec ⟨i,hi',hi,hacc,hw',hh'⟩ hrec;simp only at hi' hacc hw' hh';subst hi' hw' hh';simp only;by_cases hlt:(i:Int)< ((U.length:Nat):Int)
 rotate_left
 ·have:i=U.length:=by omega
  subst this;simp only[hlt,aT,aJ];rw[cK,jM];simp[eH]
 have hi2:i<U.length:=by omega
 simp only[hlt,aU,aH];by_cases hla:(i:Int)< ((A.length:Nat):Int)
 rotate_left
 ·simp only[hla,aT,aJ];rw[cK,show A.drop i=[] from qej (by omega)];cases U.drop i<;>simp[eH]
 have hi3:i<A.length:=by omega
 simp only[hla,aU,aH];rw[aV (by omega) hla,aV (by omega) hlt];simp only[aB,aH];rw[dZ hi3,dZ hi2,cK,jK hi2,jK hi3];simp only[eH];by_cases h0:A[i]=0
 ·simp only[h0,ne_eq,gQ,aT,aJ,cM];rw[aG (by omega) (by omega)];simp only[aH];rw[hrec _ ⟨i+1,by simp,hi2,by simp only;omega,rfl,rfl⟩ (by simp only;omega)];simp only;rw[show((i:Int)+1).toNat=i+1 by omega]
 ·simp only[h0,ne_eq,iK,aU,aH,dR];rw[eT (by omega),aG (by omega) (by omega)];simp only[aH];rw[hrec _ ⟨i+1,by simp,hi2,by simp only[cZ,dU];omega,rfl,rfl⟩ (by simp only;omega)];simp only;rw[show((i:Int)+1).toNat=i+1 by omega,dX];rfl
end
end X
end Go.Vm
namespace Go.Vm
namespace X
open W Go.RowKit
section
variable {w h:Nat} {T:List aI}
theorem L8 (T:List aI) (l:Int×Int) (p:Int):dM (T.filter λx=>decide (x.2.1.1=l.1)&&decide (x.2.1.2=l.2)) l p=dM T l p:=by
 unfold dM;rw[qgs]
 congr 1
 funext x
 unfold xE;cases decide (x.2.1.1=l.1)<;>cases decide (x.2.1.2=l.2)<;>simp
def gX (T:List aI) (l:Int×Int):Nat->Option aI:=λp=>dM T l (p:Int)
theorem L5 (T:List aI) (n:Nat) (l:Int×Int):t8 T n l=(List.range n).filterMap (gX T l):=by
 unfold t8
 congr 1
 funext p
 exact L8 T l p
def jB (T:List aI) (w h:Nat) (k c:Nat):List aI:=(List.range (2* (w+h)+1)).filterMap (gX T ((k:Int)+1,(c:Int)-(w:Int)))
def iH (T:List aI) (w h:Nat) (k:Nat):List aI:=(List.range (w+ (w+h)+1)).flatMap (jB T w h k)
theorem qY (T:List aI) (w h:Nat):eP T w h=(List.range 4).flatMap (iH T w h):=by
 unfold eP iH jB;simp only[L5]
theorem vI {l:Int×Int} {p:Nat} {x:aI} (e:gX T l p=some x):x∈T/\x.2.1=l/\x.2.2.1=p:=iB e
theorem vV {k c:Nat} {x:aI} (e:x∈jB T w h k c):x∈T/\x.2.1=((k:Int)+1,(c:Int)-(w:Int)):=by
 obtain⟨p,_,hp⟩:=qK.1 e;exact⟨(vI hp).1,(vI hp).2.1⟩
theorem vS {k:Nat} {x:aI} (e:x∈iH T w h k):x∈T/\x.2.1.1=(k:Int)+1:=by
 obtain⟨c,_,hc⟩:=iV.1 e;have:=vV hc;exact⟨this.1,by rw[this.2]⟩
theorem lX (t:Tab w h T) {x:aI}:x∈eP T w h↔x∈T:=by
 rw[qY];constructor
 ·intro e;obtain⟨k,_,hk⟩:=iV.1 e;exact(vS hk).1
 ·intro hx;have li:=t.li hx;have a1:=li.k1;have a2:=li.k4;have a3:=li.c0;have a4:=li.c1;have a5:=li.f0;have a6:=li.ft;have a7:=li.t1
  refine iV.2 ⟨(x.2.1.1-1).toNat,eZ.2 (by omega),iV.2 ⟨(x.2.1.2+w).toNat,eZ.2 (by omega),qK.2 ⟨x.2.2.1.toNat,eZ.2 (by omega),?_⟩⟩⟩;unfold gX;have e1:(((x.2.1.1-1).toNat:Nat):Int)+1=x.2.1.1:=by omega
  have e2:(((x.2.1.2+w).toNat:Nat):Int)-(w:Int)=x.2.1.2:=by omega
  have e3:((x.2.2.1.toNat:Nat):Int)=x.2.2.1:=by omega
  rw[e1,e2,e3];exact D4 t.key hx
def fP (p q:(Int×Int)×(Int×Int)):Prop:=p.1.1<q.1.1\/p.1.1=q.1.1/\(p.1.2<q.1.2\/p.1.2=q.1.2/\p.2.2<=q.2.1)
theorem vG {α:Type} {r:α->α->Bool} {P:α->Prop} (tr:∀x y z,P y->r x y=true->r y z=true->r x z=true):∀ {l:List α},(∀x∈l,P x)->iA r l=true->l.Pairwise λx y=>r x y=true
 | [],_,_=>List.Pairwise.nil
 | x::l,hP,h=>by
   simp only[iA,aW] at h;have ih:=vG tr (λy hy=>hP y (bL _ hy)) h.2;refine jH.2 ⟨λy hy=>?_,ih⟩;cases l with
   | nil=>cases hy
   | cons z l=>
     rcases bJ.1 hy with e | hy
     ·rw[e];exact h.1
     ·exact tr _ _ _ (hP z (bL _ bH)) h.1 ((jH.1 ih).1 y hy)
theorem wS (t:Tab w h T):(eP T w h).Pairwise λx y=>fP x.2 y.2:=by
 refine(vG (P:=λx=>x.2.2.1<x.2.2.2) (λx y z hy h1 h2=>?_) (λx hx=>(t.li ((lX t).1 hx)).ft) t.wk).imp λh=>vX.1 h
 rw[vX] at *;unfold Nx at *;omega
theorem T4 (t:Tab w h T):(eP T w h).Nodup:=by
 have hp:=wS t;have:(eP T w h).Pairwise λx y=>x∈eP T w h/\fP x.2 y.2:=by
  rw[fV] at hp ⊢;exact λi j hi hj hij=>⟨bX _,hp i j hi hj hij⟩
 refine this.imp λ{a b} ⟨hm,h⟩ e=>?_
 subst e;have:=(t.li ((lX t).1 hm)).ft;unfold fP at h;omega
theorem qZ (t:Tab w h T):(eP T w h).Perm T:=by
 have n2:T.Nodup:=E8 _ (λa b h e=>h (by rw[e])) t.ndU;exact(F0 (T4 t) n2).2 λc=>lX t
end
def goes (c e:aL):Prop:=c.1=e.1/\c.2.1=e.2.1/\c.2.2.2=e.2.2.1
instance (c e:aL):Decidable (goes c e):=by unfold goes;exact inferInstance
def stepG (s:List aL×Option aL) (e:aL):List aL×Option aL:=
 match s.2 with
 | none=>(s.1,if e.1≠0 then some e else none)
 | some c=>if e.1≠0/\goes c e then(s.1,some (c.1,(c.2.1,(c.2.2.1,e.2.2.2)))) else(s.1++[c],if e.1≠0 then some e else none)
def bI:List aL×Option aL->List aL->List aL
 | s,[]=>s.1++s.2.toList
 | s,e::l=>bI (stepG s e) l
theorem qS {out:List aL} {c:aL}:∀ {l:List aL},(∀e,l.head?=some e->¬goes c e)->bI (out,some c) l=bI (out++[c],none) l
 | [],_=>by simp[bI]
 | e::l,h=>by
   have:=h e rfl;simp only[bI,stepG,this,qiu,dR]
theorem nZ:∀(l:List aL) (out:List aL) (cur:Option aL),(∀e∈l,e.2.2.1<e.2.2.2)->l.Pairwise (λx y=>fP x.2 y.2)->(∀c,cur=some c->∀e∈l,fP c.2 e.2)->
  bI (out,cur) l=bI (out,cur) (l.filter λe=>decide (e.1≠0))
 | [],_,_,_,_,_=>rfl
 | e::l,out,cur,hf,hp,hc=>by
   obtain⟨hp1,hp2⟩:=jH.1 hp;have hf2:∀e∈l,e.2.2.1<e.2.2.2:=λx hx=>hf x (bL _ hx)
   have fe:=hf e bH;by_cases h0:e.1=0
   ·rw[qfh (by simp[h0])];cases cur with
    | none=>
      have es:stepG (out,none) e=(out,none):=by simp[stepG,h0]
      rw[bI,es];exact nZ l out none hf2 hp2 (λc h=>by cases h)
    | some c=>
      have es:stepG (out,some c) e=(out++[c],none):=by simp[stepG,h0]
      rw[bI,es,nZ l _ none hf2 hp2 (λc h=>by cases h)];refine(qS λv hv=>?_).symm;have hm:=E7 (by rw[hv];rfl:v∈(l.filter λe=>decide (e.1≠0)).head?);have hm:=(jS.1 hm).1;rintro ⟨g1,g2,g3⟩;have n1:=hc c rfl e bH;have n2:=hp1 v hm;have e1:c.2.1.1=v.2.1.1:=by rw[g2]
      have e2:c.2.1.2=v.2.1.2:=by rw[g2]
      unfold fP at n1 n2;omega
   ·rw[qfi (by simp[h0])];simp only[bI];rcases hs:stepG (out,cur) e with⟨o2,c2⟩
    refine nZ l o2 c2 hf2 hp2 λd hd v hv=>?_
    have n2:=hp1 v hv;have:d.2.1=e.2.1/\d.2.2.2=e.2.2.2:=by
     unfold stepG at hs;cases cur with
     | none=>
       simp only[ne_eq,h0,iK,cM,bK] at hs;rw[hd] at hs;cases hs.2;exact⟨rfl,rfl⟩
     | some c=>
       simp only[ne_eq,h0,iK,cM,true_and] at hs;split at hs
       ·rename_i g;simp only[bK] at hs;rw[hd] at hs;cases hs.2;exact⟨g.2.1,rfl⟩
       ·simp only[bK] at hs;rw[hd] at hs;cases hs.2;exact⟨rfl,rfl⟩
    have e1:d.2.1.1=e.2.1.1:=by rw[this.1]
    have e2:d.2.1.2=e.2.1.2:=by rw[this.1]
    unfold fP at n2 ⊢;omega
def kW (K:aP->Int) (l:List aI):List aL:=l.map λx=>(K x.1,x.2)
def bY (T:List aI) (w h:Nat) (K:aP->Int):List aL:=bI ([],none) (kW K (eP T w h))
end X
end Go.Vm
namespace Go.Vm
namespace X
open W Go.RowKit
theorem P8 {a:iE} (ha:a.2.2.length<=1000000) (u:aP):yY fuel (a,u)=some (aN a.2.2 u):=by
 apply Ret.eq;unfold yY;refine cS (λi:Int=>0<=i/\i<=a.2.2.length/\∀c∈a.2.2.take i.toNat,eE u c=false) (λi=>a.2.2.length-i.toNat) ?_ fuel 0 ⟨by omega,by omega,by simp⟩ (by simp only[fuel];omega);rintro i' rec ⟨i0,i1,hno⟩ hrec;obtain⟨i,rfl⟩:∃i:Nat,i'=(i:Int):=⟨i'.toNat,by omega⟩
 rw[cK] at hno;refine aD (λhlt=>?_) λhge=>?_
 ·have hlt:(i:Int)< (a.2.2.length:Int):=hlt;have hi:i<a.2.2.length:=by omega
  have hin:=aV i0 hlt;rw[dZ hi];have nx:eE u a.2.2[i]=false->Ret (aB (aR ((i:Int)+1)) (rec ((i:Int)+1))) λx=>x=aN a.2.2 u:=λhu=>by
   refine aA (aG (by omega) (by omega)) (hrec _ ⟨by omega,by omega,?_⟩ (by omega));rw[show((i:Int)+1).toNat=i+1 by omega,pU _ _ hi];intro c hc;rcases bU.1 hc with hc | hc
   ·exact hno c hc
   ·rw[cD.1 hc];exact hu
  refine aA hin (aD (λg1=>aA hin (aD (λg2=>aA hin (aS ?_)) λg2=>nx (by simp only[eE];simp[g2]))) λg1=>nx (by simp only[eE];simp[g1]));unfold aN;rw[jc8 hi hno (by simp only[eE];simp[g1,g2])]
 ·refine aS ?_;have hge:¬(i:Int)< (a.2.2.length:Int):=hge;rw[iM (by omega)] at hno;unfold aN;rw[mP.2 λc hc hq=>by rw[hno c hc] at hq;cases hq]
def enc:Option aL->Int×(Int×(Int×(Int×Int)))
 | none=>(0,(0,(0,(0,0))))
 | some c=>(c.1,(c.2.1.1,(c.2.1.2,(c.2.2.1,c.2.2.2))))
theorem qX {out:List aL} {c e:aL} (h0:e.1≠0) (hg:goes c e):stepG (out,some c) e=(out,some (c.1,(c.2.1,(c.2.2.1,e.2.2.2)))):=by simp only[stepG];rw[aK ⟨h0,hg⟩]
theorem wN {out:List aL} {c e:aL} (h0:e.1≠0) (hg:¬goes c e):stepG (out,some c) e=(out++[c],some e):=by simp only[stepG];rw[aF λh=>hg h.2,aK h0]
theorem R8 {out:List aL} {c e:aL} (h0:e.1=0):stepG (out,some c) e=(out++[c],none):=by simp only[stepG];rw[aF λh=>h.1 h0,aF λh=>h h0]
theorem oC {out:List aL} {e:aL} (h0:e.1≠0):stepG (out,none) e=(out,some e):=by simp only[stepG];rw[aK h0]
theorem R7 {out:List aL} {e:aL} (h0:e.1=0):stepG (out,none) e=(out,none):=by simp only[stepG];rw[aF λh=>h h0]
theorem qQ {n i:Nat} (h:i<n):(List.range n).drop i=i::(List.range n).drop (i+1):=by
 rw[jK (by simpa using h),pQ]
section
variable {w h:Nat} {T:List aI}
theorem zB (t:Tab w h T) (hw:1<=w/\w<=6) (hh:1<=h/\h<=6) {cr:List aO} (hcr:cr.length<=1000000):
  sP fuel ((w:Int),((h:Int),cr))=some (bY T w h (aN cr)):=by
 have hlen:=t.len hw.2 hh.2;have hwl:(eP T w h).length<=1000:=by rw[(qZ t).length_eq];exact hlen
 apply Ret.eq;unfold sP;rw[t.all,aC];have hX0:bI ([],none) (kW (aN cr) (((List.range 4).drop 0).flatMap (iH T w h)))=bY T w h (aN cr):=by
  rw[fW,<-qY];rfl
 have hL0:(((List.range 4).drop 0).flatMap (iH T w h)).length<=1000:=by
  rw[fW,<-qY];exact hwl
 generalize bY T w h (aN cr)=X at hX0 ⊢;generalize hK:aN cr=K at hX0;refine cS (λs:List aL×Int=>∃i:Nat,s.2=(i:Int)+1/\i<=4/\bI (s.1,none) (kW K (((List.range 4).drop i).flatMap (iH T w h)))=X/\s.1.length+ (((List.range 4).drop i).flatMap (iH T w h)).length<=1000) (λs=>5-s.2.toNat) ?_ fuel ([],1) ⟨0,rfl,by omega,hX0,by simpa using hL0⟩ (by simp only[fuel];omega);clear hX0 hL0;rintro ⟨out,k'⟩ rec ⟨i,hk,hi4,hX,hL⟩ hrec;simp only at hk hX hL;subst hk;refine aD (λhk4=>?_) λhk4=>?_
 rotate_left
 ·have:i=4:=by simp only at hk4;omega
  subst this;refine aS ?_;rw[<-hX,show(List.range 4).drop 4=[] from rfl];simp[bI,kW]
 have hi:i<4:=by simp only at hk4;omega
 rw[qQ hi,jD] at hX hL;generalize hRk:((List.range 4).drop (i+1)).flatMap (iH T w h)=Rk at hX hL;have hRkl:∀e∈Rk,e.2.1.1≠(i:Int)+1:=by
  intro e he;rw[<-hRk] at he;obtain⟨k,hk,he⟩:=iV.1 he;have:=(vS he).2;obtain⟨q,hq,e2⟩:=fH hk;rw[pO,pQ] at e2;omega
 refine aA (aG (by omega) (by omega)) ?_;refine cS (λs:List aL×Int=>∃j:Nat,s.2=(j:Int)-(w:Int)/\j<=w+ (w+h)+1/\bI (s.1,none) (kW K (((List.range (w+ (w+h)+1)).drop j).flatMap (jB T w h i)++Rk))=X/\s.1.length+ (((List.range (w+ (w+h)+1)).drop j).flatMap (jB T w h i)++Rk).length<=1000) (λs=>w+ (w+h)+1-(s.2+w).toNat) ?_ fuel (out, -(w:Int)) ⟨0,by simp,by omega,by rw[fW];exact hX,by rw[fW];exact hL⟩ (by simp only[fuel];omega);clear hX hL;rintro ⟨out,c'⟩ rec3 ⟨j,hc,hjm,hX,hL⟩ hrec3;simp only at hc hX hL;subst hc;have hz1:aR ((w:Int)+ (h:Int))=true:=aG (by omega) (by omega);have hz2:aR (2* ((w:Int)+ (h:Int)))=true:=aG (by omega) (by omega);refine aA hz1 (aD (λhjc=>?_) λhjc=>?_)
 rotate_left
 ·have:j=w+ (w+h)+1:=by simp only at hjc;omega
  subst this;have ed:(List.range (w+ (w+h)+1)).drop (w+ (w+h)+1)=[]:=lZ (by simp);rw[ed,qgz,fB] at hX hL;have e1:IntKind.u8.wrap ((i:Int)+1+1)=((i+1:Nat):Int)+1:=by
   have:i=0\/i=1\/i=2\/i=3:=by omega
   rcases this with rfl | rfl | rfl | rfl<;>rfl
  simp only;rw[e1];exact hrec _ ⟨i+1,rfl,by omega,by rw[hRk];exact hX,by rw[hRk];exact hL⟩ (by simp only;omega)
 have hj:j<w+ (w+h)+1:=by simp only at hjc;omega
 rw[qQ hj,jD,dX] at hX hL;generalize hRc:((List.range (w+ (w+h)+1)).drop (j+1)).flatMap (jB T w h i)++Rk=Rc at hX hL;have hRcl:∀e∈Rc,e.2.1≠((i:Int)+1,(j:Int)-(w:Int)):=by
  intro e he e0;rw[<-hRc] at he;rcases bU.1 he with he | he
  ·obtain⟨k,hk,he⟩:=iV.1 he;have:=(vV he).2;obtain⟨q,hq,e2⟩:=fH hk;rw[pO,pQ] at e2;rw[e0] at this;have:=congrArg Prod.snd this;simp only at this;omega
  ·exact hRkl e he (by rw[e0])
 have hl:jB T w h i j=(List.range (2* (w+h)+1)).filterMap (gX T ((i:Int)+1,(j:Int)-(w:Int))):=rfl;rw[hl] at hX hL;generalize hN:2* (w+h)+1=N at hX hL;generalize hline:((i:Int)+1,(j:Int)-(w:Int))=l at hX hL hRcl;refine cS (λs:List aL×(Int×(Int×(Int×(Int×(Int×Int)))))=>∃(p:Nat) (cur:Option aL),s.2.1=(p:Int)/\p<=N/\s.2.2=enc cur/\(∀c,cur=some c->c.1≠0/\c.2.1=l)/\bI (s.1,cur) (kW K (((List.range N).drop p).filterMap (gX T l)++Rc))=X/\s.1.length+cur.toList.length+ (((List.range N).drop p).filterMap (gX T l)++Rc).length<=1000) (λs=>N-s.2.1.toNat) ?_ fuel _ ⟨0,none,rfl,by omega,rfl,(λc h=>by cases h),by rw[fW];exact hX,by rw[fW];simpa using hL⟩ (by simp only[fuel];omega);clear hX hL;rintro ⟨out,p',x⟩ rec4 ⟨p,cur,hp,hpN,hx,hcur,hX,hL⟩ hrec4;simp only at hp hx hX hL;subst hp hx;refine aA hz1 (aA hz2 (aD (λhat=>?_) λhat=>?_))
 rotate_left
 ·have:p=N:=by simp only at hat;omega
  subst this;have ed:(List.range p).drop p=[]:=lZ (by simp);rw[ed,qgf,fB] at hX hL;have nx:∀out2:List aL,bI (out2,none) (kW K Rc)=X->out2.length+Rc.length<=1000->Ret (aB (aR ((j:Int)-(w:Int)+1)) (rec3 (out2,(j:Int)-(w:Int)+1))) λx=>x=X:=λout2 h1 h2=>by
   refine aA (aG (by omega) (by omega)) (hrec3 _ ⟨j+1,by simp only;omega,by omega,?_,?_⟩ (by simp only;omega))
   ·rw[hRc];exact h1
   ·rw[hRc];exact h2
  cases cur with
  | none=>exact aD (λg=>absurd rfl g) λ_=>nx _ hX (by simpa using hL)
  | some c=>
    have hc:=hcur c rfl;have hfl:bI (out++[c],none) (kW K Rc)=X:=by
     rw[<-hX];refine(qS λe he hg=>?_).symm;have hm:=E7 (by rw[he];rfl:e∈(kW K Rc).head?);obtain⟨y,hy,rfl⟩:=bC.1 hm;exact hRcl y hy (by rw[<-hc.2];exact hg.2.1.symm)
    refine aD (λ_=>aA (eT ?_) (nx _ hfl ?_)) λg=>absurd hc.1 g
    ·simp only[jU,dU] at hL;simp only;omega
    ·simp only[jU,dU,cZ] at hL ⊢;omega
 have hp:p<N:=by simp only at hat;omega
 rw[qQ hp,rL] at hX hL;generalize hR:((List.range N).drop (p+1)).filterMap (gX T l)=R at hX hL;rw[T7 (by omega),aC]
 have next:∀(out2:List aL) (cur2:Option aL),(∀c,cur2=some c->c.1≠0/\c.2.1=l)->bI (out2,cur2) (kW K (R++Rc))=X->out2.length+cur2.toList.length+ (R++Rc).length<=1000->
   Ret (aB (aR ((p:Int)+1)) (rec4 (out2,((p:Int)+1,enc cur2)))) λx=>x=X:=λout2 cur2 h1 h2 h3=>
  aA (aG (by omega) (by omega)) (hrec4 _ ⟨p+1,cur2,by simp,by omega,rfl,h1,by rw[hR];exact h2,by rw[hR];exact h3⟩ (by simp only;omega))
 have ea:gX T l p=dM T l (p:Int):=rfl;rw[ea] at hX hL;cases hlk:dM T l (p:Int) with
 | none=>
   rw[hlk] at hX hL;simp only at hX hL ⊢;exact aD (λ_=>next out cur hcur hX hL) λg=>absurd trivial g
 | some y=>
   obtain⟨hy,hyl,hyp⟩:=iB hlk;rw[hlk] at hX hL;simp only[fN,cL] at hX hL ⊢;refine aD (λg=>absurd g (by decide)) λ_=>?_
   rw[show((y.1.1,y.1.2):aP)=y.1 from rfl,P8 (a:=((w:Int),((h:Int),cr))) hcr,aC,hK];have hX2:bI (stepG (out,cur) (K y.1,y.2)) (kW K (R++Rc))=X:=hX;have hnew:∀c:aL,some ((K y.1,(l,((p:Int),y.2.2.2))):aL)=some c->K y.1≠0->c.1≠0/\c.2.1=l:=λc e h0=>by cases e;exact⟨h0,rfl⟩
   have ey:((K y.1,y.2):aL)=(K y.1,(l,((p:Int),y.2.2.2))):=by rw[<-hyl,<-hyp]
   rw[ey] at hX2;subst hline;cases cur with
   | none=>
     simp only[pR,iD] at hL;refine aD (λhn=>?_) λhn=>?_
     ·rw[oC hn] at hX2;refine aD (λg=>absurd g.symm hn) λ_=>aD (λg=>absurd rfl g) λ_=>aD (λ_=>?_) λg=>absurd hn g
      exact next out (some _) (λc e=>hnew c e hn) hX2 (by simp only[jU,dU];omega)
     ·have hn:K y.1=0:=by simpa using hn
      rw[R7 hn] at hX2;refine aD (λg=>absurd rfl g) λ_=>aD (λg=>absurd hn g) λ_=>?_
      exact next out none (λc e=>by cases e) hX2 (by simp only[pR,iD];omega)
   | some c=>
     obtain⟨hc1,hc2⟩:=hcur c rfl;simp only[jU,dU] at hL;have hlk1:gA (out.length+1)=true:=eT (by omega);have hl1:(out++[c]).length=out.length+1:=by simp
     have flush1:K y.1≠0->¬goes c (K y.1,(((i:Int)+1,(j:Int)-(w:Int)),((p:Int),y.2.2.2)))->Ret (aB (aR ((p:Int)+1)) (rec4 (out++[c],((p:Int)+1,enc (some (K y.1,(((i:Int)+1,(j:Int)-(w:Int)),((p:Int),y.2.2.2)))))))) λx=>x=X:=λhn hg=>by
      rw[wN hn hg] at hX2;exact next _ (some _) (λc e=>hnew c e hn) hX2 (by simp only[jU,dU];omega)
     refine aD (λhn=>?_) λhn=>?_
     ·refine aD (λg1=>?_) λg1=>?_
      ·refine aD (λg2=>?_) λg2=>?_
       ·rw[qX hn ⟨g1,hc2,g2⟩] at hX2;exact next out (some _) (λd e=>by cases e;exact⟨hc1,hc2⟩) hX2 (by simp only[jU,dU];omega)
       ·refine aD (λ_=>aA hlk1 (aD (λ_=>?_) λg=>absurd hn g)) λg=>absurd hc1 g
        exact flush1 hn λg=>g2 g.2.2
      ·refine aD (λ_=>aA hlk1 (aD (λ_=>?_) λg=>absurd hn g)) λg=>absurd hc1 g
       exact flush1 hn λg=>g1 g.1
     ·have hn:K y.1=0:=by simpa using hn
      refine aD (λ_=>aA hlk1 (aD (λg=>absurd hn g) λ_=>?_)) λg=>absurd hc1 g
      rw[R8 hn] at hX2;exact next (out++[c]) none (λc e=>by cases e) hX2 (by simp only[pR,iD];omega)
end
end X
end Go.Vm
namespace Go.Vm
namespace X
open W Go.RowKit
section
variable {w h:Nat} {T:List aI}
theorem L4 (t:Tab w h T) {x:aI} (hx:x∈T):Q8 fuel (((w:Int),(h:Int)),x.1)=some ((x.2.1,x.2.2.1),x.2.2.2):=by
 have:=cI.1 t.lie x hx;unfold D3 at this;split at this
 ·rename_i r hr;rw[show((x.1.1,x.1.2):aP)=x.1 from rfl] at hr;rw[hr];simp only[aW,aQ] at this;obtain⟨⟨⟨a1,a2⟩,a3⟩,a4⟩:=this;rw[show r=((r.1.1,r.1.2),r.2) from rfl,show r.1.1=x.2.1 from iN a1 a2,a3,a4]
 ·cases this
def fK (T:List aI) (c:aO):aL:=(c.2.2,((T.find? λx=>decide (x.1=aZ c)).map (·.2)).getD ((0,0),(0,0)))
theorem wH (t:Tab w h T) {c:aO} {x:aI} (hx:x∈T) (e:x.1=aZ c):fK T c=(c.2.2,x.2):=by
 unfold fK;have:T.find? (λx=>decide (x.1=aZ c))=some x:=by
  cases hf:T.find? (λx=>decide (x.1=aZ c)) with
  | none=>exact absurd (by simpa using e) (mP.1 hf x hx)
  | some y=>
    have h1:=tK hf;have h2:=tM hf;rw[t.unitInj h1 hx (by rw[e];simpa using h2)]
 rw[this];rfl
def dY (T:List aI) (w h:Nat) (K:aP->Int):List aL:=(kW K (eP T w h)).filter λe=>decide (e.1≠0)
theorem vR (t:Tab w h T) (K:aP->Int):(kW K (eP T w h)).Pairwise λx y=>fP x.2 y.2:=pB.2 (wS t)
theorem qC (t:Tab w h T) {K:aP->Int} {e:aL} (he:e∈kW K (eP T w h)):∃x∈T,e=(K x.1,x.2):=by
 obtain⟨x,hx,rfl⟩:=bC.1 he;exact⟨x,(lX t).1 hx,rfl⟩
theorem qV (t:Tab w h T) (K:aP->Int):bY T w h K=bI ([],none) (dY T w h K):=
 nZ _ _ _ (λe he=>by obtain⟨x,hx,rfl⟩:=qC t he;exact(t.li hx).ft) (vR t K) (λc h=>by cases h)
theorem wI (t:Tab w h T) (K:aP->Int):(dY T w h K).Pairwise λa b=>jJ a b<0:=by
 have hp:(dY T w h K).Pairwise λx y=>fP x.2 y.2:=(vR t K).filter _
 have:(dY T w h K).Pairwise λx y=>(x∈dY T w h K/\y∈dY T w h K)/\fP x.2 y.2:=by
  rw[fV] at hp ⊢;exact λi j hi hj hij=>⟨⟨bX _,bX _⟩,hp i j hi hj hij⟩
 refine this.imp λ{a b} ⟨⟨ha,hb⟩,hn⟩=>?_
 obtain⟨x,hx,rfl⟩:=qC t (jS.1 ha).1;obtain⟨y,hy,rfl⟩:=qC t (jS.1 hb).1;have lx:=t.li hx;have ly:=t.li hy;have b1:=lx.ft;rw[xX];simp only;rw[kJ (by have:=lx.k1;omega) (by have:=lx.k4;omega),kJ (by have:=ly.k1;omega) (by have:=ly.k4;omega)];unfold fP at hn;simp only at hn;omega
theorem pZ {α β:Type} {f g:α->Option β}:∀ {l:List α},(∀x∈l,f x=g x)->l.filterMap f=l.filterMap g
 | [],_=>rfl
 | x::l,h=>by
   rw[rL,rL,h x bH,pZ λy hy=>h y (bL _ hy)]
theorem qU (t:Tab w h T) {cr:List aO} (ho:OutOK T cr):(cr.map (fK T)).Perm (dY T w h (aN cr)):=by
 have h1:((dD T cr).map (fK T)).Perm (dY T w h (aN cr)):=by
  have e:(dD T cr).map (fK T)=(kW (aN cr) T).filter λe=>decide (e.1≠0):=by
   unfold dD kW;rw[qgg,G0,<-qfp,<-qfa,qfb];refine pZ λx hx=>?_
   by_cases h0:aN cr x.1=0
   ·simp[h0,Option.guard]
   ·simp only[h0,dR,iS,Option.guard,uR,ne_eq,iK,aU,cM,aC];rw[wH t hx rfl];try rfl
  rw[e];exact((qZ t).symm.map _).filter _
 exact((pM t ho).map _).trans h1
theorem wL (t:Tab w h T) {cr:List aO} (ho:OutOK T cr):sortC jJ (cr.map (fK T))=dY T w h (aN cr):=by
 have hs:=wI t (aN cr);have hp:=(sT jJ (cr.map (fK T))).trans (qU t ho);refine tP jJ (λx hx y hy h1 h2=>?_) (A5 jJ jcd _) (hs.imp λ{a b} h c=>by rw[xX] at *;omega) hp;have hx:=hp.subset hx;have hy:=hp.subset hy;obtain⟨i,hi,rfl⟩:=fH hx;obtain⟨j,hj,rfl⟩:=fH hy;rw[fV] at hs;rcases oN i j with g | g | g
 ·exact absurd (hs i j hi hj g) h1
 ·subst g;rfl
 ·exact absurd (hs j i hj hi g) h2
theorem N0 (t:Tab w h T) {cr:List aO} (ho:OutOK T cr):pN (cr.map (fK T))=true:=by
 unfold pN;rw[wL t ho];exact E6 (wI t _)
theorem Q4 {K:aP->Int} {e:aL} (he:e∈dY T w h K):e.1≠0:=by
 have:=(jS.1 he).2;simpa using this
theorem lR {α:Type} (l:List α) (n:Nat):(l.drop n).take (l.length-n)=l.drop n:=iM (by simp)
theorem I0 (t:Tab w h T) (hw:1<=w/\w<=6) (hh:1<=h/\h<=6) {cr:List aO} (hck:qJ fuel ((w:Int),((h:Int),cr))=some 0) (ho:OutOK T cr):
  mH fuel ((w:Int),((h:Int),cr))=some (bY T w h (aN cr),0):=by
 have hlen:=ho.len t hw.2 hh.2;apply Ret.eq;unfold mH;rw[show(((w:Int),((h:Int),cr)).1,(((w:Int),((h:Int),cr)).2.1,((w:Int),((h:Int),cr)).2.2))=((w:Int),((h:Int),cr)) from rfl,hck,aC];refine aD (λg=>absurd rfl g) λ_=>?_
 refine aA (by simp only[aW,aQ];omega) ?_;refine cS (λs:List aL×Int=>∃n:Nat,s.2=(n:Int)/\n<=cr.length/\s.1=(cr.take n).map (fK T)) (λs=>cr.length-s.2.toNat) ?_ fuel ([],0) ⟨0,rfl,by omega,by simp⟩ (by simp only[fuel];omega);rintro ⟨all,n'⟩ rec ⟨n,hn,hnl,hall⟩ hrec;simp only at hn hall;subst hn hall;refine aD (λhlt=>?_) λhge=>?_
 ·have hlt:(n:Int)< (cr.length:Int):=hlt;have hi:n<cr.length:=by omega
  have hin:bB (n:Int) cr.length=true:=aV (by omega) hlt;refine aA hin ?_;simp only;rw[dZ hi];obtain⟨x,hx,ex⟩:=bC.1 (ho.sub cr[n] (bX hi));rw[show((cr[n].1,cr[n].2.1):aP)=x.1 from ex.symm,L4 t hx,aC];refine aA (eT (by simp only[cY,nM];omega)) (aA (aG (by omega) (by omega)) (hrec _ ⟨n+1,by simp,hi,?_⟩ (by simp only;omega)));simp only;rw[pU _ _ hi,eI,qgh,wH t hx ex]
 have hge:¬(n:Int)< (cr.length:Int):=hge;have:n=cr.length:=by omega
 subst this;have eS:xO fuel (((cr.take cr.length).map (fK T),none),((),()))=some ((),((dY T w h (aN cr),none),((),()))):=by
  unfold xO;have e1:(Nat.ble (List.length (α:=aL) ((cr.take cr.length).map (fK T))) 1000000&&pN ((cr.take cr.length).map (fK T)))=true:=by
   rw[iL,N0 t ho,rN,qik,cY];omega
  have e2:=e1;simp only at e1 ⊢;rw[e1,iL,wL t ho];rfl
 rw[eS,aC];have hX0:=qV t (aN cr);have hL0:(dY T w h (aN cr)).length<=1000:=by rw[<-(qU t ho).length_eq,cY];exact hlen
 have hN0:∀e∈dY T w h (aN cr),e.1≠0:=λe he=>Q4 he
 simp only;generalize bY T w h (aN cr)=X at hX0 ⊢;generalize dY T w h (aN cr)=F at hX0 hL0 hN0 ⊢;refine cS (λs:List aL×List aL=>(∀e∈s.1,e.1≠0)/\bI (s.2,none) s.1=X/\s.2.length+s.1.length<=1000) (λs=>s.1.length) ?_ fuel (F,[]) ⟨hN0,hX0.symm,by simpa using hL0⟩ (by simp only[fuel];omega);clear hX0 hL0 hN0 eS hrec rec;rintro ⟨all,out⟩ rec5 ⟨hN,hX,hL⟩ hrec5;simp only at hN hX hL;cases all with
 | nil=>
   refine aD (λg=>absurd g (by simp)) λ_=>?_
   simp only[bI,pR,kO] at hX;subst hX;have hb:cU 0 (out.length:Int) out.length=true:=by unfold cU;simp
   refine aA (by simp only[aW,aQ];exact⟨⟨hb,by omega⟩,by omega⟩) (aA ?_ (aS ?_))
   ·simp[kV]
   ·simp
 | cons x r=>
   have hb:∀n:Nat,n+1<=(x::r).length->cU ((n:Int)+1) ((x::r).length:Int) (x::r).length=true:=λn hn=>by
    unfold cU;simp only[aW,aQ];omega
   refine aD (λ_=>?_) λg=>absurd (by simp only[cL];omega) g
   refine aA (aV (by omega) (by simp only[cL];omega)) (aA (hb 0 (by simp)) ?_);generalize hA:x::r=A at hb hrec5 hN hX hL;have hAl:1<=A.length:=by rw[<-hA];simp
   refine cS (λs:Int×(Int×(Int×(Int×(Int×(Int×Int)))))=>∃(n:Nat) (y:aL),s=((n:Int)+1,((n:Int),enc (some y)))/\n+1<=A.length/\y.1≠0/\bI (out,some y) (A.drop (n+1))=X) (λs=>A.length-s.1.toNat) ?_ fuel _ ⟨0,x,by rw[<-hA];rfl,hAl,hN x (by rw[<-hA];simp),?_⟩ (by simp only[fuel];omega)
   rotate_left
   ·rw[<-hA] at hX ⊢;rw[<-hX];have:=hN x (by rw[<-hA];simp);rw[bI,oC this];rfl
   rintro s rec6 ⟨n,y,rfl,hn,hy,hXn⟩ hrec6;have ex:bI (out++[y],none) (A.drop (n+1))=X->Ret (aB (gA (out.length+1)) (aB (cU ((n:Int)+1) (A.length:Int) A.length) (rec5 (((A.drop ((n:Int)+1).toNat).take (A.length-((n:Int)+1).toNat)),(out++[y]))))) λx=>x=(X,0):=λhx=>by
    refine aA (eT (by omega)) (aA (hb n hn) (hrec5 _ ⟨?_,?_,?_⟩ ?_))
    ·intro e he;simp only[lR] at he;exact hN e (rM he)
    ·simp only[lR];rw[show((n:Int)+1).toNat=n+1 by omega];exact hx
    ·simp only[lR,cZ,dU,mA];omega
    ·simp only[lR,mA];omega
   have hd1:(A.drop 1).take (A.length-1)=A.drop 1:=lR A 1;have hdl:((A.drop 1).take (A.length-1)).length=A.length-1:=by rw[hd1,mA]
   refine aD (λhlt=>?_) λhge=>?_
   ·have hlt:(n:Int)< (((A.drop 1).take (A.length-1)).length:Int):=hlt;have hn2:n+1<A.length:=by omega
    refine aA (aV (qfu n) hlt) ?_;have hg:((A.drop 1).take (A.length-1)).getD ((n:Int).toNat) (0,((0,0),(0,0)))=A[n+1]:=by
     rw[dZ (by omega)];simp only[hd1,pO]
     congr 1
     omega
    have hd:=jK hn2;have fl:¬goes y A[n+1]->bI (out++[y],none) (A.drop (n+1))=X:=λhg=>by
     rw[<-hXn];exact(qS λe he=>by rw[hd] at he;cases he;exact hg).symm
    rw[hd] at hXn;simp only;rw[hg];generalize A[n+1]=z at hXn hg fl ⊢;refine aD (λg=>ex (fl λh=>g h.1.symm)) λg1=>?_
    refine cV (λg=>ex (fl λh=>?_)) λg2=>?_
    ·have e1:z.2.1.1=y.2.1.1:=by rw[h.2.1]
     have e2:z.2.1.2=y.2.1.2:=by rw[h.2.1]
     simp[enc,e1,e2] at g
    refine aD (λg=>ex (fl λh=>g h.2.2.symm)) λg3=>?_
    have g1:z.1=y.1:=iF.1 g1;have g3:z.2.2.1=y.2.2.2:=iF.1 g3;have g2:z.2.1.1=y.2.1.1/\z.2.1.2=y.2.1.2:=by
     by_cases u1:z.2.1.1=y.2.1.1<;>by_cases u2:z.2.1.2=y.2.1.2<;>simp[enc,u1,u2] at g2 ⊢
    have hgo:goes y z:=⟨g1.symm,iN g2.1.symm g2.2.symm,g3.symm⟩
    have hz:z.1≠0:=by rw[g1];exact hy
    rw[bI,qX hz hgo] at hXn;exact aA (aG (by omega) (by omega)) (aA (aG (by omega) (by omega)) (hrec6 _ ⟨n+1,(y.1,(y.2.1,(y.2.2.1,z.2.2.2))),by simp[enc],hn2,hy,hXn⟩ (by simp only;omega)))
   ·have hge:¬(n:Int)< (((A.drop 1).take (A.length-1)).length:Int):=hge;refine ex ?_;rw[<-hXn];have:A.drop (n+1)=[]:=lZ (by omega);rw[this];simp[bI]
end
end X
end Go.Vm
namespace Go.Vm
namespace X
open W Go.RowKit Go.Proofs.Un
section
variable {w h:Nat} {T:List aI}
theorem M0:In.sheets_Neighbour=sheets_Neighbour:=rfl
theorem J1:In.sheets_Count=sheets_Count:=rfl
theorem vU:∀(l acc:List aP),acc.length+l.length<=1000->
  fZ (fun(x2:((List (Int×Int))×Unit))=>aB (cU 0 ((x2.1.length:Nat):Int) x2.1.length&&decide (((x2.1.length:Nat):Int)<=((x2.1.length:Nat):Int))&&decide (((x2.1.length:Nat):Int)<=((x2.1.length:Nat):Int))) (aB ((Nat.beq 0 0)&&(kV (some x2.1.length) (x2.1.take x2.1.length).length)) (some ((x2.1.take x2.1.length),(0:Int))))) (λy2 rec2 x2=>aB (gA (x2.1.length+1)) (rec2 ((x2.1++[(y2.1,y2.2)]),()))) l (acc,())=some (acc++l,0)
 | [],acc,_=>by
   simp[fZ,aB,cU,kV]
 | y::l,acc,h=>by
   simp only[cL] at h;simp only[fZ];rw[eT (by omega),vU l (acc++[(y.1,y.2)]) (by simp only[cZ,dU];omega)];simp[aB]
theorem H4 (hw:1<=w/\w<=6) (hh:1<=h/\h<=6):sheets_Count fuel ((w:Int),(h:Int))=some ((4*w*h:Nat):Int):=by
 have hwh:w*h<=6*6:=gL hw.2 hh.2;have e:4* (w:Int)* (h:Int)=((4*w*h:Nat):Int):=by simp
 have e2:4*w*h=4* (w*h):=nN _ _ _;unfold sheets_Count;simp only;rw[kR hw hh,aC];simp only[ne_eq,gQ,aT,aJ];rw[e,aG (by omega) (by omega),aG (by omega) (by omega)];rfl
theorem wQ (t:Tab w h T) (hw:1<=w/\w<=6) (hh:1<=h/\h<=6) {u:aP}:u∈T.map (·.1)↔∃i,i<12*w*h/\lI w h i=true/\u=(((i / 3:Nat):Int),((i%3:Nat):Int)):=by
 have hwh:w*h<=6*6:=gL hw.2 hh.2;have e2:12*w*h=12* (w*h):=nN _ _ _;have e3:4*w*h=4* (w*h):=nN _ _ _;have hu:=t.us;unfold Y1 at hu;simp only at hu;rw[kR hw hh,aC] at hu;simp only[ne_eq,gQ,aT,aJ] at hu;cases hr:xQ (((w:Int),(h:Int)),()) with
 | none=>rw[hr] at hu;cases hu
 | some L=>
   have hL:L=(oW w h (12*w*h)).map fun(i:Nat)=>(((i / 3:Nat):Int),((i%3:Nat):Int)):=by
    unfold xQ at hr;rw[J1] at hr;simp only at hr;rw[H4 hw hh] at hr;simp only[cK] at hr;rw[show 3* (4*w*h)=12*w*h by omega] at hr;cases hk:okU (w:Int) (h:Int) ((4*w*h:Nat):Int) with
    | true=>rw[hk] at hr;exact(lV hr).symm
    | false=>rw[hk] at hr;cases hr
   have hLl:L.length<=1000:=by
    rw[hL,cY];have:=qfq (lI (w:Int) (h:Int)) (List.range (12*w*h));unfold oW;rw[qgt] at this;omega
   rw[hr,aC,vU L [] (by simpa using hLl)] at hu;have hT:T.map (·.1)=L:=by simpa using hu.symm
   rw[hT,hL];unfold oW;simp only[bC,jS,eZ];constructor
   ·rintro ⟨i,⟨h1,h2⟩,rfl⟩;exact⟨i,h1,h2,rfl⟩
   ·rintro ⟨i,h1,h2,rfl⟩;exact⟨i,⟨h1,h2⟩,rfl⟩
theorem qG (t:Tab w h T) {i:Nat} (hi:i<12*w*h):∃n er,sheets_Neighbour fuel (((w:Int),(h:Int)),(((i / 3:Nat):Int),((i%3:Nat):Int)))=some (n,er)/\D5 w h i=some (n,er)/\(er≠0\/n≠((i / 3:Nat):Int)):=by
 have:=cI.1 t.nb i (eZ.2 hi);unfold jdk at this;split at this
 ·rename_i n er hn;refine⟨n,er,?_,hn,by simpa using this⟩;rw[<-M0];exact hn
 ·cases this
theorem H9 (t:Tab w h T) (hw:1<=w/\w<=6) (hh:1<=h/\h<=6) {u:aP} (hu:u∈T.map (·.1)):kS fuel (((w:Int),(h:Int)),u)=some (u,0):=by
 obtain⟨i,hi,hp,rfl⟩:=(wQ t hw hh).1 hu;obtain⟨n,er,h1,h2,h3⟩:=qG t hi;unfold lI at hp;rw[h2] at hp;simp only[aW,aQ] at hp;obtain⟨rfl,hp⟩:=hp;unfold kS;simp only;rw[h1,aC];simp only[ne_eq,gQ,aT,aJ];rw[show min (((i / 3:Nat):Int)) n=((i / 3:Nat):Int) by omega]
theorem H8 (t:Tab w h T) (hw:1<=w/\w<=6) (hh:1<=h/\h<=6) {u:aP} (h0:0<=u.2) (hu:u∉T.map (·.1)):∃r,kS fuel (((w:Int),(h:Int)),u)=some r/\(r.2≠0\/r.1.1≠u.1):=by
 have hwh:w*h<=6*6:=gL hw.2 hh.2;have e2:12*w*h=12* (w*h):=nN _ _ _;have e3:4*w*h=4* (w*h):=nN _ _ _;have e:4* (w:Int)* (h:Int)=((4*w*h:Nat):Int):=by simp
 by_cases hc:0<=u.1/\u.1< ((4*w*h:Nat):Int)
 rotate_left
 ·
  have hcell:pG fuel (((w:Int),(h:Int)),u.1)=some ((0,(0,0)),7):=by
   unfold pG;simp only;rw[kR hw hh,aC];simp only[ne_eq,gQ,aT,aJ];by_cases g:0<=u.1
   ·have:¬u.1< ((4*w*h:Nat):Int):=λh=>hc ⟨g,h⟩
    rw[e,aG (by omega) (by omega),aG (by omega) (by omega)];simp only[aB,aH,g,aU,this,aT,wF]
   ·simp only[g,aT,aJ]
  refine⟨((0,0),7),?_,.inl (by decide)⟩;unfold kS sheets_Neighbour;simp only;rw[hcell,aC];rfl
 obtain⟨hc0,hc1⟩:=hc;by_cases he:2<u.2
 ·
  obtain⟨n,er,h1,_,_⟩:=qG t (i:=3*u.1.toNat) (by omega);rw[show(((3*u.1.toNat / 3:Nat):Nat):Int)=u.1 by omega] at h1;unfold sheets_Neighbour at h1;simp only at h1;cases hcl:pG fuel (((w:Int),(h:Int)),u.1) with
  | none=>rw[hcl] at h1;cases h1
  | some r1=>
    unfold kS sheets_Neighbour;simp only;rw[hcl,aC];by_cases g:r1.2=0
    ·have hcn:sY fuel ((r1.1.1,(r1.1.2.1,r1.1.2.2)),u.2)=some ((0,(0,0)),1):=by
      unfold sY;simp only[he,aU,aH];cases decide (r1.1.1 < -4096)<;>cases decide (4096<r1.1.1)<;>cases decide (r1.1.2.1 < -4096)<;>cases decide (4096<r1.1.2.1)<;>cases decide (3<r1.1.2.2)<;>rfl
     simp only[g,ne_eq,gQ,aT,aJ];rw[hcn,aC];exact⟨_,rfl,.inl (by decide)⟩
    ·simp only[g,ne_eq,iK,aU,aH,aC];exact⟨_,rfl,.inl g⟩
 obtain⟨n,er,h1,h2,h3⟩:=qG t (i:=3*u.1.toNat+u.2.toNat) (by omega);have ei:(((3*u.1.toNat+u.2.toNat) / 3:Nat):Int)=u.1:=by omega
 have ej:(((3*u.1.toNat+u.2.toNat)%3:Nat):Int)=u.2:=by omega
 rw[ei,ej] at h1;rw[ei] at h3;unfold kS;simp only;rw[h1,aC];by_cases g:er=0
 ·subst g;simp only[ne_eq,gQ,aT,aJ];refine⟨_,rfl,.inr ?_⟩;have hnp:¬u.1<n:=λhn=>hu ((wQ t hw hh).2 ⟨3*u.1.toNat+u.2.toNat,by omega,by unfold lI;rw[h2];simp only[aU,sK,aQ];omega,iN ei.symm ej.symm⟩)
  have h3:n≠u.1:=h3.resolve_left (by simp);simp only;omega
 ·simp only[g,ne_eq,iK,aU,aH];exact⟨_,rfl,.inl g⟩
end
end X
end Go.Vm
namespace Go.Vm
namespace X
open W Go.RowKit Go.Proofs.Un
def gM (c:aO):Prop:=1<=c.2.2/\c.2.2<=3
def gF (u v:aP):Prop:=u.1<v.1\/u.1=v.1/\u.2<v.2
def jF (cr:List aO) (n:Nat):Prop:=∀j (h:j+1<cr.length),j+1<n->gF (aZ cr[j]) (aZ cr[j+1])
open Classical in
noncomputable def jQ (T:List aI) (cr:List aO):Int:=if ∀c∈cr,gM c then(if ∀c∈cr,aZ c∈T.map (·.1) then(if jF cr cr.length then 0 else 6) else 7) else 1
section
variable {w h:Nat} {T:List aI}
theorem tC {α:Type} {l:List α} {i:Nat} (hi:i<l.length) {c:α} (hc:c∈l.take (i+1)):c∈l.take i\/c=l[i]:=by
 rw[pU _ _ hi] at hc;rcases bU.1 hc with hc | hc
 ·exact .inl hc
 ·exact .inr (cD.1 hc)
theorem G9 {cr:List aO} (hl:cr.length<=1000000):∃b,zG fuel (cr,())=some b/\(b=false↔∀c∈cr,gM c):=by
 have:∃r,sB fuel (cr,())=some r/\(r<0↔∀c∈cr,gM c):=by
  suffices hs:Ret (sB fuel (cr,())) λr=>(r<0↔∀c∈cr,gM c) from hs.imp λr h=>h
  unfold sB;refine cS (λi:Int=>0<=i/\i<=cr.length/\∀c∈cr.take i.toNat,gM c) (λi=>cr.length-i.toNat) ?_ fuel 0 ⟨by omega,by omega,by simp⟩ (by simp only[fuel];omega);rintro i' rec ⟨i0,i1,hno⟩ hrec;obtain⟨i,rfl⟩:∃i:Nat,i'=(i:Int):=⟨i'.toNat,by omega⟩
  rw[cK] at hno;refine aD (λhlt=>?_) λhge=>?_
  ·have hlt:(i:Int)< (cr.length:Int):=hlt;have hi:i<cr.length:=by omega
   refine aA (aV i0 hlt) ?_;simp only;rw[dZ hi];have bad:¬gM cr[i]->((i:Int)<0↔∀c∈cr,gM c):=λhb=>⟨λg=>absurd g (by omega),λg=>absurd (g _ (bX hi)) hb⟩
   refine aD (λg1=>cV (λg2=>aS (bad ?_)) λg2=>?_) λg1=>aS (bad λg=>g1 g.1)
   ·intro g;have:=g.2;simp[this] at g2
   ·have hk:gM cr[i]:=⟨g1,by simpa using g2⟩
    refine aA (aG (by omega) (by omega)) (hrec _ ⟨by omega,by omega,λc hc=>?_⟩ (by omega));rw[show((i:Int)+1).toNat=i+1 by omega] at hc;rcases tC hi hc with hc | rfl
    ·exact hno c hc
    ·exact hk
  ·have hge:¬(i:Int)< (cr.length:Int):=hge;rw[iM (by omega)] at hno;exact aS ⟨λ_=>hno,λ_=>by decide⟩
 obtain⟨r,hr,hi⟩:=this;refine⟨decide (0<=r),?_,?_⟩
 ·unfold zG;rw[hr,aC]
 ·rw[iU,<-hi];omega
theorem lT {u:aP} (t:Tab w h T) (hw:1<=w/\w<=6) (hh:1<=h/\h<=6) (hu:u∈T.map (·.1)):0<=u.1/\u.1<=1000/\0<=u.2/\u.2<=2:=by
 obtain⟨x,hx,rfl⟩:=bC.1 hu;have li:=t.li hx;have h1:=li.u0;have h2:=li.u1;have h3:=li.e0;have h4:=li.e2
 have:w*h<=6*6:=gL hw.2 hh.2;have e:(4* (w:Int)*h)=4* ((w*h:Nat):Int):=by rw[nW,sJ]
 omega
theorem I4 {cr:List aO} {i:Nat} (h:jF cr (i+1)) (hi:i+1<cr.length) (hl:gF (aZ cr[i]) (aZ cr[i+1])):jF cr (i+2):=λj hj hjn=>by
 by_cases e:j=i
 ·subst e;exact hl
 ·exact h j hj (by omega)
theorem B0 (t:Tab w h T) (hw:1<=w/\w<=6) (hh:1<=h/\h<=6) {cr:List aO} (hl:cr.length<=1000000) (hu:∀c∈cr,0<=c.2.1):qJ fuel ((w:Int),((h:Int),cr))=some (jQ T cr):=by
 obtain⟨b,hb,hb2⟩:=G9 hl;apply Ret.eq;unfold qJ;simp only;rw[kR hw hh,aC,hb,aC];refine aD (λg=>absurd rfl g) λ_=>cV (λhbt=>aS ?_) λhbf=>?_
 ·unfold jQ;rw[aF λh=>by rw[hb2.2 h] at hbt;cases hbt]
 have hk:=hb2.1 hbf;unfold jQ;rw[aK hk];refine cS (λi:Int=>0<=i/\i<=cr.length/\∀c∈cr.take i.toNat,aZ c∈T.map (·.1)) (λi=>cr.length-i.toNat) ?_ fuel 0 ⟨by omega,by omega,by simp⟩ (by simp only[fuel];omega);rintro i' rec ⟨i0,i1,hno⟩ hrec;obtain⟨i,rfl⟩:∃i:Nat,i'=(i:Int):=⟨i'.toNat,by omega⟩
 rw[cK] at hno;refine aD (λhlt=>?_) λhge=>?_
 ·have hi:i<cr.length:=by omega
  refine aA (aV i0 hlt) ?_;rw[dZ hi,show((cr[i].1,cr[i].2.1):aP)=aZ cr[i] from rfl];by_cases hm:aZ cr[i]∈T.map (·.1)
  ·rw[H9 t hw hh hm,aC];refine aD (λg=>absurd rfl g) λ_=>cV (λg=>by simp[aZ] at g) λ_=>?_
   refine aA (aG (by omega) (by omega)) (hrec _ ⟨by omega,by omega,λc hc=>?_⟩ (by omega));rw[show((i:Int)+1).toNat=i+1 by omega] at hc;rcases tC hi hc with hc | rfl
   ·exact hno c hc
   ·exact hm
  ·obtain⟨r,hr,hr2⟩:=H8 t hw hh (hu _ (bX hi)) hm;rw[hr,aC,aF λh=>hm (h _ (bX hi))];refine aD (λ_=>aS rfl) λg=>?_
   have hr3:=hr2.resolve_left g;exact cV (λ_=>aS rfl) λg2=>by simp[aZ] at g2 hr3;exact absurd g2.1 hr3
 rw[iM (by omega)] at hno;rw[aK hno];clear hrec i1 hge;refine cS (λi:Int=>∃n:Nat,i=(n:Int)+1/\(n+1<=cr.length\/n=0)/\jF cr (n+1)) (λi=>cr.length+1-i.toNat) ?_ fuel 1 ⟨0,rfl,.inr rfl,λj hj hjn=>by omega⟩ (by simp only[fuel];omega);rintro i' rec ⟨n,rfl,hn,hasc⟩ hrec;refine aD (λhlt=>?_) λhge=>?_
 ·have hi:n+1<cr.length:=by omega
  have e1:((n:Int)+1-1).toNat=n:=by omega
  refine aA (aG (by omega) (by omega)) (aA (aV (by omega) (by omega)) (aA (aV (by omega) hlt) ?_));have g1:cr.getD ((n:Int)+1-1).toNat (0,(0,0))=cr[n]:=by rw[e1,<-dZ (d:=(0,(0,0))) (show n<cr.length by omega)];rw[cK]
  have g2:cr.getD ((n:Int)+1).toNat (0,(0,0))=cr[n+1]:=by rw[<-dZ (d:=(0,(0,0))) hi];rfl
  rw[g1,g2];have m1:=lT t hw hh (hno _ (bX (show n<cr.length by omega)));have m2:=lT t hw hh (hno _ (bX hi));unfold aZ at m1 m2;simp only at m1 m2;have ho:∃r,yO fuel ((cr[n].1,cr[n].2.1),(cr[n+1].1,cr[n+1].2.1))=some r/\(0<=r↔¬gF (aZ cr[n]) (aZ cr[n+1])):=by
   unfold yO gF aZ;simp only;by_cases e:cr[n].1=cr[n+1].1
   ·rw[show(decide (cr[n].1≠cr[n+1].1))=false by simp[e],aJ,aG (by omega) (by omega),aG (by omega) (by omega),aG (by omega) (by omega)];refine⟨_,rfl,?_⟩;omega
   ·rw[show(decide (cr[n].1≠cr[n+1].1))=true by simp[e],aH,aG (by omega) (by omega)];refine⟨_,rfl,?_⟩;omega
  obtain⟨r,hr,hr2⟩:=ho;rw[hr,aC];refine aD (λg=>aS ?_) λg=>?_
  ·rw[aF (show ¬jF cr cr.length from λh=>hr2.1 g (h n hi hi))]
  ·have hlt2:gF (aZ cr[n]) (aZ cr[n+1]):=nJ λhc=>g (hr2.2 hc)
   exact aA (aG (by omega) (by omega)) (hrec _ ⟨n+1,by simp,by omega,I4 hasc hi hlt2⟩ (by omega))
 ·refine aS ?_;rw[aK (show jF cr cr.length from λj hj hjn=>hasc j hj (by omega))]
end
end X
end Go.Vm
namespace Go.Vm
namespace X
open W Go.RowKit Go.Proofs.Un
def iI (a b:aL):Bool:= !decide (goes a b)
def lS (c e:aL):aL:=(c.1,(c.2.1,(c.2.2.1,e.2.2.2)))
def eY:aL->List aL->List aL
 | c,[]=>[c]
 | c,e::l=>if goes c e then eY (lS c e) l else c::eY e l
theorem oA:∀(l:List aL) (out:List aL) (c:aL),(∀e∈l,e.1≠0)->bI (out,some c) l=out++eY c l
 | [],out,c,_=>rfl
 | e::l,out,c,h=>by
   have he:=h e bH;have hl:∀e∈l,e.1≠0:=λx hx=>h x (bL _ hx)
   simp only[eY];by_cases g:goes c e
   ·rw[bI,qX he g,aK g];exact oA l out (lS c e) hl
   ·rw[bI,wN he g,aF g,oA l _ e hl];simp
theorem vQ:∀(l:List aL) (c:aL),∃d r,eY c l=d::r/\d.1=c.1/\d.2.1=c.2.1/\d.2.2.1=c.2.2.1
 | [],c=>⟨c,[],rfl,rfl,rfl,rfl⟩
 | e::l,c=>by
   simp only[eY];by_cases g:goes c e
   ·rw[aK g];obtain⟨d,r,h1,h2,h3,h4⟩:=vQ l (lS c e);exact⟨d,r,h1,h2,h3,h4⟩
   ·rw[aF g];exact⟨c,_,rfl,rfl,rfl,rfl⟩
theorem qA:∀(l:List aL) (c:aL),iA iI (eY c l)=true
 | [],c=>rfl
 | e::l,c=>by
   simp only[eY];by_cases g:goes c e
   ·rw[aK g];exact qA l _
   ·rw[aF g];obtain⟨d,r,h1,h2,h3,h4⟩:=vQ l e;have ih:=qA l e;rw[h1] at ih ⊢;have:iI c d=true:=by
     unfold iI;simp only[kL,iU];rintro ⟨g1,g2,g3⟩;exact g ⟨by rw[g1,h2],by rw[g2,h3],by rw[g3,h4]⟩
    have e:iA iI (c::d::r)=(iI c d&&iA iI (d::r)):=rfl;rw[e,this,ih];rfl
def kB (K:aP->Int) (k:Int) (l:Int×Int):Int->List aI->Int->Prop
 | p,[],q=>p=q
 | p,x::r,q=>K x.1=k/\x.2.1=l/\x.2.2.1=p/\kB K k l x.2.2.2 r q
theorem vB {K:aP->Int} {k:Int} {l:Int×Int}:∀ {r:List aI} {p q:Int} {x:aI},kB K k l p r q->K x.1=k->x.2.1=l->x.2.2.1=q->kB K k l p (r++[x]) x.2.2.2
 | [],p,q,x,h,h1,h2,h3=>by cases h;exact⟨h1,h2,h3,rfl⟩
 | y::r,p,q,x,h,h1,h2,h3=>⟨h.1,h.2.1,h.2.2.1,vB h.2.2.2 h1 h2 h3⟩
structure Run (K:aP->Int) (s:aL) (r:List aI):Prop where
 ne:r≠[]
 run:kB K s.1 s.2.1 s.2.2.1 r s.2.2.2
theorem qB {K:aP->Int}:∀(l:List aI) (c:aL) (r:List aI),Run K c r->∃RS:List (aL×List aI),eY c (kW K l)=RS.map (·.1)/\(∀s∈RS,Run K s.1 s.2)/\RS.flatMap (·.2)=r++l
 | [],c,r,h=>⟨[(c,r)],rfl,λs hs=>by rw[cD.1 hs];exact h,by simp⟩
 | x::l,c,r,h=>by
   have e:eY c (kW K (x::l))=if goes c (K x.1,x.2) then eY (lS c (K x.1,x.2)) (kW K l) else c::eY (K x.1,x.2) (kW K l):=rfl
   rw[e];by_cases g:goes c (K x.1,x.2)
   ·rw[aK g];obtain⟨RS,h1,h2,h3⟩:=qB l (lS c (K x.1,x.2)) (r++[x]) ⟨by simp,vB h.run g.1.symm g.2.1.symm g.2.2.symm⟩;exact⟨RS,h1,h2,by rw[h3];simp⟩
   ·rw[aF g];obtain⟨RS,h1,h2,h3⟩:=qB l (K x.1,x.2) [x] ⟨by simp,rfl,rfl,rfl,rfl⟩;refine⟨(c,r)::RS,by rw[h1];rfl,λs hs=>?_,by rw[jD,h3];simp⟩;rcases bJ.1 hs with rfl | hs
    ·exact h
    ·exact h2 s hs
section
variable {w h:Nat} {T:List aI}
def fL (T:List aI) (w h:Nat) (K:aP->Int):List aI:=(eP T w h).filter λx=>decide (K x.1≠0)
theorem qT (K:aP->Int):dY T w h K=kW K (fL T w h K):=by
 unfold dY fL kW;rw[G0];rfl
theorem nT (t:Tab w h T) {K:aP->Int} {x:aI}:x∈fL T w h K↔x∈T/\K x.1≠0:=by
 unfold fL;rw[jS,lX t];simp
theorem Q7 (t:Tab w h T) (K:aP->Int):∃RS:List (aL×List aI),bY T w h K=RS.map (·.1)/\(∀s∈RS,Run K s.1 s.2)/\RS.flatMap (·.2)=fL T w h K:=by
 rw[qV t,qT];have hN:∀x∈fL T w h K,K x.1≠0:=λx hx=>((nT t).1 hx).2
 cases hf:fL T w h K with
 | nil=>exact⟨[],rfl,(λs hs=>by cases hs),rfl⟩
 | cons x r=>
   rw[hf] at hN;have h0:=hN x bH;have e:bI ([],none) (kW K (x::r))=eY (K x.1,x.2) (kW K r):=by
    have:bI ([],none) (kW K (x::r))=bI (stepG ([],none) (K x.1,x.2)) (kW K r):=rfl;rw[this,oC h0,oA]
    ·rfl
    ·intro e he;obtain⟨y,hy,rfl⟩:=bC.1 he;exact hN y (bL _ hy)
   rw[e];exact qB r _ [x] ⟨by simp,rfl,rfl,rfl,rfl⟩
theorem Q6 (t:Tab w h T) (K:aP->Int):iA iI (bY T w h K)=true:=by
 rw[qV t,qT];have hN:∀x∈fL T w h K,K x.1≠0:=λx hx=>((nT t).1 hx).2
 cases hf:fL T w h K with
 | nil=>rfl
 | cons x r=>
   rw[hf] at hN;have h0:=hN x bH;have:bI ([],none) (kW K (x::r))=bI (stepG ([],none) (K x.1,x.2)) (kW K r):=rfl;rw[this,oC h0,oA]
   ·exact qA _ _
   ·intro e he;obtain⟨y,hy,rfl⟩:=bC.1 he;exact hN y (bL _ hy)
theorem pV (hT:TB T) (hk:KeyD T) {K:aP->Int} {k:Int} {l:Int×Int} {q:Int}:∀(r:List aI) (p:Int),(∀x∈r,x∈T)->kB K k l p r q->dS T l q p=some (r.map (·.1))/\p<=q
 | [],p,_,h=>by
   cases h;rw[lF hT,aK rfl];exact⟨rfl,qP _⟩
 | x::r,p,hm,⟨h1,h2,h3,h4⟩=>by
   have hx:=hm x bH;obtain⟨i1,i2⟩:=pV hT hk r _ (λy hy=>hm y (bL _ hy)) h4;have:=hT x hx;have hl:dM T l p=some x:=by rw[<-h2,<-h3];exact D4 hk hx
   rw[lF hT,aF (by omega),hl];simp only;rw[aF (by omega),i1];exact⟨rfl,by omega⟩
theorem vC (t:Tab w h T) (hw:w<=6) (hh:h<=6) {K:aP->Int} {s:aL} {r:List aI} (hr:Run K s r) (hm:∀x∈r,x∈T) (hK:∀x∈r,1<=K x.1/\K x.1<=3):cJ T s=(r.map (·.1),0):=by
 have hT:=t.tb hw hh;obtain⟨h1,h2⟩:=pV hT t.key r _ hm hr.run;cases r with
 | nil=>exact absurd rfl hr.ne
 | cons x r=>
   obtain⟨g1,g2,g3,g4⟩:=hr.run;have hx:=hm x bH;have hk:=hK x bH;have li:=t.li hx;have:=(pV hT t.key r _ (λy hy=>hm y (bL _ hy)) g4).2;have b:=hT x hx;have a1:=li.k1;have a2:=li.k4;have a3:=li.c0;have a4:=li.c1
   rw[g2] at a1 a2 a3 a4;have ho:OrdP s:=⟨by omega,by omega,a1,a2,by omega,by omega,by omega⟩
   rw[xS ho,h1]
end
section
variable {w h:Nat} {T:List aI}
theorem vE {k:Int} (hk:1<=k/\k<=3):∀(us:List aP) (out:List aO),OutOK T out->(out.map aZ++us).Nodup->(∀v∈us,v∈T.map (·.1))->eF k out us=some (out++us.map λv=>(v.1,(v.2,k)))
 | [],out,_,_,_=>by simp[eF]
 | v::us,out,ho,hn,hs=>by
   have hv:aN out v=0:=by
    rw[jL ho];intro hm;rw[qM] at hn;exact hn.2.2 v hm v bH rfl
   have e1:(out++[(v.1,(v.2,k))]).map aZ++us=out.map aZ++v::us:=by simp[aZ]
   rw[eF,aK hv,vE hk us _ (ho.add hv (hs v bH) hk) (by rw[e1];exact hn) λx hx=>hs x (bL _ hx)];simp
theorem qH (t:Tab w h T) (hw:w<=6) (hh:h<=6) {K:aP->Int}:∀(RS:List (aL×List aI)) (i:Int) (out:List aO),OutOK T out->(∀s∈RS,Run K s.1 s.2)->(∀x∈RS.flatMap (·.2),x∈T/\1<=K x.1/\K x.1<=3)->
  (out.map aZ++(RS.flatMap (·.2)).map (·.1)).Nodup->dI T i out (RS.map (·.1))=.inl (out++(RS.flatMap (·.2)).map λx=>(x.1.1,(x.1.2,K x.1)))
 | [],i,out,_,_,_,_=>by simp[dI]
 | s::RS,i,out,ho,hr,hm,hn=>by
   have hs:=hr s bH;rw[jD] at hm hn ⊢;have hm1:∀x∈s.2,x∈T/\1<=K x.1/\K x.1<=3:=λx hx=>hm x (qfy _ hx)
   have hu:=vC t hw hh hs (λx hx=>(hm1 x hx).1) (λx hx=>(hm1 x hx).2);have hK:∀(r:List aI) (p q:Int),kB K s.1.1 s.1.2.1 p r q->∀x∈r,K x.1=s.1.1:=by
    intro r;induction r with
    | nil=>intro p q _ x hx;cases hx
    | cons y r ih=>
      intro p q hr x hx;rcases bJ.1 hx with rfl | hx
      ·exact hr.1
      ·exact ih _ _ hr.2.2.2 x hx
   have hK:=hK _ _ _ hs.run;have hk:1<=s.1.1/\s.1.1<=3:=by
    cases hs2:s.2 with
    | nil=>exact absurd hs2 hs.ne
    | cons y r=>
      rw[hs2] at hK hm1;rw[<-hK y bH];exact(hm1 y bH).2
   have hn1:(out.map aZ++s.2.map (·.1)).Nodup:=by
    rw[eI,<-dX] at hn;exact(qM.1 hn).1
   have ha:=vE hk (s.2.map (·.1)) out ho hn1 (λv hv=>by obtain⟨x,hx,rfl⟩:=bC.1 hv;exact bC.2 ⟨x,(hm1 x hx).1,rfl⟩);have ho2:=pW hk _ _ _ ho (λv hv=>by obtain⟨x,hx,rfl⟩:=bC.1 hv;exact bC.2 ⟨x,(hm1 x hx).1,rfl⟩) ha;have e2:(s.2.map (·.1)).map (λv:aP=>((v.1,(v.2,s.1.1)):aO))=s.2.map λx=>(x.1.1,(x.1.2,K x.1)):=by
    rw[iQ];refine kM λx hx=>?_
    simp only[uR];rw[hK x hx]
   rw[dA,dI,hu];simp only[cM];rw[ha];simp only;rw[qH t hw hh RS _ _ ho2 (λx hx=>hr x (bL _ hx)) (λx hx=>hm x (qfr _ hx)) ?_,e2]
   ·simp
   ·have e3:(out++(s.2.map (·.1)).map (λv:aP=>((v.1,(v.2,s.1.1)):aO))).map aZ=out.map aZ++s.2.map (·.1):=by
     rw[eI,iQ]
     congr 1
     exact(kM λx hx=>rfl).trans (qht _)
    rw[e3,dX,<-eI];exact hn
end
end X
end Go.Vm
namespace Go.Vm
namespace X
open W
theorem jcj {p:iE} (h:p.2.2.length<=1000000):A1 fuel (p,p)=some 0:=by
 apply Ret.eq;unfold A1;refine cV (λg=>by simp at g) λ_=>?_
 refine aD (λg=>absurd rfl g) λ_=>?_
 refine cS (λi:Int=>0<=i/\i<=p.2.2.length) (λi=>p.2.2.length-i.toNat) ?_ fuel 0 ⟨by omega,by omega⟩ (by simp only[fuel];omega);rintro i rec ⟨i0,i1⟩ hrec;refine aD (λhlt=>?_) λ_=>aS rfl
 have hin:=aV i0 hlt;have hlt:i< (p.2.2.length:Int):=hlt;refine aA hin (aA hin ?_);refine cV (λg=>by simp at g) λ_=>?_
 exact aA (aG (by omega) (by omega)) (hrec _ ⟨by omega,by omega⟩ (by omega))
end X
end Go.Vm
namespace Go.Vm
namespace X
open W Go.RowKit Go.Proofs.Un
theorem tW:∀(U:List aP) (A:List Int),((eH U A).map aZ).Sublist U
 | [],A=>by cases A<;>exact qha _
 | u::U,[]=>qhi _
 | u::U,a::A=>by
   by_cases h:a=0
   ·rw[eH,aK h];exact(tW U A).cons _
   ·rw[eH,aF h,dA];exact(tW U A).cons_cons _
theorem tV:∀(U:List aP) (A:List Int) (c:aO),c∈eH U A->c.2.2∈A/\c.2.2≠0
 | [],A,c,h=>by cases A<;>cases h
 | u::U,[],c,h=>by cases h
 | u::U,a::A,c,h=>by
   by_cases h0:a=0
   ·rw[eH,aK h0] at h;have:=tV U A c h;exact⟨bL _ this.1,this.2⟩
   ·rw[eH,aF h0] at h;rcases bJ.1 h with rfl | h
    ·exact⟨bH,h0⟩
    ·have:=tV U A c h;exact⟨bL _ this.1,this.2⟩
structure PatOK (T:List aI) (cr:List aO):Prop where
 ok:OutOK T cr
 pw:(cr.map aZ).Pairwise gF
section
variable {w h:Nat} {T:List aI}
theorem G7 (t:Tab w h T) {A:List Int} (hA:∀a∈A,0<=a/\a<=3):PatOK T (eH (T.map (·.1)) A):=by
 have hs:=tW (T.map (·.1)) A;refine⟨⟨hs.nodup t.ndU,λc hc=>hs.subset (bC.2 ⟨c,hc,rfl⟩),λc hc=>?_⟩,qgi hs t.asc⟩;have:=tV _ _ _ hc;have:=hA _ this.1;omega
theorem K0 (t:Tab w h T) (hw:1<=w/\w<=6) (hh:1<=h/\h<=6) {cr:List aO} (ho:PatOK T cr):dD T cr=cr:=by
 have hs:=oK t cr;refine tP jP (λx hx y hy h1 h2=>?_) (hs.imp λ{a b} h c=>by rw[mK] at *;omega) ?_ (pM t ho.ok).symm
 ·obtain⟨i,hi,rfl⟩:=fH hx;obtain⟨j,hj,rfl⟩:=fH hy;rw[fV] at hs;rcases oN i j with g | g | g
  ·exact absurd (hs i j hi hj g) h1
  ·subst g;rfl
  ·exact absurd (hs j i hj hi g) h2
 ·have hp:=pB.1 ho.pw;have:cr.Pairwise λa b=>(a∈cr/\b∈cr)/\gF (aZ a) (aZ b):=by
   rw[fV] at hp ⊢;exact λi j hi hj hij=>⟨⟨bX _,bX _⟩,hp i j hi hj hij⟩
  refine this.imp λ{a b} ⟨⟨ha,hb⟩,hl⟩ c=>?_
  have m1:=lT t hw hh (ho.ok.sub a ha);have m2:=lT t hw hh (ho.ok.sub b hb);unfold aZ at m1 m2;simp only at m1 m2;rw[mK,kJ (by omega) (by omega),kJ (by omega) (by omega)] at c;unfold gF aZ at hl;simp only at hl;omega
theorem J0 {cr:List aO} (ho:PatOK T cr):jQ T cr=0:=by
 unfold jQ;rw[aK (show ∀c∈cr,gM c from ho.ok.k1),aK ho.ok.sub,aK];intro j hj hjn;have hp:=pB.1 ho.pw;rw[fV] at hp;exact hp j (j+1) (by omega) hj (by omega)
theorem Q3 {RS:List (aL×List aI)} {K:aP->Int} (h:∀s∈RS,Run K s.1 s.2):RS.length<=(RS.flatMap (·.2)).length:=by
 induction RS with
 | nil=>simp
 | cons s RS ih=>
   have h1:=(h s bH).ne;have h2:=ih λx hx=>h x (bL _ hx)
   rw[jD,cZ,cL];have:1<=s.2.length:=by
    cases hs:s.2 with
    | nil=>exact absurd hs h1
    | cons y r=>simp
   omega
structure SegOK (T:List aI) (w h:Nat) (cr:List aO) (X:List aL):Prop where
 len:X.length<=1000
 un:∀s∈X,(cJ T s).2=0
 sum:(X.map λs=>(cJ T s).1.length).sum=cr.length
 pat:gU T w h X=(((w:Int),((h:Int),cr)),(0,0))
 ng:iA iI X=true
theorem lO (t:Tab w h T) (hw:1<=w/\w<=6) (hh:1<=h/\h<=6) {cr:List aO} (ho:PatOK T cr):SegOK T w h cr (bY T w h (aN cr)):=by
 obtain⟨RS,h1,h2,h3⟩:=Q7 t (aN cr);have hm:∀x∈RS.flatMap (·.2),x∈T/\1<=aN cr x.1/\aN cr x.1<=3:=λx hx=>by
  rw[h3,nT t] at hx;refine⟨hx.1,?_⟩;have hin:x.1∈cr.map aZ:=nJ λhn=>hx.2 ((jL ho.ok).2 hn)
  obtain⟨c,hc,ec⟩:=bC.1 hin;have:=mF ho.ok.nd hc;rw[ec] at this;rw[this];exact ho.ok.k1 c hc
 have hfl:(fL T w h (aN cr)).length=cr.length:=by
  have:=(qU t ho.ok).length_eq;rw[qT,cY] at this;rw[this];unfold kW;rw[cY]
 have hcl:=ho.ok.len t hw.2 hh.2;have hu:∀s∈RS,cJ T s.1=(s.2.map (·.1),0):=λs hs=>by
  have hsub:∀x∈s.2,x∈RS.flatMap (·.2):=λx hx=>iV.2 ⟨s,hs,hx⟩
  exact vC t hw.2 hh.2 (h2 s hs) (λx hx=>(hm x (hsub x hx)).1) λx hx=>(hm x (hsub x hx)).2
 have hnd:((RS.flatMap (·.2)).map (·.1)).Nodup:=by
  rw[h3];unfold fL;have hw2:((eP T w h).map (·.1)).Nodup:=by
   have:=(qZ t).map (·.1);exact this.symm.nodup t.ndU
  exact(qg0 _ qf4).nodup hw2
 refine⟨?_,?_,?_,?_,Q6 t _⟩
 ·rw[h1,cY];have:=Q3 h2;rw[h3,hfl] at this;omega
 ·intro s hs;rw[h1] at hs;obtain⟨r,hr,rfl⟩:=bC.1 hs;rw[hu r hr]
 ·rw[h1,iQ,<-hfl,<-h3,qf5]
  congr 1
  refine kM λs hs=>?_
  simp only[uR];rw[hu s hs,cY]
 ·unfold gU;rw[h1,qH t hw.2 hh.2 RS 0 [] lB h2 hm (by simpa using hnd)];simp only[fB];have hout:OutOK T ((RS.flatMap (·.2)).map λx=>((x.1.1,(x.1.2,aN cr x.1)):aO)):=by
   refine qI (RS.map (·.1)) 0 [] _ lB ?_;rw[qH t hw.2 hh.2 RS 0 [] lB h2 hm (by simpa using hnd)];rfl
  have hfe:dD T ((RS.flatMap (·.2)).map λx=>((x.1.1,(x.1.2,aN cr x.1)):aO))=dD T cr:=by
   unfold dD;refine pZ λx hx=>?_
   have hk:aN ((RS.flatMap (·.2)).map λx=>((x.1.1,(x.1.2,aN cr x.1)):aO)) x.1=aN cr x.1:=by
    by_cases h0:aN cr x.1=0
    ·rw[h0,jL hout];intro hin;obtain⟨c,hc,ec⟩:=bC.1 hin;obtain⟨y,hy,rfl⟩:=bC.1 hc;have hy2:=hm y hy;have:y.1=x.1:=ec;rw[this,h0] at hy2;omega
    ·have hin:x∈RS.flatMap (·.2):=by rw[h3,nT t];exact⟨hx,h0⟩
     exact mF hout.nd (c:=(x.1.1,(x.1.2,aN cr x.1))) (bC.2 ⟨x,hin,rfl⟩)
   rw[hk]
  rw[hfe,K0 t hw hh ho]
theorem wY (t:Tab w h T) (hw:1<=w/\w<=6) (hh:1<=h/\h<=6) {cr:List aO} (ho:PatOK T cr):mH fuel ((w:Int),((h:Int),cr))=some (bY T w h (aN cr),0):=by
 have hcl:=ho.ok.len t hw.2 hh.2;refine I0 t hw hh ?_ ho.ok;rw[B0 t hw hh (by omega) λc hc=>(lT t hw hh (ho.ok.sub c hc)).2.2.1,J0 ho]
theorem jco {a:Int×(Int×List Int)} (h1:0<=a.1) (h3:0<=a.2.1) (hk:∀k∈a.2.2,0<=k):
  ∃w h:Nat,(1<=w/\w<=4)/\(1<=h/\h<=4)/\∀T,Tab w h T->∃cr,PatOK T cr/\rH fuel a=some ((w:Int),((h:Int),cr)):=by
 refine⟨1+ (a.1%4).toNat,1+ (a.2.1%4).toNat,by omega,by omega,λT t=>?_⟩;suffices hs:Ret (rH fuel a) λr=>∃A:List Int,(∀k∈A,0<=k/\k<=3)/\r=(((1+ (a.1%4).toNat:Nat):Int),(((1+ (a.2.1%4).toNat:Nat):Int),eH (T.map (·.1)) A)) by
  obtain⟨r,hr,A,hA,rfl⟩:=hs;exact⟨_,G7 t hA,hr⟩
 have ew:1+a.1%4=((1+ (a.1%4).toNat:Nat):Int):=by omega
 have eh:1+a.2.1%4=((1+ (a.2.1%4).toNat:Nat):Int):=by omega
 generalize hw:1+ (a.1%4).toNat=w at ew t ⊢;generalize hh:1+ (a.2.1%4).toNat=h at eh t ⊢;have bw:1<=w/\w<=6:=by omega
 have bh:1<=h/\h<=6:=by omega
 have hwh:w*h<=6*6:=gL bw.2 bh.2;have e6:6* (w:Int)* (h:Int)=((6* (w*h):Nat):Int):=by simp[sJ]
 unfold rH;rw[ew,eh];refine aA (by simp only[aW,aQ];omega) (aA (aG (by omega) (by omega)) (aA (aG (by omega) (by omega)) (aA (by simp only[aW,aQ];omega) (aA (aG (by omega) (by omega)) (aA (aG (by omega) (by omega)) (aA (aG (by omega) (by omega)) (aA (by rw[e6];exact aG (by omega) (by omega)) (aA (by rw[e6];simp only[aW,aQ];omega) ?_))))))));have hlen:(List.replicate (α:=Int) (6* (w:Int)* (h:Int)).toNat 0).length=6* (w*h):=by rw[qeo,e6,cK]
 have fin:∀A:List Int,A.length=6* (w*h)->(∀k∈A,0<=k/\k<=3)->Ret ((tN fuel (((w:Int),(h:Int)),A)).bind λr2=>some (r2.1,(r2.2.1,r2.2.2))) λr=>∃A:List Int,(∀k∈A,0<=k/\k<=3)/\r=((w:Int),((h:Int),eH (T.map (·.1)) A)):=λA hA hA2=>by
  rw[C0 t bw bh (by omega),aC];exact aS ⟨A,hA2,rfl⟩
 refine cS (λs:Int×(List Int×Option Nat)=>0<=s.1/\s.1<=6* (w*h)/\s.2.1.length=6* (w*h)/\∀k∈s.2.1,0<=k/\k<=3) (λs=>6* (w*h)-s.1.toNat) ?_ fuel _ ⟨by omega,by omega,hlen,λk hk=>by have:=(qfv.1 hk).2;omega⟩ (by simp only[fuel];omega);rintro ⟨i,A,cp⟩ rec ⟨i0,i1,hA,hA2⟩ hrec;simp only at i0 i1 hA hA2;refine aD (λg1=>aD (λg2=>?_) λ_=>fin A hA hA2) λ_=>fin A hA hA2
 simp only at g1 g2;have hi:i.toNat<a.2.2.length:=by omega
 have hge:0<=a.2.2.getD i.toNat 0:=by
  rw[gP,dE hi];exact hk _ (bX hi)
 refine aA (aV i0 g2) (aA (by simp only[aW,aQ];omega) (aA (aV i0 g1) (aA (aG (by omega) (by omega)) (hrec _ ⟨by simp only;omega,by simp only;omega,by simp only[rP];exact hA,λk hk=>?_⟩ (by simp only;omega)))));simp only at hk;rcases N9 hk with hk | rfl
 ·exact hA2 k hk
 ·omega
end
end X
end Go.Vm
namespace Go.Vm
namespace X
open W Go.RowKit Go.Proofs.Un
end X
end Go.Vm
namespace Go.Vm
namespace X
open W Go.RowKit Go.Proofs.Un
set_option maxRecDepth 100000
def fF (X:List bG):Nat->List bG->Option Int
 | _,[]=>none
 | i,y::r=>if X[i]?=some y then fF X (i+1) r else some ((i:Int)+2)
def oJ (q:Int×(Int×List aO)) (c:Option Int):lA:=match c with
 | none=>(q,(0,0))
 | some m=>((0,(0,[])),(m,6))
inductive Dec (s:List Nat):lA->Prop
 | bad (n:Int) (h0:0<n) (h:bP 0 (0,0) [] [] (aM 10 s)=.inl n):Dec s (nB n)
 | sum (sh:Int×Int) (l:List bG) (sum:Int) (body:List Nat) (h:bP 0 (0,0) [] [] (aM 10 s)=.inr (sh,(l,(sum,body)))) (h1:sum≠cR body):Dec s ((0,(0,[])),((l.length:Int)+2,10))
 | sheet (sh:Int×Int) (l:List bG) (sum:Int) (body:List Nat) (h:bP 0 (0,0) [] [] (aM 10 s)=.inr (sh,(l,(sum,body)))) (h1:sum=cR body) (hv:fD fuel sh=some 0):Dec s ((0,(0,[])),(1,1))
 | pat (w h:Nat) (l:List bG) (sum:Int) (body:List Nat) (hr:bP 0 (0,0) [] [] (aM 10 s)=.inr (((w:Int),(h:Int)),(l,(sum,body)))) (j er:Int) (h0:0<=j) (h1:er≠0):Dec s ((0,(0,[])),(j+2,er))
 | cmp (w h:Nat) (T:List aI) (t:Tab w h T) (hw:1<=w/\w<=6) (hh:1<=h/\h<=6) (l:List bG) (sum:Int) (body:List Nat) (hr:bP 0 (0,0) [] [] (aM 10 s)=.inr (((w:Int),(h:Int)),(l,(sum,body)))) (h1:sum=cR body)
    (cr:List aO) (hcr:PatOK T cr) (hpr:gU T w h l=(((w:Int),((h:Int),cr)),(0,0))):Dec s (oJ ((w:Int),((h:Int),cr)) (fF (bY T w h (aN cr)) 0 l))
end X
end Go.Vm
namespace Go.Vm
namespace X
open W Go.RowKit Go.Proofs.Un
theorem pF {w h:Nat} {T:List aI} (t:Tab w h T) (hw:1<=w/\w<=6) (hh:1<=h/\h<=6) {cr:List aO} (hcr:PatOK T cr):∀x∈bY T w h (aN cr),OkX x:=by
 intro x hx;have hu:=(lO t hw hh hcr).un x hx;have ho:OrdP x:=iF.1 λg=>by rw[xR g] at hu;cases hu
 have hT:=t.tb hw.2 hh.2;have hf:¬(64<x.2.2.2\/x.2.2.1 < -64):=λg=>T0 hT g hu
 exact⟨⟨ho.k1,ho.k3,ho.l1,ho.l4,ho.c0,ho.c1,ho.ft⟩,by omega,by omega⟩
def bW (w h:Nat) (X:List bG):List Nat:=(cA++32::bM (w:Int)++32::bM (h:Int)++[10])++(X.map λx=>cG x++[10]).flatten
theorem pY {n:Int} (h0:0<=n) (h:n<1000000000):(bM n).length<=20:=gJ 20 _
theorem G3 {w h:Nat} {T:List aI} (t:Tab w h T) (hw:1<=w/\w<=6) (hh:1<=h/\h<=6) {cr:List aO} (hcr:PatOK T cr):wG fuel ((w:Int),((h:Int),cr))=some (bW w h (bY T w h (aN cr))):=by
 have hx:=pF t hw hh hcr;have hl:=(lO t hw hh hcr).len;have hcl:=hcr.ok.len t hw.2 hh.2;have d1:=pY (n:=(w:Int)) (by omega) (by omega);have d2:=pY (n:=(h:Int)) (by omega) (by omega);have hro:=zB t hw hh (cr:=cr) (by omega);generalize bY T w h (aN cr)=X at hx hl hro ⊢;apply Ret.eq;unfold wG;simp only;rw[oD (n:=(w:Int)) (by omega) (by omega),aC];refine aA (bD (by omega)) (aA (bD (by simp;omega)) ?_);rw[oD (n:=(h:Int)) (by omega) (by omega),aC];refine aA (bD (by simp;omega)) (aA (bD (by simp;omega)) ?_);rw[hro,aC];refine cS (λp:List Nat×Int=>∃i:Nat,p.2=i/\i<=X.length/\p.1.length<=100+41*i/\p.1++((X.drop i).map λx=>cG x++[10]).flatten=bW w h X) (λp=>X.length-p.2.toNat) ?_ fuel _ ⟨0,rfl,eW _,by simp;omega,by simp[bW,cA]⟩ (by simp only[fuel];omega);rintro ⟨b,i'⟩ rec ⟨i,e,hi,hb,he⟩ ih;simp only at e hb he ih ⊢;subst e;refine aD (λhlt=>?_) λhge=>?_
 ·have hlt:i<X.length:=by omega
  have hxi:=hx _ (bX hlt);have hsl:=mC hxi;rw[dZ hlt];refine aA (aV (by omega) (by omega)) ?_;rw[show((X[i].1,((X[i].2.1.1,X[i].2.1.2),(X[i].2.2.1,X[i].2.2.2))):bG)=X[i] from rfl,G4 hxi,aC];refine aA (bD (by omega)) (aA (bD (by simp;omega)) (aA (aG (by omega) (by omega)) (ih _ ⟨i+1,by simp,hlt,by simp;omega,?_⟩ (by simp only;omega))));rw[<-he,iJ hlt,dA,kH];simp only[dX]
 ·have:i=X.length:=by omega
  subst this;rw[jM] at he;exact aS (by rw[<-he];simp)
end X
end Go.Vm
namespace Go.Vm
namespace X
open W Go.RowKit Go.Proofs.Un
def bZ (s:List Nat):List Nat:=((s++[101,110,100,32])++bM (cR s))++[10]
theorem lH (s:List Nat):(bM (cR s)).length<=20:=gJ 20 _
theorem C7 {s:List Nat} (hl:s.length<=1000000):pL fuel s=some (bZ s):=by
 have hb:=lW s;have hd:=lH s;apply Ret.eq;unfold pL;refine aA (bD (by omega)) ?_;rw[show xB fuel s=sC s from rfl,xP (by omega),aC];refine aA (aG (by omega) (by omega)) ?_;rw[mJ (by omega) (by omega),aC];exact aA (bD (by simp;omega)) (aA (bD (by simp;omega)) (aS rfl))
theorem m7 {s:List Nat} (hl:s.length<=1000000) (hB:∀x∈s,x<256):rQ fuel s=some (bZ s):=by
 have hb:=lW s;have hd:=lH s;apply Ret.eq;unfold rQ;refine aA (bD (by omega)) ?_;rw[zA (by omega) hB,aC,oD (by omega) (by omega),aC];exact aA (bD (by simp;omega)) (aA (bD (by simp;omega)) (aS rfl))
end X
end Go.Vm
namespace Go.Vm
namespace X
open W Go.RowKit Go.Proofs.Un Go.Proofs.F11
theorem wK {x:bG} (hx:OkX x):∀y∈cG x,y<256:=by
 have hv:=hx.vl;have hft:=hx.o.ft;have f0:=hx.f0;have t1:=hx.t1;have n0:=(dL hv.2.2.1 hv.2.2.2).ch;have n1:=(dL (n:=x.2.2.1) (by omega) (by omega)).ch;have n2:=(dL (n:=x.2.2.2) (by omega) (by omega)).ch;have k1:=t6 ⟨hx.o.k1,hx.o.k3⟩;have k2:=u7 ⟨hv.1,hv.2.1⟩;intro y hy;simp only[cG,eA,bU,bJ,cD,gV,gR] at hy;rcases hy with((((((rfl | rfl) | hy) | rfl) | hy) | rfl) | hy)
 ·exact k1.1
 ·omega
 ·rcases hy with rfl | rfl | hy
  ·exact k2.1
  ·omega
  ·have:=n0 y hy;omega
 ·omega
 ·have:=n1 y hy;omega
 ·omega
 ·have:=n2 y hy;omega
theorem pK {n:Int} (h0:0<=n) (h1:n<9223372036854775808):∀y∈bM n,y<256:=λy hy=>by
 have:=lK (u:=n.toNat) (by omega) y hy;omega
theorem d5 {s:List Nat} (hl:s.length<=100) (hb:∀x∈s,x<256):(Go.Vm.W.mkS (some s)).data.toList.map UInt8.toNat=s:=by
 obtain⟨t,e1,e2⟩:=jaq (o:=some s) (by simp only[nI];rw[bE,bD hl]);cases e1;rw[e2];exact nR hb
theorem Z6 {w h:Nat} (hw:1<=w/\w<=6) (hh:1<=h/\h<=6) {X:List bG} (hX:∀x∈X,OkX x):zU (fG fuel) (eX fuel) (w:Int) (h:Int) X=bW w h X:=by
 have hs:∀x∈X,fG fuel x=some (cG x):=λx hx=>by
  rcases pE x with⟨_,g⟩ | ⟨g,_⟩
  ·exact g
  ·exact absurd (hX x hx) g
 have hn:∀n:Nat,n<=6->(Go.Vm.W.mkS (eX fuel (n:Int))).data.toList.map UInt8.toNat=bM (n:Int):=λn h=>by
  rw[mJ (by omega) (by omega)];exact d5 (gE (pY (by omega) (by omega)) (by omega)) (pK (by omega) (by omega))
 unfold zU vK K1 bW;simp only;rw[iL,eI]
 congr 1
 ·simp only[eI,hn w hw.2,hn h hh.2];simp[cA]
 ·clear hw hh hn;induction X with
  | nil=>rfl
  | cons x X ih=>
    rw[jD,eI,dA,kH,ih (λy hy=>hX y (bL _ hy)) λy hy=>hs y (bL _ hy)]
    congr 1
    rw[eI,hs x bH,d5 (gE (mC (hX x bH)) (by omega)) (wK (hX x bH))];rfl
end X
end Go.Vm
namespace Go.Vm
namespace X
open W Go.RowKit Go.Proofs.Un Go.Proofs.F11
theorem L6 {X:List bG} (hX:∀x∈X,OkX x):((X.map λx=>cG x++[10]).flatten).length<=41*X.length:=by
 induction X with
 | nil=>simp
 | cons x X ih=>
   have:=ih λy hy=>hX y (bL _ hy)
   have h2:=mC (hX x bH);rw[dA,kH,cZ,cZ,dU,cL];omega
theorem uA {w h:Nat} {X:List bG} (hX:∀x∈X,OkX x) (hl:X.length<=1000):(bW w h X).length<=41100:=by
 have h1:=L6 hX;have d1:(bM (w:Int)).length<=20:=gJ 20 _;have d2:(bM (h:Int)).length<=20:=gJ 20 _;unfold bW;rw[cZ];have:(cA++32::bM (w:Int)++32::bM (h:Int)++[10]).length<=60:=by simp[cA];omega
 omega
theorem U4 {w h:Nat} (hw:w<=6) (hh:h<=6) {X:List bG} (hX:∀x∈X,OkX x):∀y∈bW w h X,y<256:=by
 have d1:=pK (n:=(w:Int)) (by omega) (by omega);have d2:=pK (n:=(h:Int)) (by omega) (by omega);intro y hy;unfold bW at hy;rcases bU.1 hy with hy | hy
 ·simp only[cA,bU,bJ,gV,gR] at hy;rcases hy with((hy | hy) | hy) | hy
  ·omega
  ·rcases hy with hy | hy
   ·omega
   ·exact d1 y hy
  ·rcases hy with hy | hy
   ·omega
   ·exact d2 y hy
  ·omega
 ·obtain⟨l,hl,hy⟩:=qgc.1 hy;obtain⟨x,hx,rfl⟩:=bC.1 hl;rcases bU.1 hy with hy | hy
  ·exact wK (hX x hx) y hy
  ·simp at hy;omega
theorem jaf {w h:Nat} {T:List aI} (t:Tab w h T) (hw:1<=w/\w<=6) (hh:1<=h/\h<=6) {cr:List aO} (hcr:PatOK T cr):
  zZ fuel ((w:Int),((h:Int),cr))=some (bZ (bW w h (bY T w h (aN cr))),0)/\yZ fuel ((w:Int),((h:Int),cr))=some (bZ (bW w h (bY T w h (aN cr)))):=by
 have hX:=pF t hw hh hcr;have hl:=(lO t hw hh hcr).len;have hof:=wY t hw hh hcr;have hrb:=G3 t hw hh hcr;generalize bY T w h (aN cr)=X at hX hl hof hrb ⊢;have hbl:=uA (w:=w) (h:=h) hX hl;have hbb:=U4 hw.2 hh.2 hX;have hsl:=lH (bW w h X);constructor
 ·show uE (mH fuel) (fG fuel) (eX fuel) (pL fuel) ((w:Int),((h:Int),cr))=_;unfold uE;rw[hof,aC];have hit:∀n:Nat,n<=6->nI (eX fuel (n:Int))=true:=λn hn=>by
   rw[mJ (by omega) (by omega)];have:(bM (n:Int)).length<=20:=gJ 20 _;simp only[nI];rw[bE,bD (by omega)]
  have hok:D8 (fG fuel) (eX fuel) (w:Int) (h:Int) X=true:=by
   unfold D8;rw[hit w hw.2,hit h hh.2,bE,bD (by omega),kP,kP,sK,cI];intro x hx;rcases pE x with⟨_,g⟩ | ⟨g,_⟩
   ·rw[g];have:=mC (hX x hx);simp only[nI];rw[bE,bD (by omega)]
   ·exact absurd (hX x hx) g
  refine(cO rfl).trans ?_;simp only;rw[hok,aH,Z6 hw hh hX,C7 (by omega),aC,bE,kN (by simp[bZ];omega)];rfl
 ·apply Ret.eq;unfold yZ;simp only;rw[hrb,aC,m7 (by omega) hbb];exact aS rfl
end X
end Go.Vm
namespace Go.Vm
namespace X
open W
theorem J2:(List.range 256).all (λd=>d==0||Nat.gcd 65521 d==1)=true:=by decide +kernel
theorem xZ {d:Nat} (h0:0<d) (h:d<256):Nat.gcd 65521 d=1:=by
 have:=cI.1 J2 d (eZ.2 h);simp only[pC,beq_iff_eq] at this;omega
end X
end Go.Vm
namespace Go.Vm
namespace X
open W Go.RowKit
set_option maxRecDepth 100000
end X
end Go.Vm
namespace Go.Vm
namespace X
open W Go.RowKit Go.Proofs.Un
theorem zX (r:List Nat):∀Ls:List (List Nat),(∀l∈Ls,10∉l)->aM 10 ((Ls.map λl=>l++[10]).flatten++r)=Ls++aM 10 r
 | [],_=>rfl
 | l::Ls,h=>by
   have ih:=zX r Ls λx hx=>h x (bL _ hx)
   rw[dA,kH,show((l++[10])++(Ls.map λl=>l++[10]).flatten)++r=l++10::((Ls.map λl=>l++[10]).flatten++r) by simp,nC (h l bH),ih];rfl
theorem nF {n:Int} (h0:0<=n) (h1:n<9223372036854775808):∀y∈bM n,48<=y/\y<=57:=λy hy=>lK (u:=n.toNat) (by omega) y hy
theorem W9 {n:Int} (h0:0<=n) (h1:n<1000000000):eG (bM n)=some n.toNat:=by
 refine kK.2 ⟨rfl,by omega,?_⟩;unfold bM;rw[jY (by omega),cY,Lib.decDigits_length];have h2:Lib.nDigits n.toNat<=9:=by
  refine nJ λg=>?_
  have h3:∀u:Nat,u<1000000000->Lib.nDigits u<=9:=λu hu=>by
   rcases(by omega:u<10\/10<=u/\u<100\/100<=u/\u<1000\/1000<=u/\u<10000\/10000<=u/\u<100000\/100000<=u/\u<1000000\/1000000<=u/\u<10000000\/10000000<=u/\u<100000000\/100000000<=u) with g | g | g | g | g | g | g | g | g
   ·rw[Lib.nDigits_small g];omega
   ·rw[Lib.nDigits_unique 1 u (by omega) (by omega)];omega
   ·rw[Lib.nDigits_unique 2 u (by omega) (by omega)];omega
   ·rw[Lib.nDigits_unique 3 u (by omega) (by omega)];omega
   ·rw[Lib.nDigits_unique 4 u (by omega) (by omega)];omega
   ·rw[Lib.nDigits_unique 5 u (by omega) (by omega)];omega
   ·rw[Lib.nDigits_unique 6 u (by omega) (by omega)];omega
   ·rw[Lib.nDigits_unique 7 u (by omega) (by omega)];omega
   ·rw[Lib.nDigits_unique 8 u (by omega) (by omega)];omega
  exact g (h3 _ (by omega))
 exact h2
theorem jrj {a b c:List Nat} (h:∀x∈[a,b,c],∀y∈x,y<256/\y≠32):cB (a++32::b++32::c) [32]=[a,b,c]:=by
 have hb:∀x∈[a,b,c],∀y∈x,y<256:=λx hx y hy=>(h x hx y hy).1
 have h1:=jbo (w:=a) (ws:=[b,c]) h;have e1:=oF (w0:=a) (ws:=[b]) (w:=c) (hb c (by simp));have e2:=oF (w0:=a) (ws:=[]) (w:=b) (hb b (by simp));rw[uJ (hb a (by simp))] at e2;have e3:iT [a,b,c] [32]=a++32::b++32::c:=by
  rw[show [a,b,c]=(a::[b])++[c] from rfl,e1,show a::[b]=([a]++[b]) from rfl,e2]
 rw[e3] at h1;exact h1
theorem jxa {a b:List Nat} (h:∀x∈[a,b],∀y∈x,y<256/\y≠32):cB (a++32::b) [32]=[a,b]:=by
 have hb:∀x∈[a,b],∀y∈x,y<256:=λx hx y hy=>(h x hx y hy).1
 have h1:=jbo (w:=a) (ws:=[b]) h;have e2:=oF (w0:=a) (ws:=[]) (w:=b) (hb b (by simp));rw[uJ (hb a (by simp))] at e2;rw[show a::[b]=([a]++[b]) from rfl,e2] at h1;exact h1
end X
end Go.Vm
namespace Go.Vm
namespace X
open W Go.RowKit Go.Proofs.Un
theorem jo1 {w h:Nat} (hw:w<=1000000) (hh:h<=1000000):cC (cA++32::bM (w:Int)++32::bM (h:Int)) cA 2=some [(w:Int),(h:Int)]:=by
 have d1:=nF (n:=(w:Int)) (by omega) (by omega);have d2:=nF (n:=(h:Int)) (by omega) (by omega);have hwd:=jrj (a:=cA) (b:=bM (w:Int)) (c:=bM (h:Int)) (λx hx y hy=>by
  simp only[bJ,gV,gR] at hx;rcases hx with rfl | rfl | rfl
  ·simp only[cA,bJ,gV,gR] at hy;omega
  ·have:=d1 y hy;omega
  ·have:=d2 y hy;omega)
 unfold cC;rw[hwd];simp only[cL,iD,yT,cM,dF];rw[W9 (by omega) (by omega),W9 (by omega) (by omega)];simp
theorem jfa {n:Int} (h0:0<=n) (h1:n<1000000000):cC (bF++32::bM n) bF 1=some [n]:=by
 have d1:=nF (n:=n) (by omega) (by omega);have hwd:=jxa (a:=bF) (b:=bM n) (λx hx y hy=>by
  simp only[bJ,gV,gR] at hx;rcases hx with rfl | rfl
  ·simp only[bF,bJ,gV,gR] at hy;omega
  ·have:=d1 y hy;omega)
 unfold cC;rw[hwd];simp only[cL,iD,yT,cM,dF];rw[W9 h0 h1];simp;omega
theorem jls {x:bG} (hx:OkX x):cC (cG x) bF 1=none:=by
 unfold cC;rw[jlt hx];simp only[cL,iD];rw[aF λg=>by have:=g.2;omega]
theorem jqk {x:bG} (hx:OkX x):gY (cG x)=some x:=by
 unfold gY;rw[jve hx];simp
theorem jli (sh:Int×Int) (sum:Int) (h0:0<=sum) (h1:sum<1000000000):∀(X:List bG),(∀x∈X,OkX x)->∀(i:Nat),1<=i->∀(l:List bG) (body:List Nat),
  bP i sh l body (X.map cG++[bF++32::bM sum,[]])=.inr (sh,(l++X,(sum,body++(X.map λx=>cG x++[10]).flatten)))
 | [],_,i,hi,l,body=>by
   rw[lM,fB,bP,aF (by omega),jfa h0 h1];simp
 | x::X,hX,i,hi,l,body=>by
   have ih:=jli sh sum h0 h1 X (λy hy=>hX y (bL _ hy)) (i+1) (by omega) (l++[x]) (body++(cG x++[10]));have hx:=hX x bH;obtain⟨v,ws,e⟩:∃v ws,X.map cG++[bF++32::bM sum,[]]=v::ws:=by
    cases X with
    | nil=>exact⟨_,_,rfl⟩
    | cons y Y=>exact⟨_,_,rfl⟩
   rw[dA,fN,e,bP,aF (by omega),jls hx];simp only;rw[aF (by omega),jqk hx];simp only;rw[<-e,ih];simp
end X
end Go.Vm
namespace Go.Vm
namespace X
open W Go.RowKit Go.Proofs.Un
def fY (w h:Nat):List Nat:=cA++32::bM (w:Int)++32::bM (h:Int)
theorem jaz {x:bG} (hx:OkX x):10∉cG x:=by
 have hv:=hx.vl;have hft:=hx.o.ft;have f0:=hx.f0;have t1:=hx.t1;have n0:=(dL hv.2.2.1 hv.2.2.2).ch;have n1:=(dL (n:=x.2.2.1) (by omega) (by omega)).ch;have n2:=(dL (n:=x.2.2.2) (by omega) (by omega)).ch;have k1:fC x.1≠10:=by
  have hk:x.1=1\/x.1=2\/x.1=3:=by have:=hx.o.k1;have:=hx.o.k3;omega
  unfold fC;rcases hk with e | e | e<;>rw[e]<;>decide
 have k2:eO x.2.1.1≠10:=by
  have hk:x.2.1.1=1\/x.2.1.1=2\/x.2.1.1=3\/x.2.1.1=4:=by have:=hx.o.l1;have:=hx.o.l4;omega
  unfold eO;rcases hk with e | e | e | e<;>rw[e]<;>decide
 intro hy;simp only[cG,eA,bU,bJ,cD,gV,gR] at hy;rcases hy with((((((hy | hy) | hy) | hy) | hy) | hy) | hy)
 ·exact k1 hy.symm
 ·omega
 ·rcases hy with hy | hy | hy
  ·exact k2 hy.symm
  ·omega
  ·have:=n0 10 hy;omega
 ·omega
 ·have:=n1 10 hy;omega
 ·omega
 ·have:=n2 10 hy;omega
theorem jc7 {w h:Nat} (hw:w<=1000000) (hh:h<=1000000) {X:List bG} (hX:∀x∈X,OkX x):aM 10 (bZ (bW w h X))=fY w h::(X.map cG++[bF++32::bM (cR (bW w h X)),[]]):=by
 have d1:=nF (n:=(w:Int)) (by omega) (by omega);have d2:=nF (n:=(h:Int)) (by omega) (by omega);have hb:=lW (bW w h X);have d3:=nF (n:=cR (bW w h X)) (by omega) (by omega);obtain⟨S,hS⟩:∃S,S=bM (cR (bW w h X)):=⟨_,rfl⟩
 have e:bZ (bW w h X)=(((fY w h::(X.map cG++[bF++32::S])).map λl=>l++[10]).flatten)++[]:=by
  unfold bZ;rw[<-hS];unfold bW fY bF;simp[iQ,qhb]
 rw[e,zX [] _ λl hl=>?_,<-hS]
 ·simp[aM]
 ·rcases bJ.1 hl with rfl | hl
  ·intro hy;simp only[fY,cA,bU,bJ,gV,gR] at hy;rcases hy with(hy | hy | hy) | hy | hy
   ·omega
   ·omega
   ·have:=d1 10 hy;omega
   ·omega
   ·have:=d2 10 hy;omega
  ·rcases bU.1 hl with hl | hl
   ·obtain⟨x,hx,rfl⟩:=bC.1 hl;exact jaz (hX x hx)
   ·rw[cD.1 hl];intro hy;simp only[bF,bU,bJ,gV,gR] at hy;rcases hy with hy | hy | hy
    ·omega
    ·omega
    ·rw[hS] at hy;have:=d3 10 hy;omega
theorem jtp {w h:Nat} (hw:w<=1000000) (hh:h<=1000000) {X:List bG} (hX:∀x∈X,OkX x):bP 0 (0,0) [] [] (aM 10 (bZ (bW w h X)))=.inr (((w:Int),(h:Int)),(X,(cR (bW w h X),bW w h X))):=by
 have hb:=lW (bW w h X);rw[jc7 hw hh hX];obtain⟨v,ws,e⟩:∃v ws,X.map cG++[bF++32::bM (cR (bW w h X)),[]]=v::ws:=by
  cases X with
  | nil=>exact⟨_,_,rfl⟩
  | cons y Y=>exact⟨_,_,rfl⟩
 rw[e,bP];simp only[cM];rw[show fY w h=cA++32::bM (w:Int)++32::bM (h:Int) from rfl,jo1 hw hh];simp only;rw[<-e,jli _ _ hb.1 (by omega) X hX 1 (bV _)];simp[bW]
end X
end Go.Vm
namespace Go.Vm
namespace X
open W Go.RowKit Go.Proofs.Un
set_option maxRecDepth 100000
theorem jc0 (X:List bG):∀(l:List bG) (i:Nat),X.drop i=l->fF X i l=none
 | [],_,_=>rfl
 | y::l,i,h=>by
   have hi:i<X.length:=qhu λg=>by rw[lZ g] at h;cases h
   rw[iJ hi] at h;injection h with h1 h2;rw[fF,dE hi,h1,aK rfl];exact jc0 X l (i+1) h2
theorem jto {w h:Nat} (hw:w<=1000000) (hh:h<=1000000) {X:List bG} (hX:∀x∈X,OkX x):∀l∈aM 10 (bZ (bW w h X)),l.length<=1000:=by
 rw[jc7 hw hh hX];have d1:(bM (w:Int)).length<=20:=gJ 20 _;have d2:(bM (h:Int)).length<=20:=gJ 20 _;have d3:=lH (bW w h X);intro l hl;rcases bJ.1 hl with rfl | hl
 ·simp[fY,cA];omega
 ·rcases bU.1 hl with hl | hl
  ·obtain⟨x,hx,rfl⟩:=bC.1 hl;have:=mC (hX x hx);omega
  ·simp only[bJ,gV,gR] at hl;rcases hl with rfl | rfl
   ·simp[bF];omega
   ·simp
theorem joj {w h:Nat} {T:List aI} (t:Tab w h T) (hw:1<=w/\w<=6) (hh:1<=h/\h<=6) {cr:List aO} (hcr:PatOK T cr):gD fuel (bZ (bW w h (bY T w h (aN cr))))=some (((w:Int),((h:Int),cr)),(0,0)):=by
 have hX:=pF t hw hh hcr;have hso:=lO t hw hh hcr;have hof:=wY t hw hh hcr;have hcl:=hcr.ok.len t hw.2 hh.2;have hc:=kR hw hh;have hpo:=U1 t hw hh (l:=bY T w h (aN cr)) (by have:=hso.len;omega);rw[hso.pat] at hpo;have hl:=hso.len;generalize bY T w h (aN cr)=l at hX hof hpo hl ⊢;have hbl:=uA (w:=w) (h:=h) hX hl;have hsl:=lH (bW w h l);have hrd:=jtp (w:=w) (h:=h) (by omega) (by omega) hX;have hpc:=jto (w:=w) (h:=h) (by omega) (by omega) hX;obtain⟨body,hbd⟩:∃body,body=bW w h l:=⟨_,rfl⟩
 rw[<-hbd] at hrd hbl hsl hpc ⊢;have hsz:(bZ body).length<=65536:=by simp[bZ];omega
 have hdv:=J8 (s:=bZ body) (by omega) hpc;rw[hrd] at hdv;have htk:((bZ body).drop 0).take ((body.length:Int)).toNat=body:=by simp[bZ]
 have hsb2:=lW body;have hbs:body.length<=(bZ body).length:=by simp[bZ]
 have e1:xB fuel body=some (cR body):=xP (by omega);obtain⟨X,hXl⟩:∃X,X=l:=⟨_,rfl⟩
 have hcmp:=jc0 l l 0 rfl;rw[show(some (((w:Int),((h:Int),cr)),((0:Int),(0:Int))):Option lA)=some (oJ ((w:Int),((h:Int),cr)) (fF l 0 l)) by rw[hcmp];rfl];generalize bZ body=s at hsz hdv htk hbs;apply Ret.eq;unfold gD;refine aD (λg=>absurd g (by omega)) λ_=>?_
 rw[hdv,aC];simp only[kA];refine aD (λg=>absurd g (by omega)) λ_=>aA (cN.2 ⟨by omega,by omega,by omega⟩) ?_
 rw[htk,e1,aC];refine aA (aG (by omega) (by omega)) (aD (λg=>absurd rfl g) λ_=>?_);rw[hc,aC];refine aD (λg=>absurd rfl g) λ_=>?_
 rw[hpo,aC];refine aD (λg=>absurd rfl g) λ_=>?_
 rw[hof,aC];refine cS (λp:Int×(Int×(Int×Unit))=>∃i:Nat,p=((i:Int),(0,(0,())))/\i<=l.length) (λp=>l.length-p.1.toNat) ?_ fuel (0,(0,(0,()))) ⟨0,rfl,eW _⟩ (by simp only[fuel];omega);rintro _ rec ⟨i,rfl,hi⟩ ih;simp only at ih ⊢;refine aD (λhlt=>?_) λhge=>?_
 ·have hlt:i<l.length:=by omega
  refine aA (aV (by omega) (by omega)) (aD (λg=>absurd g (by omega)) λg=>aA (aV (by omega) (by omega)) (cV (λg2=>?_) λg2=>?_))
  ·exfalso;simp at g2
  ·exact aA (aG (by omega) (by omega)) (ih _ ⟨i+1,by simp,hlt⟩ (by simp only;omega))
 ·exact aA (by simp[kV]) (aS (by rw[hcmp];rfl))
end X
end Go.Vm
namespace Go.Vm
namespace X
open W
structure EndAt (t:List Nat) (q:Nat):Prop where
 e:t[q]?=some 101
 n:t[q+1]?=some 110
 d:t[q+2]?=some 100
 s:t[q+3]?=some 32
 dg:∀j c,q+4<=j->t[j]?=some c->c<=57
theorem EndAt.lt {s t:List Nat} {q p i:Nat} (hs:EndAt s q) (ht:EndAt t p) (hd:∀j,j≠i->s[j]?=t[j]?):¬q<p:=by
 intro h;have no:∀ {j c},q+1<=j->s[j]?=some c->c≠101:=λ{j c} hj hc=>by
  rcases(by omega:j=q+1\/j=q+2\/j=q+3\/q+4<=j) with e | e | e | e
  ·rw[e,hs.n] at hc;cases hc;decide
  ·rw[e,hs.d] at hc;cases hc;decide
  ·rw[e,hs.s] at hc;cases hc;decide
  ·have:=hs.dg j c e hc;omega
 have no2:∀ {j c},q+2<=j->s[j]?=some c->c≠110:=λ{j c} hj hc=>by
  rcases(by omega:j=q+2\/j=q+3\/q+4<=j) with e | e | e
  ·rw[e,hs.d] at hc;cases hc;decide
  ·rw[e,hs.s] at hc;cases hc;decide
  ·have:=hs.dg j c e hc;omega
 by_cases hi:p=i
 ·have h1:=hd (p+1) (by omega);rw[ht.n] at h1;exact no2 (by omega) h1 rfl
 ·have h1:=hd p hi;rw[ht.e] at h1;exact no (by omega) h1 rfl
end X
end Go.Vm
namespace Go.Vm
namespace X
open W
end X
end Go.Vm
namespace Go.Vm
namespace X
open W Go.RowKit Go.Proofs.Un
theorem yB (B:List Nat):bZ B=B++((bF++32::aX 20 (cR B).toNat)++[10]):=by
 unfold bZ bM bF;simp
end X
end Go.Vm
namespace Go.Vm
namespace X
open W Go.RowKit Go.Proofs.Un
end X
end Go.Vm
namespace Go.Vm
namespace X
open W Go.RowKit Go.Proofs.Un
theorem jjk {e:List Nat} (h:e.length<=1000000000) (hn:∀A,e≠A++[10]):gW fuel (e,[10])=some (e,false):=by
 apply Ret.eq;unfold gW;simp only;refine aD (λg=>?_) λ_=>aS rfl
 have g:1<=e.length:=by simp at g;omega
 refine aA (aG (by simp;omega) (by simp;omega)) (aA (cN.2 ⟨by simp;omega,by simp;omega,by omega⟩) (cV (λ_=>aS rfl) λg2=>?_));exfalso;have e1:(((e.length:Int)-(([10]:List Nat).length:Int))).toNat=e.length-1:=by simp
 have g3:((e.drop (((e.length:Int)-(([10]:List Nat).length:Int))).toNat).take (e.length-(((e.length:Int)-(([10]:List Nat).length:Int))).toNat))=[10]:=by simpa using g2
 rw[e1,iM (by rw[mA];exact bV _)] at g3;exact hn (e.take (e.length-1)) (by rw[<-g3,O3])
theorem L3 {c:Nat}:∀ {l:List Nat},c∉l->mS c l= -1
 | [],_=>rfl
 | x::l,h=>by
   have h1:=L3 λg=>h (bL _ g)
   have h2:x≠c:=λe=>h (e▸bH)
   rw[mS,h1,aF (by omega),aF h2]
theorem jbp {c:Nat} {w:List Nat} (hw:c∉w):∀A:List Nat,mS c (A++c::w)=A.length
 | []=>by rw[fB,mS,L3 hw];simp
 | x::A=>by
   rw[fN,mS,jbp hw A,aK (by omega)];simp
theorem jko {s:List Nat} (h:s.length<=1000000000):jl0 fuel (s,[10])=some (mS 10 s):=by
 show V8 (s,[10])=_;unfold V8;simp only;rw[bE,bD h];rfl
inductive MendB (s:List Nat):List Nat->Prop
 | no (h:∀A,s≠A++[10]):MendB s s
 | yes (A w:List Nat) (e:s=A++(w++[10])) (hA:A=[]\/∃A',A=A'++[10]) (hw:10∉w) (body:List Nat) (hb:body=if(cC w bF 1).isSome=true then A else s):MendB s body
theorem MendB.len {s b:List Nat} (h:MendB s b):b.length<=s.length:=by
 cases h with
 | no h=>exact bV _
 | yes A w e hA hw _ hb=>
   rw[hb];split
   ·rw[e];simp
   ·exact bV _
theorem MendB.pre {s b:List Nat} (h:MendB s b):∃R,s=b++R:=by
 cases h with
 | no h=>exact⟨[],by simp⟩
 | yes A w e hA hw _ hb=>
   rw[hb];split
   ·exact⟨_,e⟩
   ·exact⟨[],by simp⟩
noncomputable def yL (N:Nat) (body:List Nat):Option (List Nat×Int):=bif(decide ((65536:Int)< (((bZ body).length:Nat):Int))) then(some ([],3)) else((gD N (bZ body)).bind λr7=>bif(decide (r7.2.2≠0)) then(some ([],r7.2.2)) else(some (bZ body,0)))
theorem jbu {s body:List Nat} (hm:MendB s body) (hs:s.length<=65536):nG fuel s=yL fuel body:=by
 have hbl:=hm.len;have fin:(pL fuel body).bind (λr6=>bif(decide ((65536:Int)< ((r6.length:Nat):Int))) then(some ([],3)) else((gD fuel r6).bind λr7=>bif(decide (r7.2.2≠0)) then(some ([],r7.2.2)) else(some (r6,0))))=yL fuel body:=by
  rw[C7 (by omega),aC];rfl
 unfold nG;refine(dG (by omega)).trans ?_;cases hm with
 | no h=>
   rw[jjk (by omega) h,aC,iP];simp only[aJ];exact fin
 | yes A w e hA hw _ hb=>
   have hl:s.length=A.length+w.length+1:=by rw[e];simp;omega
   have e1:s=(A++w)++[10]:=by rw[e];simp
   have hc:gW fuel (s,[10])=some (A++w,true):=by
    rw[e1];exact uD (by simp;omega)
   rw[hc,aC,iP];simp only[aH];have hi:mS 10 (A++w)+1=(A.length:Int):=by
    rcases hA with rfl | ⟨A',rfl⟩
    ·rw[fB,L3 hw];rfl
    ·rw[dX,qfc,jbp hw];simp
   have hal:(A++w).length=A.length+w.length:=cZ;rw[jko (by omega),aC,hi,aY (aG (by omega) (by omega)),aY (cN.2 ⟨by omega,by omega,by omega⟩)];have hd:((A++w).drop ((A.length:Int)).toNat).take ((A++w).length-((A.length:Int)).toNat)=w:=by
    rw[cK,qgk,hal,iM (by omega)]
   rw[hd];have hn:=uM (line:=w) (word:=bF) (many:=1) (by omega) (by omega);rw[show(((1:Nat)):Int)=1 from rfl] at hn;rw[show([101,110,100]:List Nat)=bF from rfl,hn,aC,iP];cases hns:cC w bF 1 with
   | none=>
     rw[hns] at hb;simp only[F8,lC,dR] at hb;subst hb;simp only[aJ];exact fin
   | some ns=>
     rw[hns] at hb;simp only[qfg,cM] at hb;subst hb;simp only[aH];rw[aY (cN.2 ⟨by omega,by omega,by omega⟩)];have ht:(s.drop 0).take ((body.length:Int)).toNat=body:=by rw[e];simp
     rw[ht];exact fin
theorem jpw {body:List Nat} (hl:(bZ body).length<=65536) {r:lA} (h:gD fuel (bZ body)=some r) (h0:r.2.2=0):yL fuel body=some (bZ body,0):=by
 unfold yL;refine(dG (by omega)).trans ?_;rw[h,aC];exact dG (by simp[h0])
theorem s5 (w h:Nat) (X:List bG):bW w h X=(fY w h++[10])++(X.map λx=>cG x++[10]).flatten:=by
 simp[bW,fY]
theorem jsn (w h:Nat) (Y:List bG):∃A',bW w h Y=A'++[10]:=by
 rcases qg8 Y with rfl | ⟨Z,z,rfl⟩
 ·exact⟨fY w h,by rw[s5];simp⟩
 ·exact⟨(fY w h++[10])++(Z.map λx=>cG x++[10]).flatten++cG z,by rw[s5];simp⟩
theorem jpv {B:List Nat} (hB:∃A',B=A'++[10]) {n:Int} (h0:0<=n) (h1:n<1000000000):MendB (B++((bF++32::bM n)++[10])) B:=by
 have d:=nF (n:=n) (by omega) (by omega);refine .yes B (bF++32::bM n) rfl (.inr hB) (λhy=>?_) _ ?_
 ·simp only[bF,bU,bJ,gV,gR] at hy;rcases hy with hy | hy | hy
  ·omega
  ·omega
  ·have:=d 10 hy;omega
 ·rw[jfa h0 h1];simp
theorem jkz {w h:Nat} {T:List aI} (t:Tab w h T) (hw:1<=w/\w<=6) (hh:1<=h/\h<=6) {cr:List aO} (hcr:PatOK T cr) {s:List Nat} (hs:s.length<=65536) (hm:MendB s (bW w h (bY T w h (aN cr)))):
  nG fuel s=some (bZ (bW w h (bY T w h (aN cr))),0):=by
 have hX:=pF t hw hh hcr;have hl:=(lO t hw hh hcr).len;have hbl:=uA (w:=w) (h:=h) hX hl;have hsl:=lH (bW w h (bY T w h (aN cr)));rw[jbu hm hs];exact jpw (by simp[bZ];omega) (joj t hw hh hcr) rfl
end X
end Go.Vm
namespace Go.Vm
namespace X
open W Go.RowKit Go.Proofs.Un
theorem ki1 (w h:Nat) (X:List bG):MendB (bZ (bW w h X)) (bW w h X):=by
 have hb:=lW (bW w h X);rw[yB];exact jpv (jsn w h X) (by omega) (by omega)
theorem j95 {w h:Nat} {T:List aI} (t:Tab w h T) (hw:1<=w/\w<=6) (hh:1<=h/\h<=6) {cr:List aO} (hcr:PatOK T cr) {a:Int×(Int×List Int)} (ha:rH fuel a=some ((w:Int),((h:Int),cr))):jkq fuel a=some true:=by
 obtain⟨he,hre⟩:=jaf t hw hh hcr;have hd:=joj t hw hh hcr;have hX:=pF t hw hh hcr;have hl:=(lO t hw hh hcr).len;have hbl:=uA (w:=w) (h:=h) hX hl;have hsl:=lH (bW w h (bY T w h (aN cr)));have hcl:=hcr.ok.len t hw.2 hh.2;have hm:=jkz t hw hh hcr (s:=bZ (bW w h (bY T w h (aN cr)))) (by simp[bZ];omega) (ki1 w h _);generalize bZ (bW w h (bY T w h (aN cr)))=S at he hre hd hm;have hdf:=jcj (p:=((w:Int),((h:Int),cr))) (by simp only;omega);apply Ret.eq;unfold jkq;rw[show(a.1,(a.2.1,a.2.2))=a from rfl,ha,aC];simp only;rw[he,aC];simp only;rw[hd,aC,hm,aC];refine aD (λ_=>?_) λg=>absurd (by trivial) g
 rw[hre,aC];refine aD (λ_=>aD (λ_=>aD (λ_=>?_) λg=>absurd (by trivial) g) λg=>absurd (by trivial) g) λg=>absurd (by trivial) g
 simp only;rw[hdf,aC];refine aD (λ_=>aD (λ_=>aD (λ_=>aD (λ_=>u5) λg=>absurd (by trivial) g) λg=>absurd (by trivial) g) λg=>absurd (by trivial) g) λg=>absurd (by trivial) g
theorem j83 (tab:∀w h:Nat,(1<=w/\w<=4)->(1<=h/\h<=4)->∃T,Tab w h T) {a:Int×(Int×List Int)} (h1:0<=a.1) (h3:0<=a.2.1) (hk:∀k∈a.2.2,0<=k):
  jkq fuel a=some true:=by
 obtain⟨w,h,hw,hh,H⟩:=jco h1 h3 hk;obtain⟨T,t⟩:=tab w h (by omega) (by omega);obtain⟨cr,ho,ha⟩:=H T t;exact j95 t (by omega) (by omega) ho ha
end X
end Go.Vm
namespace Go.Vm
namespace X
theorem S7 (w h:Nat) (hw:1<=w/\w<=4) (hh:1<=h/\h<=4):∃T,Tab w h T:=by
 rcases(by omega:w=1\/w=2\/w=3\/w=4) with e | e | e | e<;>rcases(by omega:h=1\/h=2\/h=3\/h=4) with f | f | f | f<;>subst e<;>subst f
 ·exact⟨_,jh5⟩
 ·exact⟨_,jh6⟩
 ·exact⟨_,jh7⟩
 ·exact⟨_,jh8⟩
 ·exact⟨_,jh9⟩
 ·exact⟨_,jia⟩
 ·exact⟨_,jib⟩
 ·exact⟨_,jic⟩
 ·exact⟨_,jid⟩
 ·exact⟨_,jie⟩
 ·exact⟨_,jif⟩
 ·exact⟨_,jig⟩
 ·exact⟨_,jih⟩
 ·exact⟨_,jii⟩
 ·exact⟨_,jij⟩
 ·exact⟨_,jik⟩
end X
end Go.Vm
