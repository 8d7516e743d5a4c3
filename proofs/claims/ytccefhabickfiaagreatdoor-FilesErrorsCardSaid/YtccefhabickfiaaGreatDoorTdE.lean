/-
  Words: a text is cut at its spaces, and put together pI.
  Files: strconv.Itoa and the definition's Decimal write a number's digits.
  Files: which texts are numbers, by the program and by the definition.
  Files: the chapter's examples, run by the kernel.
  Files: the check sequence by its definition; the law FilesSum.
  Segments, texts: all numbers. (Printed by a program.)
  Segments: texts of lines and of segments.
  Segments: texts of segments; the law SegmentsText.
  Segments: Parse; the law SegmentsText.
  Files: the law's number, and the numbers of a line.
  Files: the law's cut; lines.
  Files: what a file's lines say; the program's divide.
  Files: the definition reads the same lines (the loop).
  Files: the definition reads the same lines.
  Files: what is ahead of the end; lines that are wrong have a number.
  Segments: what the tables say; the units of a segment.
  Segments: the units of a segment, by the program and by the reference; the law SegmentsUnits.
  Segments: the reference's units; the law SegmentsUnits.
  Segments: patterns out of segments, by the program and by the reference.
  Segments: the program's Pattern and the reference's.
  Segments: the reference's Pattern.
  Segments: the units of all lines in order, and how they grow together.
  Segments: the reference walks along all lines.
  Segments: the program's segments are those of the walk.
  Segments: the names of units; which patterns are valid.
  Segments: the two checks of a pattern.
  Segments: what the segments of a pattern are made of.
  Segments: the law SegmentsPattern.
  Segments: the law SegmentsOf.
  Segments: the law SegmentsErrors.
  Files: Decode says what the definition says.
  Files: the segments of a valid pattern have texts.
  Files: a text's end; what Encode writes.
  Files: what Encode writes for a valid pattern.
  Files: Encode writes what the definition says.
  Files: a byte that is changed changes the check sequence.
  Files: what an accepted text looks like.
  Files: the lines of a file that is written.
  Files: a file that is written is read pI: its lines.
  Files: a file that is written is read pI.
  Files: Decode of a written file is the pattern.
  Files: a text with one byte changed does not end with its check sequence.
  Files: how long the pieces of a changed text are, and of a text that is cut.
  Files: a written file that is cut is not read.
  Files: a text that is accepted is a written file.
  Files: Mend.
  Files: the law FilesErrors.
  Segments: the tables of all small sheets.
  Segments: the tables of all small sheets.
-/
import Derived.Test.YtccefhabickfiaaGreatDoorTb
import Derived.Test.YtccefhabickfiaaGreatDoorTg
import Derived.Test.YtccefhabickfiaaGreatDoorTh
import Derived.Test.YtccefhabickfiaaGreatDoorMS
set_option linter.unusedSimpArgs false
set_option linter.unusedVariables false
set_option linter.unusedSectionVars false
set_option linter.unnecessarySimpa false
namespace Go.Vm.X
open Go Go.Vm Go.Vm.W
noncomputable section
set_option maxRecDepth 100000
def jav (N:Nat) (a:(Int×(Int×(List (Int×(Int×Int)))))):Option Int:=(fD N (a.1,a.2.1)).bind λr1=>bif(decide (r1=0)) then(some 1) else(dW (λrec2 (x2:Int)=>bif(decide (x2< ((a.2.2.length:Nat):Int))) then(aB (bB x2 a.2.2.length) (bif(decide ((a.2.2.getD x2.toNat (0,(0,0))).2.2<1)) then(some 1) else(aB (bB x2 a.2.2.length) (bif(decide ((3:Int)< (a.2.2.getD x2.toNat (0,(0,0))).2.2)) then(some 1) else(aB (aR (x2+1)) (rec2 (x2+1))))))) else((jb7 N (a.1,a.2.1)).bind λr3=>dW (λrec4 (x4:(Int×(Int×Int)))=>bif(decide (x4.2.2< ((a.2.2.length:Nat):Int))) then(dW (λrec5 (x5:(Int×Int))=>bif(decide (x5.2< ((r3.length:Nat):Int))) then(aB (bB x5.2 r3.length) (aB (bB x4.2.2 a.2.2.length) (aB (bB x4.2.2 a.2.2.length) (bif(decide ((r3.getD x5.2.toNat (0,0)).1=(a.2.2.getD x4.2.2.toNat (0,(0,0))).1)&&decide ((r3.getD x5.2.toNat (0,0)).2=(a.2.2.getD x4.2.2.toNat (0,(0,0))).2.1)) then(aB (aR (x5.2+1)) (rec5 (x5.2,(x5.2+1)))) else(aB (aR (x5.2+1)) (rec5 (x5.1,(x5.2+1)))))))) else(bif(decide (x5.1<0)) then(some 7) else(bif(decide (x5.1<=x4.1)) then(aB (aR (x4.2.2+1)) (rec4 (x5.1,(6,(x4.2.2+1))))) else(aB (aR (x4.2.2+1)) (rec4 (x5.1,(x4.2.1,(x4.2.2+1)))))))) N ((-1),0)) else(some x4.2.1)) N ((-1),(0,0)))) N 0)
abbrev jml (N:Nat):TE:=⟨30,[(.d (.prod (.int .i64) (.prod (.int .i64) (.sl (.prod (.int .i64) (.prod (.int .u8) (.int .u8)))))))],[(.d (.int .i64))],jav N⟩
theorem kmw:∀N a,eJ N (hnd N [jel N,jce N] [] 0) GG j7v.2 (jml N).ins (jml N).outs a=jav N a:=λN a=>by kernel_rfl
def jpo (m:Int) (N:Nat) (a:(Int×(Int×(List (Int×(Int×Int)))))):Option Bool:=jn (fun(x1:Bool)=>bif x1 then(some true) else((zZ N (a.1,(a.2.1,a.2.2))).bind λr3=>(jav N (a.1,(a.2.1,a.2.2))).bind λr4=>aB (decide (0<=m)&&decide (m<=m)&&decide (m<=1000000)) (aB ((List.replicate (α:=Int) m.toNat 0).all λx=>decide (0<=x)&&decide (x<=255)) ((gD N ((List.replicate (α:=Int) m.toNat 0).map Int.toNat)).bind λr5=>aB (cU 0 65536 ((List.replicate (α:=Int) m.toNat 0).map Int.toNat).length) ((gD N ((((List.replicate (α:=Int) m.toNat 0).map Int.toNat).drop 0).take 65536)).bind λr6=>(nG N ((List.replicate (α:=Int) m.toNat 0).map Int.toNat)).bind λr7=>aB (cU 0 65530 ((List.replicate (α:=Int) m.toNat 0).map Int.toNat).length) ((nG N ((((List.replicate (α:=Int) m.toNat 0).map Int.toNat).drop 0).take 65530)).bind λr8=>bif(decide (r3.2=r4)) then(bif((decide (r4=0))==(decide (r3.1≠[]))) then(bif(decide (r5.2.2=3)) then(bif(decide (r5.2.1=0)) then(bif(decide (r6.2.2=4)) then(bif(decide (r6.2.1=1)) then(bif(decide (r7.2=3)) then(bif(decide (r8.2=3)) then((qD N ()).bind λr9=>some r9) else(some false)) else(some false)) else(some false)) else(some false)) else(some false)) else(some false)) else(some false)) else(some false))))))) (λj1=>bif(decide ((20:Int)< ((a.2.2.length:Nat):Int))) then(j1 true) else((fD N (a.1,a.2.1)).bind λr2=>bif(decide (r2=1)) then(bif(decide ((5:Int)<a.1)) then(j1 true) else(j1 (decide ((5:Int)<a.2.1)))) else(j1 false)))
def juf (N:Nat) (a:(Int×(Int×(List (Int×(Int×Int)))))):Option Bool:=jpo 65537 N a
abbrev jmd (N:Nat):TE:=⟨9,[(.d (.prod (.int .i64) (.prod (.int .i64) (.sl (.prod (.int .i64) (.prod (.int .u8) (.int .u8)))))))],[(.d .bool)],juf N⟩
theorem kif:∀(m:Int) N a,eJ N (hnd N [Y3 N,G6 N,jhr N,jeg N,jel N,jml N] [] 0) GG (zE m).2 (jmd N).ins (jmd N).outs a=jpo m N a:=λm N a=>by kernel_rfl
theorem kh6:∀N a,eJ N (hnd N [Y3 N,G6 N,jhr N,jeg N,jel N,jml N] [] 0) GG jxb.2 (jmd N).ins (jmd N).outs a=juf N a:=λN a=>by rw[show jxb=zE 65537 by kernel_rfl];exact kif 65537 N a
end
end Go.Vm.X
namespace Go.Proofs.YtccefhabickfiaaGreatDoor
namespace Vm
open Go Go.Vm Go.Vm.W Go.Vm.X
noncomputable section
set_option maxRecDepth 100000
theorem kap (mx:Int):CK mx jxb:=⟨λ_=>rfl,by kernel_rfl⟩
theorem kbe (mx:Int):CK mx j7v:=⟨λ_=>rfl,by kernel_rfl⟩
theorem kkp (mx:Int):OK mx 7 (jml fuel):=dP (m:=6) (d:=0) (bR (bS (juz mx) (bN rfl)) (bR (bS (jk3 mx) (bN rfl)) dK)) dJ (dH mx) (kbe mx) (λa=>kmw fuel a)
theorem kj8 (mx:Int):OK mx 25 (jmd fuel):=dP (m:=24) (d:=0) (bR (bS (jgx mx) (bN rfl)) (bR (bS (jby mx) (bN rfl)) (bR (bS (jp2 mx) (bN rfl)) (bR (bS (juu mx) (bN rfl)) (bR (bS (juz mx) (bN rfl)) (bR (bS (kkp mx) (bN rfl)) dK)))))) dJ (dH mx) (kap mx) (λa=>kh6 fuel a)
end
end Vm
end Go.Proofs.YtccefhabickfiaaGreatDoor
namespace Go.Proofs.YtccefhabickfiaaGreatDoor
open Go.ChangeShapes Go.WideShapes Go.ChangeAt Go.RowKit Go.Deep
namespace Vm
open Go Go.Vm Go.Vm.W Go.Vm.X
set_option maxRecDepth 100000
theorem kce:Tryz.prog.cellsOf 51=1:=by kernel_rfl
theorem jsx:Tryz.prog.cellsOf 3=1:=by kernel_rfl
section
variable {H:Type} {enc:TypeId×Value->H} {W:World}
end
def j3k (i:Nat) (v:Value):Prop:=(i=0/\∃n,v=.int .i64 n)\/((i=1\/i=2)/\∃n,v=.int .u8 n/\0<=n/\n<=255)
abbrev tCr:Ty:=.prod (.int .i64) (.prod (.int .u8) (.int .u8))
abbrev CT:=Int×(Int×Int)
theorem kcf:Tryz.prog.cellsOf 74=3:=by kernel_rfl
theorem kca:Tryz.prog.cellsOf 34=3:=by kernel_rfl
theorem kb9:Tryz.prog.cellsOf 32=1:=by kernel_rfl
theorem kb8:Tryz.prog.cellsOf 31=2:=by kernel_rfl
section
variable {H:Type} {enc:TypeId×Value->H} {W:World}
theorem kct {n:Nat} {cs:List Value} {y:DataW H×List MemPlace} (hl:cs.length=3) (h:DataW.trod enc Tryz.prog W 0 (λ_=>true) true n 74 cs=some y):∃a b c,cs=[.int .i64 a,.int .u8 b,.int .u8 c]/\(0<=b/\b<=255)/\(0<=c/\c<=255):=by
 match cs,hl with
 | [c0,c1,c2],_=>
   obtain⟨y0,y1,y2,m,_,_,h0,h1,h2⟩:=trod_struct3 Tryz.underlying74 h;have h0:DataW.trod enc Tryz.prog W 0 (λ_=>true) true m 3 [c0]=some y0:=by simpa[jsx] using h0
   have h1:DataW.trod enc Tryz.prog W 0 (λ_=>true) true m 5 [c1]=some y1:=by simpa[jbe] using h1
   have h2:DataW.trod enc Tryz.prog W 0 (λ_=>true) true m 51 [c2]=some y2:=by simpa[kce] using h2
   obtain⟨a0,e0,_,_⟩:=tL Tryz.underlying3 h0;obtain⟨a1,e1,_,w1⟩:=tL Tryz.underlying5 h1;obtain⟨a2,e2,_,w2⟩:=tL Tryz.underlying51 h2;cases e0;cases e1;cases e2;exact⟨a0,a1,a2,rfl,S9 w1,S9 w2⟩
theorem kli {b0:Nat} {v:Value} {d:DataW H} {p:List MemPlace} (hv:Value.okWide Tryz.prog W .any b0 34 v) (h:DataW.Trod enc Tryz.prog W 0 (λ_=>true) true 34 v d p) (hf:W.noneFrozen p):
  ∃(v0:Value) (a b:Int) (l:Vm.Loc) (L:List CT) (M:List AV),v=.agg #[.int .i64 a,.int .i64 b,v0]/\(∀c∈L,0<=c.2.1)/\(∀A,eM (cT A tCr) L M)/\Z1 3 W v0 l L.length M:=by
 obtain⟨cs,rfl,hsz⟩:=okWide_struct Tryz.underlying34 hv;obtain⟨c0,c1,c2,rfl⟩:=Joins.array3 (hsz.trans kca);obtain⟨fu,hfu⟩:=h;obtain⟨y0,y1,n,hx,_,h0,h1⟩:=trod_struct2 Tryz.underlying34 hfu;have h0:DataW.trod enc Tryz.prog W 0 (λ_=>true) true n 31 [c0,c1]=some y0:=by simpa[Value.cells,kb8] using h0
 have h1:DataW.trod enc Tryz.prog W 0 (λ_=>true) true n 32 [c2]=some y1:=by simpa[Value.cells,kb9] using h1
 obtain⟨z0,z1,m,_,_,g0,g1⟩:=trod_struct2 Tryz.underlying31 h0;have g0:DataW.trod enc Tryz.prog W 0 (λ_=>true) true m 3 [c0]=some z0:=by simpa[jsx] using g0
 have g1:DataW.trod enc Tryz.prog W 0 (λ_=>true) true m 3 [c1]=some z1:=by simpa[jsx] using g1
 obtain⟨a,ea,_,_⟩:=tL Tryz.underlying3 g0;obtain⟨b,eb,_,_⟩:=tL Tryz.underlying3 g1;cases ea;cases eb;have hok:Cell.okWide Tryz.prog W .any b0 32 c2:=by
  simp only[Value.okWide,Tryz.underlying34] at hv;obtain⟨cs,e,_,ts,hts,_,hc⟩:=hv;cases e;have e2:Tryz.prog.cellTypes Tryz.prog.depth 34=some [3,3,32]:=by kernel_rfl
  rw[e2] at hts;cases hts;obtain⟨u,hu,hk⟩:=hc 2 c2 rfl;have:u=32:=by simp at hu;exact hu.symm
  rw[this] at hk;exact hk
 have e1:p=y0.2++y1.2:=(bK _ _ _ _▸hx:_/\_).2;obtain⟨l,g,q,w0,a0⟩:=j4x (OKc:=j3k) (by decide) (λi v h=>by rcases h with⟨_,n,e⟩ | ⟨_,n,e,_⟩<;>(rw[e];trivial)) Tryz.underlying32 kcf (λn cs y hl h i hi=>by
  obtain⟨a,b,c,rfl,hb,hc⟩:=kct hl h;rcases(by omega:i=0\/i=1\/i=2) with rfl | rfl | rfl
  ·exact⟨_,rfl,.inl ⟨rfl,_,rfl⟩⟩
  ·exact⟨_,rfl,.inr ⟨by decide,_,rfl,hb⟩⟩
  ·exact⟨_,rfl,.inr ⟨by decide,_,rfl,hc⟩⟩) h1 hok (jdm hf λx hx=>by rw[e1];simp[hx])
 have len:((List.range q).map λi=>((yF (g (i*3)),(yF (g (i*3+1)),yF (g (i*3+2)))):CT)).length=q:=by simp
 have get:∀i,i<q->(∃n,g (i*3)=.int .i64 n)/\(∃n,g (i*3+1)=.int .u8 n/\0<=n/\n<=255)/\(∃n,g (i*3+2)=.int .u8 n/\0<=n/\n<=255):=λi hi=>by
  have k0:=w0 (i*3) (by omega);have k1:=w0 (i*3+1) (by omega);have k2:=w0 (i*3+2) (by omega);unfold j3k at k0 k1 k2;rw[show(i*3)%3=0 by omega] at k0;rw[show(i*3+1)%3=1 by omega] at k1;rw[show(i*3+2)%3=2 by omega] at k2;exact⟨by simpa using k0,by simpa using k1,by simpa using k2⟩
 refine⟨c2,a,b,l,(List.range q).map λi=>(yF (g (i*3)),(yF (g (i*3+1)),yF (g (i*3+2)))),_,rfl,λc hc=>?_,λA=>jvv q λi hi=>?_,by rw[len];exact a0⟩
 ·obtain⟨i,hi,rfl⟩:=bC.1 hc;obtain⟨_,⟨n,e,h1,_⟩,_⟩:=get i (eZ.1 hi);simp only;rw[e];exact h1
 ·obtain⟨⟨n0,e0⟩,⟨n1,e1,_⟩,⟨n2,e2,_⟩⟩:=get i hi;have er:((List.range 3).map λj=>dV (g (i*3+j)))=[dV (g (i*3)),dV (g (i*3+1)),dV (g (i*3+2))]:=rfl;rw[er,e0,e1,e2];exact⟨[_],[_,_],rfl,rfl,[_],[_],rfl,rfl,rfl⟩
end
abbrev tPt:Ty:=.prod (.int .i64) (.prod (.int .i64) (.sl tCr))
section
variable {H:Type} {enc:TypeId×Value->H} {W:World}
end
theorem kih {m:Nat} {f:FuncId} {run:iX [.d tPt]->Option (iX [.d .bool])} (ho:∀mx,fU (BB mx) (told mx) prog m [⟨f,[.d tPt],[.d .bool],run⟩]) {W:World} (hsh:W.ShapedOpen Tryz.prog) (hL:laidMetH Tryz.prog Rows.filesBackRow.laid W) {v0:Value} {l0:Vm.Loc} {L:List CT} {M:List AV} {a b:Int}
  (hrun:run (a,(b,L))=some true) (h0:∀A,eM (cT A tCr) L M) (k0:Z1 3 W v0 l0 L.length M):
  Calls Tryz.prog f #[.agg #[.int .i64 a,.int .i64 b,v0]] W λe W'=>e=.returned (.bool true)/\Below W.heap.size W W':=by
 obtain⟨mx,p1,p2,hR⟩:=start hsh hL [l0];have r0:uU W 9 [p2,p1,l0] 11=some l0:=rfl;obtain⟨HA,O0,u0,A0,q1,q2,q3,q4,q5,q6,q7,q8⟩:=jku (by decide) h0 rfl k0 r0 hR (jhk mx) (jhj mx) (show nx0<=11 by decide) (by decide) (by simp);refine je3 (t:=⟨f,[.d tPt],[.d .bool],run⟩) (jim mx) mixed N8 (n:=m) (ho mx _ (cD.2 rfl) m (bV _)) rfl (a:=(a,(b,L))) hrun q3 (A:=A0) (λx hx=>.inl (q5 x hx)) (vs:=[.agg [.int .i64 a,.int .i64 b,u0]]) ?_ q1 jfi (jhb (show 9+3<=RO by decide)) q2 ?_
 ·exact⟨_,rfl,⟨_,rfl,rfl,⟨[_],[_,_],rfl,rfl,[_],[_],rfl,rfl,⟨_,rfl,q7⟩⟩,rfl⟩⟩
 ·simp only[VRs,VR];exact⟨_,_,rfl,⟨_,rfl,_,_,rfl,rfl,_,_,rfl,rfl,_,_,rfl,q8,rfl⟩,rfl⟩
end Vm
end Go.Proofs.YtccefhabickfiaaGreatDoor
namespace Go.Vm
namespace X
open W
def cW (c:UInt8):List UInt8->List (List UInt8)
 | []=>[[]]
 | b::l=>if b=c then []::cW c l else match cW c l with
   | w::ws=>(b::w)::ws
   | []=>[[b]]
theorem K5 {b c:UInt8} {l:List UInt8} (h:b≠c):Lib.index (b::l) [c]=if Lib.index l [c]== -1 then -1 else Lib.index l [c] +1:=by
 rw[Lib.index];have:([c]:List UInt8).isPrefixOf (b::l)=false:=by simp[List.isPrefixOf];exact λe=>h e.symm
 rw[this];simp
theorem K6 {c:UInt8} {l:List UInt8}:Lib.index (c::l) [c]=0:=by
 rw[Lib.index];simp[List.isPrefixOf]
theorem Q9 {b c:UInt8} {l:List UInt8} (h:b≠c):∀k,∃w ws,Lib.splitK [c] 0 k l=w::ws/\Lib.splitK [c] 0 k (b::l)=(b::w)::ws
 | 0=>⟨l,[],rfl,rfl⟩
 | k+1=>by
   unfold Lib.splitK;rw[K5 h];by_cases h1:Lib.index l [c]= -1
   ·simp only[h1];exact⟨l,[],by simp,by simp⟩
   ·have hge:=Lib.index_ge l [c];have e1:(Lib.index l [c]== -1)=false:=by simpa using h1
    have e2:(Lib.index l [c] +1== -1)=false:=by simp;omega
    simp only[e1,e2,lC,dR];obtain⟨j,hj⟩:=qe1 (show 0<=Lib.index l [c] by omega);rw[hj];refine⟨_,_,rfl,?_⟩;have e3:((j:Int)+1).toNat=j+1:=by omega
    simp only[e3,cK,nX,g9,dU,qfk]
theorem mI (c:UInt8):∀s:List UInt8,Lib.split s [c]=cW c s
 | []=>by
   unfold Lib.split;rw[Lib.count_one];rfl
 | b::l=>by
   have ih:=mI c l;unfold Lib.split at ih ⊢;by_cases h:b=c
   ·subst h;rw[Lib.count_cons_eq,l9];unfold Lib.splitK;rw[K6];simp only[cW,cM];rw[<-ih];simp
   ·rw[Lib.count_cons_ne _ _ _ h];obtain⟨w,ws,e1,e2⟩:=Q9 h (Lib.count l [c]);rw[e2];simp only[cW,h,dR];rw[<-ih,e1]
theorem tQ {c:UInt8}:∀s:List UInt8,cW c s≠[]
 | []=>by simp[cW]
 | b::l=>by
   unfold cW;split
   ·simp
   ·split<;>simp
theorem nR {w:List Nat} (h:∀x∈w,x<256):(u8 w).map UInt8.toNat=w:=by
 unfold u8;rw[iQ];conv=>rhs;rw[<-sO w]
 refine kM λx hx=>?_
 have:=h x hx;simp[Function.comp,qfl,X2 this]
theorem nS (w:List UInt8):u8 (w.map UInt8.toNat)=w:=by
 unfold u8;rw[iQ];conv=>rhs;rw[<-sO w]
 exact kM λx hx=>by simp[Function.comp]
theorem T6 {s:List Nat}:cB s [32]≠[]:=by
 unfold cB;rw[show u8 [32]=[32] from rfl,mI];intro h;exact tQ _ (qfm.1 h)
theorem wM {c:UInt8}:∀s:List UInt8,(cW c s).length<=s.length+1/\∀w∈cW c s,w.length<=s.length
 | []=>by simp[cW]
 | b::l=>by
   obtain⟨h1,h2⟩:=wM (c:=c) l;unfold cW;split
   ·refine⟨by simp;omega,λw hw=>?_⟩;rcases bJ.1 hw with rfl | hw
    ·simp
    ·have:=h2 w hw;simp;omega
   ·split
    ·rename_i w ws e;rw[e] at h1 h2;refine⟨by simp at h1 ⊢;omega,λx hx=>?_⟩;rcases bJ.1 hx with rfl | hx
     ·have:=h2 w (bH ..);simpa using this
     ·have:=h2 x (bL _ hx);simp;omega
    ·refine⟨by simp,λx hx=>?_⟩;rw[cD.1 hx];simp
theorem xU (s:List Nat):(cB s [32]).length<=s.length+1/\∀w∈cB s [32],w.length<=s.length:=by
 obtain⟨h1,h2⟩:=wM (c:=32) (u8 s);unfold cB;rw[show u8 [32]=[32] from rfl,mI];refine⟨by simpa[u8] using h1,λw hw=>?_⟩;obtain⟨w',hw',rfl⟩:=bC.1 hw;simpa[u8] using h2 w' hw'
end X
end Go.Vm
namespace Go.Vm
namespace X
open W
set_option maxRecDepth 100000
def aX:Nat->Nat->List Nat
 | 0,_=>[]
 | k+1,u=>bif u.blt 10 then [48+u] else aX k (u / 10)++[48+u%10]
def bM (n:Int):List Nat:=aX 20 n.toNat
theorem vJ (a b:Nat):a.blt b=decide (a<b):=by
 simp only[Nat.blt,bE];rfl
theorem lQ:∀(k u:Nat),u<10^k->k≠0->aX k u=(Lib.decDigits u).map UInt8.toNat
 | 0,u,_,h=>absurd rfl h
 | k+1,u,h,_=>by
   unfold aX;rw[Lib.decDigits,vJ];by_cases g:u<10
   ·rw[bD g,dif_pos g];simp;omega
   ·rw[kN g,dif_neg g];have hk:k≠0:=by
     intro e;subst e;simp at h;omega
    simp only[aJ,eI,dA,lM];rw[lQ k (u / 10) (by rw[oH] at h;omega) hk]
    congr 2
    simp;omega
theorem gJ:∀(k u:Nat),(aX k u).length<=k
 | 0,u=>by simp[aX]
 | k+1,u=>by
   unfold aX;cases h:u.blt 10 with
   | true=>simp
   | false=>have:=gJ k (u / 10);simp;omega
theorem mY (n:Int):IntKind.u8.wrap n=n%256:=by simp[IntKind.wrap,IntKind.bits,IntKind.signed]
theorem T5 {v:Int} (h1:0<=v) (h2:v<=9223372036854775807):IntKind.i64.wrap v=v:=jdd (aG (by omega) (by omega))
theorem uZ:∀(k u:Nat),u<10^k->u<9223372036854775800->k≠0->k<=1000->yV fuel k (u:Int)=some (aX k u)
 | 0,u,_,_,h,_=>absurd rfl h
 | k+1,u,h,hu,_,hk1=>by
   apply Ret.eq;show Ret (m6 fuel (yV fuel k) (u:Int)) _;unfold m6 aX;rw[vJ];refine aD (λg=>absurd g (by omega)) λ_=>aD (λg=>?_) λg=>?_
   ·rw[bD (show u<10 by omega)];rw[mY,show(48+ (u:Int))%256=((48+u:Nat):Int) by omega];refine aA (aG (by omega) (by omega)) (aA (by simp;omega) (aS (by simp;omega)))
   ·rw[kN (show ¬u<10 by omega)];have hk:k≠0:=by
     intro e;subst e;simp at h;omega
    have e1:(u:Int) / 10=((u / 10:Nat):Int):=by omega
    have e2:(48+ (u:Int)%10)%256=((48+u%10:Nat):Int):=by omega
    rw[mY,e2,e1,T5 (by omega) (by omega),uZ k (u / 10) (by rw[oH] at h;omega) (by omega) hk (by omega),aC];have hl:=gJ k (u / 10);refine aA (by simp) (aA (by simp) (aA (aG (by omega) (by omega)) (aA (by simp;omega) (aA (by simp;omega) (aS ?_)))));simp;omega
theorem J5 {k j u:Nat} (h:u<10^k) (hk:k≠0) (hj:k<=j):aX j u=aX k u:=by
 rw[lQ k u h hk,lQ j u (nK h (mN (by decide) hj)) (by omega)]
theorem oD {n:Int} (h0:0<=n) (h1:n<1000000000000000):mB fuel n=some (bM n):=by
 unfold mB bM
 have h2:n.toNat<10^20:=by have:(10:Nat)^20=100000000000000000000:=(by decide);omega
 have:=uZ 22 n.toNat (nK h2 (by decide)) (by omega) (by decide) (by decide);rw[show((n.toNat:Nat):Int)=n by omega] at this;rw[this,J5 h2 (by decide) (by decide)]
theorem T1 (n:Int):IntKind.u32.wrap n=n%4294967296:=by simp[IntKind.wrap,IntKind.bits,IntKind.signed]
theorem T3 (n:Int):IntKind.u64.wrap n=n%18446744073709551616:=by simp[IntKind.wrap,IntKind.bits,IntKind.signed]
theorem S8 {m:Nat} (h:m<100):eK.getD (2*m) 0=48+m / 10/\eK.getD (2*m+1) 0=48+m%10:=by
 have:(List.range 100).all (λm=>(eK.getD (2*m) 0).beq (48+m / 10)&&(eK.getD (2*m+1) 0).beq (48+m%10))=true:=by kernel_rfl
 have:=cI.1 this m (eZ.2 h);simpa[bQ] using this
def Buf (l:List Int):Prop:=l.length=24/\∀x∈l,0<=x/\x<=255
theorem Buf.set {l:List Int} {i:Nat} {v:Int} (h:Buf l) (h1:0<=v) (h2:v<=255):Buf (l.set i v):=by
 refine⟨by rw[rP];exact h.1,λx hx=>?_⟩;rcases N9 hx with h3 | h3
 ·exact h.2 x h3
 ·rw[h3];exact⟨h1,h2⟩
theorem Buf.all {l:List Int} (h:Buf l) (m o:Nat):((List.take m (List.drop o l)).all λx=>decide (0<=x)&&decide (x<=255))=true:=by
 rw[cI];intro x hx;have:=h.2 x (rM (wE hx));simpa using this
structure DigInv (n d:Nat) (i:Int) (L:List Int):Prop where
 buf:Buf L
 dg:∀k:Nat,i<=k->k<d->L[1+k]?=some ((48+n / 10^ (d-1-k)%10:Nat):Int)
theorem qW {L:List Int} {i j:Nat} {v:Int} (hi:i<L.length):(L.set i v)[j]?=if i=j then some v else L[j]?:=by
 rw[O6];by_cases h:i=j
 ·subst h;simp[hi]
 ·simp[h]
theorem DigInv.two {n d:Nat} {i j1 j2 a b:Int} {L:List Int} (h:DigInv n d i L) (hd:d<=20) (hi:2<=i) (hid:i<=d) (e1:j1=i-1) (e2:j2=i-2)
  (ha:a=2* ((n / 10^ (d-i.toNat):Nat):Int)%200+1) (hb:b=2* ((n / 10^ (d-i.toNat):Nat):Int)%200):
  DigInv n d j2 ((L.set (1+j1.toNat) ((eK.getD a.toNat 0:Nat):Int)).set (1+j2.toNat) ((eK.getD b.toNat 0:Nat):Int)):=by
 obtain⟨v,hv⟩:∃v,v=n / 10^ (d-i.toNat):=⟨_,rfl⟩
 rw[<-hv] at ha hb;have ea:a.toNat=2* (v%100)+1:=by omega
 have eb:b.toNat=2* (v%100):=by omega
 obtain⟨t1,t2⟩:=S8 (m:=v%100) (by omega);rw[ea,eb,t1,t2];have hL:=h.buf.1;refine⟨(h.buf.set (by omega) (by omega)).set (by omega) (by omega),λk k1 k2=>?_⟩;rw[qW (by rw[rP];omega),qW (by omega)];by_cases g2:1+j2.toNat=1+k
 ·rw[aK g2];have e3:d-1-k=(d-i.toNat)+1:=by omega
  rw[e3,oH,<-F5,<-hv]
  congr 2
  omega
 ·rw[aF g2];by_cases g1:1+j1.toNat=1+k
  ·rw[aK g1];have e3:d-1-k=d-i.toNat:=by omega
   rw[e3,<-hv]
   congr 2
   omega
  ·rw[aF g1];exact h.dg k (by omega) k2
theorem DigInv.one {n d:Nat} {v:Int} {L:List Int} (h:DigInv n d 1 L) (hd:1<=d) (hn:n<10^d) (hv:v=48+ ((n / 10^ (d-1):Nat):Int)):DigInv n d 0 (L.set 1 v):=by
 have hL:=h.buf.1;have hq:n / 10^ (d-1)<10:=by
  rw[z8 (G1 (by decide))];rw[qgv,<-oH,show(d-1).succ=d by omega];exact hn
 obtain⟨q,hq0⟩:∃q:Nat,q=n / 10^ (d-1):=⟨_,rfl⟩
 rw[<-hq0] at hv hq;refine⟨h.buf.set (by omega) (by omega),λk k1 k2=>?_⟩;rw[qW (by omega)];by_cases g:1=1+k
 ·rw[aK g];have:k=0:=by omega
  subst this;rw[hv,sN,<-hq0]
  congr 1
  omega
 ·rw[aF g];exact h.dg k (by omega) k2
theorem DigInv.out {n d:Nat} {L:List Int} (h:DigInv n d 0 L) (hd:d<=20) (e:Lib.nDigits n=d) (hn:n<10^20):(List.take ((1+ (d:Int)).toNat-1) (List.drop 1 L)).map Int.toNat=aX 20 n:=by
 rw[lQ 20 n hn (by decide),Lib.decDigits_eq,e,show(1+ (d:Int)).toNat-1=d by omega];have hL:=h.buf.1;refine O8 (by simp;omega) λk k1 k2=>?_
 have hk:k<d:=by simpa using k2
 have h1:=h.dg k (by omega) hk;obtain⟨h2,h3⟩:=oM.1 h1;simp only[O9,qgq,pO,pQ];rw[h3,Lib.dg];obtain⟨q,hq0⟩:∃q:Nat,q=n / 10^ (d-1-k):=⟨_,rfl⟩
 rw[<-hq0,cK,qge];omega
theorem M5 {u:Nat} (h1:1<=u) (h2:u<18446744073709551616):xF fuel (u:Int)=some ((Lib.nDigits u:Nat):Int):=by
 apply Ret.eq;unfold xF;have e1:c8 fuel (u:Int)=some ((Lib.bitLen u:Nat):Int):=by
  unfold c8 jbq;rw[bD (by omega)];rfl
 have b1:=Lib.bitLen_le u 64 (bV _) (by omega);obtain⟨d1,d2⟩:=Lib.numDigits_eq u h1 h2;rw[e1,aC];have e2:b9 fuel ((Lib.bitLen u:Nat):Int)=some ((Lib.l10 (Lib.bitLen u):Nat):Int):=by
  unfold b9 jbt;rw[bD (by omega)];rfl
 rw[e2,aC];generalize Lib.l10 (Lib.bitLen u)=q at d1 d2 ⊢;have hp:yQ.getD ((q:Int)).toNat 0=((10^q:Nat):Int):=by
  have:(List.range 20).all (λq=>decide (yQ.getD q 0=((10^q:Nat):Int)))=true:=by kernel_rfl
  have:=cI.1 this q (eZ.2 (by omega));simpa using this
 rw[hp];refine aA (aV (by omega) (by omega)) (aD (λg=>?_) λg=>?_)
 ·rw[aK (by omega)] at d1;exact aA (aG (by omega) (by omega)) (aS (by omega))
 ·rw[aF (by omega)] at d1;exact aA (aG (by omega) (by omega)) (aS (by omega))
theorem jC {u d:Nat} {i j:Int} (h:2<=i) (hd:i<=d) (e:j=i-2):u / 10^ (d-j.toNat)=u / 10^ (d-i.toNat) / 100:=by
 rw[show d-j.toNat=(d-i.toNat)+2 by omega,G2,<-F5]
theorem wA {u d:Nat} {i:Int} (h:u<10^d) (h0:0<=i) (hi:i<=d):u / 10^ (d-i.toNat)<10^i.toNat:=by
 rw[z8 (G1 (by decide)),<-G2,show i.toNat+ (d-i.toNat)=d by omega];exact h
theorem H6:(List.range 100).all (λk=>match eX fuel (k:Int) with
 | some l=>decide (l=aX 20 k)
 | none=>false)=true:=by kernel_rfl
theorem mJ {n:Int} (h0:0<=n) (h1:n<9223372036854775808):eX fuel n=some (bM n):=by
 by_cases hs:n<100
 ·have:=cI.1 H6 n.toNat (eZ.2 (by omega));rw[show((n.toNat:Nat):Int)=n by omega] at this;split at this
  ·rename_i l e;rw[e];unfold bM
   congr 1
   exact of_decide_eq_true this
  ·cases this
 obtain⟨u,rfl⟩:∃u:Nat,n=(u:Int):=⟨n.toNat,by omega⟩
 have hdn:bM (u:Int)=aX 20 u:=rfl;apply Ret.eq;unfold eX;simp only[T1,T3,mY];refine aD (λ_=>aD (λg=>absurd g hs) λ_=>?_) λg=>absurd h0 g
 refine oQ (λx=>x=(u:Int)) (λx1 hx=>?_) λj hj=>aD (λg=>absurd g (by omega)) λ_=>hj _ (by omega)
 subst hx;rw[M5 (by omega) (by omega),aC];obtain⟨d,hd⟩:∃d,d=Lib.nDigits u:=⟨_,rfl⟩
 have hu:=Lib.lt_pow_nDigits u;obtain⟨d1,d2⟩:=Lib.numDigits_eq u (by omega) (by omega);have hd20:d<=20:=by
  rw[<-hd] at d1;split at d1<;>omega
 rw[<-hd] at hu ⊢;have out:∀ {L:List Int},DigInv u d 0 L->Ret (aB ((List.take ((1+ (d:Int)).toNat-1) (List.drop 1 L)).all λx=>decide (0<=x)&&decide (x<=255)) (some ((List.take ((1+ (d:Int)).toNat-1) (List.drop 1 L)).map Int.toNat))) λx=>x=bM (u:Int):=λh=>
  aA (h.buf.all _ _) (aS (by rw[h.out hd20 hd.symm (by have:(10:Nat)^20=100000000000000000000:=(by decide);omega)];rfl))
 refine aA (aG (by omega) (by omega)) (aA (cN.2 ⟨by omega,by omega,by omega⟩) ?_);refine cS (Inv:=λx:Int×(Int×(List Int))=>0<=x.2.1/\x.2.1<=d/\x.1=((u / 10^ (d-x.2.1.toNat):Nat):Int)/\DigInv u d x.2.1 x.2.2) (m:=λx=>x.2.1.toNat) ?_ _ _ ⟨by simp only;omega,by simp only;omega,by
  simp only;rw[show d-(((1+ (d:Int)).toNat-1:Nat):Int).toNat=0 by omega,qhs,qhr],⟨by simp[Buf],λk k1 k2=>absurd k1 (by simp only;omega)⟩⟩ (by simp only[fuel];omega)
 rintro ⟨x,i,L⟩ rec ⟨i1,i2,i3,i4⟩ ih;simp only at i1 i2 i3 i4 ⊢;have hlt:=wA hu i1 i2;obtain⟨v,hv⟩:∃v,v=u / 10^ (d-i.toNat):=⟨_,rfl⟩
 have hvu:v<=u:=by rw[hv];exact qg7 _ _
 rw[<-hv] at i3 hlt;subst i3;refine aD (λh8=>?_) λh8=>?_
 ·have p2:=jC (u:=u) (d:=d) (j:=i-2) (by omega) i2 rfl;have p4:=jC (u:=u) (d:=d) (j:=i-4) (i:=i-2) (by omega) (by omega) (by omega);have p6:=jC (u:=u) (d:=d) (j:=i-6) (i:=i-4) (by omega) (by omega) (by omega);have p8:=jC (u:=u) (d:=d) (j:=i-8) (i:=i-6) (by omega) (by omega) (by omega);rw[<-hv] at p2;rw[p2] at p4;rw[p4] at p6;rw[p6] at p8;repeat (refine aA (by first | exact aG (by omega) (by omega) | exact aV (by omega) (by omega) | exact cN.2 ⟨by omega,by omega,by omega⟩ | (simp only[aW,aQ];omega)) ?_)
  refine ih _ ⟨by simp only;omega,by simp only;omega,by simp only;rw[p8];omega,?_⟩ (by simp only;omega);simp only;have q2:=i4.two hd20 (by omega) i2 (j1:=i-1) (j2:=i-2) rfl rfl (a:=((((v:Int)%100000000%4294967296%10000%100*2)%4294967296+1)%4294967296)) (b:=((v:Int)%100000000%4294967296%10000%100*2)%4294967296) (by rw[<-hv];omega) (by rw[<-hv];omega);have q4:=q2.two hd20 (by omega) (by omega) (j1:=i-3) (j2:=i-4) (by omega) (by omega) (a:=((((v:Int)%100000000%4294967296%10000 / 100*2)%4294967296+1)%4294967296)) (b:=((v:Int)%100000000%4294967296%10000 / 100*2)%4294967296) (by rw[p2];omega) (by rw[p2];omega);have q6:=q4.two hd20 (by omega) (by omega) (j1:=i-5) (j2:=i-6) (by omega) (by omega) (a:=((((v:Int)%100000000%4294967296 / 10000%100*2)%4294967296+1)%4294967296)) (b:=((v:Int)%100000000%4294967296 / 10000%100*2)%4294967296) (by rw[p4];omega) (by rw[p4];omega);exact q6.two hd20 (by omega) (by omega) (j1:=i-7) (j2:=i-8) (by omega) (by omega) (a:=((((v:Int)%100000000%4294967296 / 10000 / 100*2)%4294967296+1)%4294967296)) (b:=((v:Int)%100000000%4294967296 / 10000 / 100*2)%4294967296) (by rw[p6];omega) (by rw[p6];omega)
 ·clear ih;have h7:10^i.toNat<=10^7:=mN (by decide) (by omega);have h7':(10:Nat)^7=10000000:=by decide
  refine oQ (λx=>0<=x.1/\x.1<=3/\x.1<=d/\x.2.1=((u / 10^ (d-x.1.toNat):Nat):Int)/\DigInv u d x.1 x.2.2) (λx4 hx4=>?_) λj hj=>?_
  ·obtain⟨i',u',L'⟩:=x4;obtain⟨k1,k2,k3,k4,k5⟩:=hx4;simp only at k1 k2 k3 k4 k5 ⊢;have hl':=wA hu k1 k3;obtain⟨v',hv'⟩:∃v,v=u / 10^ (d-i'.toNat):=⟨_,rfl⟩
   rw[<-hv'] at k4 hl';subst k4;refine aD (λh2=>?_) λh2=>?_
   ·have b3:10^i'.toNat<=10^3:=mN (by decide) (by omega);have b3':(10:Nat)^3=1000:=by decide
    have p2:=jC (u:=u) (d:=d) (j:=i'-2) h2 k3 rfl;rw[<-hv'] at p2;have q2:=k5.two hd20 h2 k3 (j1:=i'-1) (j2:=i'-2) rfl rfl (a:=((((v':Int)%100*2)%4294967296+1)%4294967296)) (b:=((v':Int)%100*2)%4294967296) (by rw[<-hv'];omega) (by rw[<-hv'];omega);repeat (refine aA (by first | exact aG (by omega) (by omega) | exact aV (by omega) (by omega) | exact cN.2 ⟨by omega,by omega,by omega⟩ | (simp only[aW,aQ];omega)) ?_)
    refine aD (λh3=>?_) λh3=>?_
    ·have e3:i'=3:=by omega
     subst e3;have q3:=DigInv.one (v:=(48+ (v':Int) / 100)%4294967296%256) q2 (by omega) hu (by
      rw[show d-1=d-((3:Int)-2).toNat by omega,p2];omega)
     repeat (refine aA (by first | exact aG (by omega) (by omega) | exact aV (by omega) (by omega) | exact cN.2 ⟨by omega,by omega,by omega⟩ | (simp only[aW,aQ];omega)) ?_)
     try (refine aD (λg=>absurd g (by omega)) λ_=>?_)
     repeat (refine aA (by first | exact aG (by omega) (by omega) | exact aV (by omega) (by omega) | exact cN.2 ⟨by omega,by omega,by omega⟩ | (simp only[aW,aQ];omega)) ?_)
     exact out q3
    ·have e3:i'=2:=by omega
     subst e3;try (refine aD (λg=>absurd g (by omega)) λ_=>?_)
     repeat (refine aA (by first | exact aG (by omega) (by omega) | exact aV (by omega) (by omega) | exact cN.2 ⟨by omega,by omega,by omega⟩ | (simp only[aW,aQ];omega)) ?_)
     exact out q2
   ·refine aD (λh3=>?_) λh3=>?_
    ·have e3:i'=1:=by omega
     subst e3;have hv9:v'<10:=by simpa using hl'
     have q3:=DigInv.one (v:=(48+ (v':Int))%4294967296%256) k5 (by omega) hu (by
      rw[show d-1=d-(1:Int).toNat by omega,<-hv'];omega)
     repeat (refine aA (by first | exact aG (by omega) (by omega) | exact aV (by omega) (by omega) | exact cN.2 ⟨by omega,by omega,by omega⟩ | (simp only[aW,aQ];omega)) ?_)
     try (refine aD (λg=>absurd g (by omega)) λ_=>?_)
     repeat (refine aA (by first | exact aG (by omega) (by omega) | exact aV (by omega) (by omega) | exact cN.2 ⟨by omega,by omega,by omega⟩ | (simp only[aW,aQ];omega)) ?_)
     exact out q3
    ·have e3:i'=0:=by omega
     subst e3;try (refine aD (λg=>absurd g (by omega)) λ_=>?_)
     repeat (refine aA (by first | exact aG (by omega) (by omega) | exact aV (by omega) (by omega) | exact cN.2 ⟨by omega,by omega,by omega⟩ | (simp only[aW,aQ];omega)) ?_)
     exact out k5
  ·refine aD (λh4=>?_) λh4=>?_
   ·have p2:=jC (u:=u) (d:=d) (j:=i-2) (by omega) i2 rfl;have p4:=jC (u:=u) (d:=d) (j:=i-4) (i:=i-2) (by omega) (by omega) (by omega);rw[<-hv] at p2;rw[p2] at p4;repeat (refine aA (by first | exact aG (by omega) (by omega) | exact aV (by omega) (by omega) | exact cN.2 ⟨by omega,by omega,by omega⟩ | (simp only[aW,aQ];omega)) ?_)
    refine hj _ ⟨by simp only;omega,by simp only;omega,by simp only;omega,by simp only;rw[p4];omega,?_⟩;have q2:=i4.two hd20 (by omega) i2 (j1:=i-1) (j2:=i-2) rfl rfl (a:=((((v:Int)%4294967296%10000%100*2)%4294967296+1)%4294967296)) (b:=((v:Int)%4294967296%10000%100*2)%4294967296) (by rw[<-hv];omega) (by rw[<-hv];omega);exact q2.two hd20 (by omega) (by omega) (j1:=i-3) (j2:=i-4) (by omega) (by omega) (a:=((((v:Int)%4294967296%10000 / 100*2)%4294967296+1)%4294967296)) (b:=((v:Int)%4294967296%10000 / 100*2)%4294967296) (by rw[p2];omega) (by rw[p2];omega)
   ·refine hj _ ⟨i1,by simp only;omega,i2,by simp only;rw[<-hv];omega,i4⟩
end X
end Go.Vm
namespace Go.Vm
namespace X
open W
theorem vL:∀(u:Nat),∀c∈Lib.decDigits u,48<=c.toNat/\c.toNat<=57:=by
 intro u;induction u using Nat.strongRecOn with
 | _ u ih=>
   intro c hc;rw[Lib.decDigits] at hc;split at hc
   ·simp at hc;subst hc;simp;omega
   ·rcases bU.1 hc with h | h
    ·exact ih (u / 10) (by omega) c h
    ·simp at h;subst h;simp;omega
theorem J6 (u:Nat):Lib.decDigits u≠[]:=by
 rw[Lib.decDigits];split<;>simp
theorem vY:∀(l:List UInt8) (acc v:Nat) (c:UInt8),Lib.parseUint10 acc l=.ok v->48<=c.toNat/\c.toNat<=57->v<1844674407370955162->v*10+ (c.toNat-48)<18446744073709551616->Lib.parseUint10 acc (l++[c])=.ok (v*10+ (c.toNat-48))
 | [],acc,v,c,h,hc,h1,h2=>by
   simp only[Lib.parseUint10] at h;injection h with h;subst h;simp only[fB,Lib.parseUint10];rw[aK hc,aF (by omega),aF (by omega)]
 | b::l,acc,v,c,h,hc,h1,h2=>by
   simp only[fN,Lib.parseUint10] at h ⊢;split at h
   ·rename_i g1;split at h
    ·cases h
    ·rename_i g2;split at h
     ·cases h
     ·rename_i g3;rw[aK g1,aF g2,aF g3];exact vY l _ v c h hc h1 h2
   ·cases h
theorem N6:∀(u:Nat),u<9223372036854775808->Lib.parseUint10 0 (Lib.decDigits u)=.ok u:=by
 intro u;induction u using Nat.strongRecOn with
 | _ u ih=>
   intro hu;rw[Lib.decDigits];split
   ·rename_i g;simp only[Lib.parseUint10];have e:(UInt8.ofNat (48+u)).toNat=48+u:=by simp;omega
    rw[e,aK (by omega),aF (by omega),aF (by omega)]
    congr 1;omega
   ·have e:(UInt8.ofNat (48+u%10)).toNat=48+u%10:=by simp;omega
    have:=vY (Lib.decDigits (u / 10)) 0 (u / 10) (UInt8.ofNat (48+u%10)) (ih (u / 10) (by omega) (by omega)) (by rw[e];omega) (by omega) (by rw[e];omega);rw[this,e]
    congr 1;omega
theorem pX {u:Nat} (hu:u<9223372036854775808):Lib.atoiAll (Lib.decDigits u)=.ok (u:Int):=by
 have h1:=N6 u hu;have h2:=vL u;have h3:=J6 u;generalize Lib.decDigits u=l at h1 h2 h3 ⊢
 match l,h3 with
 | c::r,_=>
   have hc:=h2 c bH;unfold Lib.atoiAll;simp only;rw[aF (by omega)];have hp:Lib.parseMag (c::r)=.ok u:=by
    unfold Lib.parseMag;rw[aF (by simp)];exact h1
   rw[hp];simp only;rw[aF (by omega),aF (by omega),aF (by omega)]
theorem jY {u:Nat} (hu:u<9223372036854775808):aX 20 u=(Lib.decDigits u).map UInt8.toNat:=
 lQ 20 u (by have:(10:Nat)^20=100000000000000000000:=(by decide);omega) (by decide)
theorem xA {u v:Nat} (hu:u<9223372036854775808) (hv:v<9223372036854775808) (h:aX 20 u=aX 20 v):u=v:=by
 rw[jY hu,jY hv] at h;have h1:=congrArg u8 h;rw[nS,nS] at h1;have h2:=pX hu;rw[h1,pX hv] at h2;injection h2 with h2;omega
theorem lK {u:Nat} (hu:u<9223372036854775808):∀c∈aX 20 u,48<=c/\c<=57:=by
 rw[jY hu];intro c hc;obtain⟨b,hb,rfl⟩:=bC.1 hc;exact vL u b hb
theorem J4 {u:Nat} (hu:u<9223372036854775808) (h:(aX 20 u).length<=9):u<1000000000:=by
 rw[jY hu,cY,Lib.decDigits_length] at h;have h1:=Lib.lt_pow_nDigits u;have h2:(10:Nat)^Lib.nDigits u<=10^9:=mN (by decide) h;have h3:(10:Nat)^9=1000000000:=by decide
 omega
open Classical in
noncomputable def eG (s:List Nat):Option Nat:=if h:∃u:Nat,s=aX 20 u/\u<1000000000/\s.length<=9 then some h.choose else none
theorem kK {s:List Nat} {u:Nat}:eG s=some u↔s=aX 20 u/\u<1000000000/\s.length<=9:=by
 unfold eG;constructor
 ·intro h;split at h
  ·rename_i g;have:=g.choose_spec;cases h;exact this
  ·cases h
 ·rintro ⟨h1,h2,h3⟩;have g:∃u:Nat,s=aX 20 u/\u<1000000000/\s.length<=9:=⟨u,h1,h2,h3⟩
  rw[dif_pos g];have h4:=g.choose_spec
  congr 1
  exact xA (by omega) (by omega) (h4.1.symm.trans h1)
theorem oL {s:List Nat} (h:∀u,s=aX 20 u->u<1000000000->s.length<=9->False):eG s=none:=by
 cases e:eG s with
 | none=>rfl
 | some u=>obtain⟨h1,h2,h3⟩:=kK.1 e;exact absurd (h u h1 h2 h3) id
theorem M8 {s:List Nat} (hl:s.length<=1000000) (hb:∀x∈s,x<256):
  (∃u:Nat,eG s=some u/\u<1000000000/\jN fuel s=some ((u:Int),true)/\s.length<=9/\eX fuel (u:Int)=some s)\/
  (eG s=none/\∃r,jN fuel s=some r/\(r.2=false\/r.1<0\/9<s.length\/(0<=r.1/\∃t,eX fuel r.1=some t/\t≠s))):=by
 have ha:jN fuel s=sW s:=rfl;rw[ha];unfold sW;rw[bE,bD hl,aH];by_cases h9:s.length<=9
 ·cases e:eG s with
  | some u=>
    obtain⟨h1,h2,h3⟩:=kK.1 e;have e2:u8 s=Lib.decDigits u:=by rw[h1,jY (by omega),nS]
    refine .inl ⟨u,rfl,h2,?_,h9,?_⟩
    ·rw[e2,pX (by omega)]
    ·rw[mJ (by omega) (by omega),h1];rfl
  | none=>
    refine .inr ⟨rfl,?_⟩;cases ea:Lib.atoiAll (u8 s) with
    | «syntax»=>exact⟨_,rfl,.inl rfl⟩
    | range=>exact⟨_,rfl,.inl rfl⟩
    | ok v=>
      refine⟨_,rfl,?_⟩;by_cases hv:v<0
      ·exact .inr (.inl hv)
      ·have hb2:=Lib.atoiAll_bounds ea;refine .inr (.inr (.inr ⟨by simp only;omega,_,mJ (by simp only;omega) (by simp only;omega),λg=>?_⟩));have h1:s=aX 20 v.toNat:=g.symm;have h2:=J4 (u:=v.toNat) (by omega) (by rw[<-h1];exact h9);rw[kK.2 ⟨h1,h2,h9⟩] at e;cases e
 ·refine .inr ⟨oL λu _ _ h=>absurd h h9,?_⟩;cases ea:Lib.atoiAll (u8 s) with
  | «syntax»=>exact⟨_,rfl,.inl rfl⟩
  | range=>exact⟨_,rfl,.inl rfl⟩
  | ok v=>exact⟨_,rfl,.inr (.inr (.inl (by omega)))⟩
end X
end Go.Vm
namespace Go.Vm
namespace X
open W
theorem L7:qD fuel ()=some true:=by kernel_rfl
end X
end Go.Vm
namespace Go.Vm
namespace X
open W Go.RowKit
theorem tE {s:List Nat} {i:Nat} (h:i<s.length):s.getD ((i:Int)).toNat 0=s[i]:=by
 simp[List.getD,dE h]
theorem zA {s:List Nat} (hl:s.length<=1000000000) (hb:∀x∈s,x<256):pS fuel s=some (cR s):=by
 apply Ret.eq;unfold pS;refine cS (λp:Int×Int=>∃i:Nat,i<=s.length/\(s.take i).foldl (zC s.length) (17,0)=p/\p.2=i/\0<=p.1/\p.1<65521) (λp=>s.length-p.2.toNat) ?_ fuel (17,0) ⟨0,eW _,rfl,rfl,by decide,by decide⟩ (by simp only[fuel];omega);rintro ⟨n,i'⟩ rec ⟨i,hi,hf,e,h0,h1⟩ ih;simp only at e h0 h1 ⊢;subst e;refine aD (λhlt=>?_) λhge=>aS ?_
 ·have hlt:i<s.length:=by omega
  rw[tE hlt];have hx:=hb _ (bX hlt);obtain⟨c,hc⟩:∃c:Nat,c=s[i] * (17+s.length-i):=⟨_,rfl⟩
  have e1:((s[i]:Nat):Int)* (17+ (s.length:Int)-(i:Int))=(c:Int):=by
   rw[hc,nW]
   congr 1
   omega
  have hcb:c<=255*1000000017:=by
   rw[hc];exact gL (by omega) (by omega)
  rw[e1];refine aA (aG (by omega) (by omega)) (aA (aV (by omega) (by omega)) (aA (aG (by omega) (by omega)) (aA (aG (by omega) (by omega)) (aA (aG (by omega) (by omega)) (aA (aG (by omega) (by omega)) (aA (aG (by omega) (by omega)) (aA (by simp;omega) (aA (aG (by omega) (by omega)) ?_))))))));refine ih _ ⟨i+1,hlt,?_,by simp,by simp only;omega,by simp only;omega⟩ (by simp only;omega);rw[uS,dE hlt,jU,O7,hf];simp only[O1,qhg,zC];rw[e1]
 ·have:i=s.length:=by omega
  subst this;rw[iL] at hf;rw[jho,hf];omega
theorem xP {s:List Nat} (hl:s.length<=1000000000):sC s=some (cR s):=by
 unfold sC;rw[bE,bD hl];rfl
theorem u5:Ret ((qD fuel ()).bind λr=>some r) λx=>x=true:=by rw[L7];exact aS rfl
end X
end Go.Vm
namespace Go.Vm
namespace X
open W
theorem bT {a:Int} {m:Nat} (h:((List.range m).all λk=>iC ((k:Int)+a))=true) {n:Int} (h1:a<=n) (h2:n<a+m):iC n=true:=by
 have:=cI.1 h (n-a).toNat (eZ.2 (by omega));rw[show(((n-a).toNat:Nat):Int)+a=n by omega] at this;exact this
theorem M7 {n:Int} (h1: -4096<=n) (h2:n<=4096):iC n=true:=by
 by_cases g1_0:n < -3840
 ·exact bT jf1 (by omega) (by omega)
 by_cases g1_1:n < -3584
 ·exact bT jf2 (by omega) (by omega)
 by_cases g1_2:n < -3328
 ·exact bT jf3 (by omega) (by omega)
 by_cases g1_3:n < -3072
 ·exact bT jf4 (by omega) (by omega)
 by_cases g1_4:n < -2816
 ·exact bT jf5 (by omega) (by omega)
 by_cases g1_5:n < -2560
 ·exact bT jf6 (by omega) (by omega)
 by_cases g1_6:n < -2304
 ·exact bT jf7 (by omega) (by omega)
 by_cases g1_7:n < -2047
 ·exact bT jf8 (by omega) (by omega)
 by_cases g2_0:n < -1791
 ·exact bT jf9 (by omega) (by omega)
 by_cases g2_1:n < -1535
 ·exact bT jga (by omega) (by omega)
 by_cases g2_2:n < -1279
 ·exact bT jgb (by omega) (by omega)
 by_cases g2_3:n < -1023
 ·exact bT jgc (by omega) (by omega)
 by_cases g2_4:n < -767
 ·exact bT jgd (by omega) (by omega)
 by_cases g2_5:n < -511
 ·exact bT jge (by omega) (by omega)
 by_cases g2_6:n < -255
 ·exact bT jgf (by omega) (by omega)
 by_cases g2_7:n<1
 ·exact bT jgg (by omega) (by omega)
 by_cases g3_0:n<257
 ·exact bT jgh (by omega) (by omega)
 by_cases g3_1:n<513
 ·exact bT jgi (by omega) (by omega)
 by_cases g3_2:n<769
 ·exact bT jgj (by omega) (by omega)
 by_cases g3_3:n<1025
 ·exact bT jgk (by omega) (by omega)
 by_cases g3_4:n<1281
 ·exact bT jgl (by omega) (by omega)
 by_cases g3_5:n<1537
 ·exact bT jgm (by omega) (by omega)
 by_cases g3_6:n<1793
 ·exact bT jgn (by omega) (by omega)
 by_cases g3_7:n<2049
 ·exact bT jgo (by omega) (by omega)
 by_cases g4_0:n<2305
 ·exact bT jgp (by omega) (by omega)
 by_cases g4_1:n<2561
 ·exact bT jgq (by omega) (by omega)
 by_cases g4_2:n<2817
 ·exact bT jgr (by omega) (by omega)
 by_cases g4_3:n<3073
 ·exact bT jgs (by omega) (by omega)
 by_cases g4_4:n<3329
 ·exact bT jgt (by omega) (by omega)
 by_cases g4_5:n<3585
 ·exact bT jgu (by omega) (by omega)
 by_cases g4_6:n<3841
 ·exact bT jgv (by omega) (by omega)
 exact bT jgw (by omega) (by omega)
end X
end Go.Vm
namespace Go.Vm
namespace X
open W Go.RowKit
theorem vM:∀ {a b:List Nat},zY a b=true->a=b
 | [],[],_=>rfl
 | [],b::m,h=>by cases h
 | a::l,[],h=>by cases h
 | a::l,b::m,h=>by
   simp only[zY,aW] at h;rw[wD h.1,vM h.2]
def nm (n:Int):List Nat:=(eX fuel n).getD []
structure NumOK (n:Int):Prop where
 it:eX fuel n=some (nm n)
 de:mB fuel n=some (nm n)
 at':jN fuel (nm n)=some (n,true)
 ch:∀y∈nm n,45<=y/\y<=57
 ne:1<=(nm n).length
 le:(nm n).length<=5
 l1:Go.Proofs.S07.lpFin (120::32::nm n)=(1,n)
 l2:Go.Proofs.S07.lpFin (121::32::nm n)=(2,n)
 l3:Go.Proofs.S07.lpFin (117::32::nm n)=(3,n)
 l4:Go.Proofs.S07.lpFin (100::32::nm n)=(4,n)
theorem nV {k:Int} {b:Nat} {n:Int} {s:List Nat} (h:xI k b n s=true):Go.Proofs.S07.lpFin (b::32::s)=(k,n):=by
 unfold xI at h;split at h;rename_i a c e;simp only[aW,uH,aQ] at h;rw[e,h.1,h.2]
theorem dL {n:Int} (h1: -4096<=n) (h2:n<=4096):NumOK n:=by
 have h:=M7 h1 h2;unfold iC at h;cases hs:eX fuel n with
 | none=>rw[hs] at h;cases h
 | some s=>
   have en:nm n=s:=by unfold nm;rw[hs];rfl
   rw[hs] at h;simp only[aW] at h;obtain⟨⟨⟨⟨⟨⟨a1,a2⟩,a3⟩,a4⟩,a5⟩,a6⟩,a7⟩:=h;unfold jde at a3;simp only[aW,cI,bE,aQ] at a3;obtain⟨⟨b1,b2⟩,b3⟩:=a3;refine⟨by rw[en];exact hs,?_,?_,λy hy=>?_,by rw[en];exact b2,by rw[en];exact b3,by rw[en];exact nV a4,by rw[en];exact nV a5,by rw[en];exact nV a6,by rw[en];exact nV a7⟩
   ·rw[en];cases hd:mB fuel n with
    | none=>rw[hd] at a1;cases a1
    | some t=>rw[hd] at a1;rw[vM a1]
   ·rw[en];cases hd:jN fuel s with
    | none=>rw[hd] at a2;cases a2
    | some r=>
      obtain⟨a,b⟩:=r;rw[hd] at a2;simp only[aW,uH,aQ] at a2;rw[a2.1,a2.2]
   ·rw[en] at hy;have:=b1 y hy;omega
def VL (l:Int×Int):Prop:=1<=l.1/\l.1<=4/\ -4096<=l.2/\l.2<=4096
def eO (k:Int):Nat:=([32,120,121,117,100]:List Nat).getD k.toNat 0
def eA (l:Int×Int):List Nat:=eO l.1::32::nm l.2
theorem wW {k:Int} (h:0<=k) (h2:k<=254):IntKind.u8.wrap (k+1)=k+1:=by
 unfold IntKind.wrap;simp[IntKind.bits,IntKind.signed];omega
abbrev gH:=Int×((Int×Int)×(Int×Int))
structure OrdPT (x:gH):Prop where
 k1:1<=x.1
 k3:x.1<=3
 l1:1<=x.2.1.1
 l4:x.2.1.1<=4
 c0: -4096<=x.2.1.2
 c1:x.2.1.2<=4096
 ft:x.2.2.1<x.2.2.2
theorem vT (l:Int×Int):lG fuel l=some 0/\(1<=l.1/\l.1<=4/\ -4096<=l.2/\l.2<=4096)\/lG fuel l=some 1/\¬(1<=l.1/\l.1<=4/\ -4096<=l.2/\l.2<=4096):=by
 unfold lG;by_cases h1:l.1<1
 ·simp only[h1,aU,aH];exact .inr ⟨trivial,by omega⟩
 by_cases h2:4<l.1
 ·simp only[h1,h2,aU,aT,aH,aJ];exact .inr ⟨trivial,by omega⟩
 by_cases h3:l.2 < -4096
 ·simp only[h1,h2,h3,aU,aT,aH,aJ];exact .inr ⟨trivial,by omega⟩
 by_cases h4:4096<l.2
 ·simp only[h1,h2,h3,h4,aU,aT,aH,aJ];exact .inr ⟨trivial,by omega⟩
 simp only[h1,h2,h3,h4,aT,aJ];exact .inl ⟨trivial,by omega⟩
theorem N4 (x:gH):∃b,oV fuel x=some b/\(b=true↔OrdPT x):=by
 unfold oV;by_cases h1:1<=x.1
 rotate_left
 ·simp only[h1,aT,aJ];exact⟨_,rfl,by simp;intro h;exact h1 h.k1⟩
 by_cases h2:x.1<=3
 rotate_left
 ·simp only[h1,h2,aU,aT,aH,aJ];exact⟨_,rfl,by simp;intro h;exact h2 h.k3⟩
 simp only[h1,h2,aU,aH];rcases vT (x.2.1.1,x.2.1.2) with⟨e,g⟩ | ⟨e,g⟩
 ·rw[e,aC];simp only[aU,aH];simp only at g;exact⟨_,rfl,by simp only[aQ];exact⟨λh=>⟨h1,h2,g.1,g.2.1,g.2.2.1,g.2.2.2,h⟩,λh=>h.ft⟩⟩
 ·rw[e,aC];simp only[show((1:Int)=0)=False by simp,aT,aJ];exact⟨_,rfl,by simp;intro h;exact g ⟨h.l1,h.l4,h.c0,h.c1⟩⟩
theorem uL (l:Int×Int):VL l/\kF fuel l=some (eA l)\/¬VL l/\kF fuel l=some []:=by
 rcases vT l with⟨e,h⟩ | ⟨e,h⟩
 ·left;refine⟨h,?_⟩;obtain⟨h1,h2,h3,h4⟩:=h;have hn:=dL h3 h4;have hle:=hn.le;unfold kF;rw[show((l.1,l.2):Int×Int)=l from rfl,e,aC];have hw:=wW (k:=l.1) (by omega) (by omega);rw[hw,hn.it,aC];have hk:l.1=1\/l.1=2\/l.1=3\/l.1=4:=by omega
  unfold eA eO;generalize nm l.2=s at hle;rcases hk with e | e | e | e<;>(rw[e];simp[aB,cU,pP];try omega)
 ·right;refine⟨h,?_⟩;unfold kF;rw[show((l.1,l.2):Int×Int)=l from rfl,e,aC];rfl
theorem P9 {l:Int×Int} (h:VL l):yW fuel l=some (eA l):=by
 obtain⟨h1,h2,h3,h4⟩:=h;have hn:=dL h3 h4;have hle:=hn.le;unfold yW;rw[hn.de,aC];have hk:l.1=1\/l.1=2\/l.1=3\/l.1=4:=by omega
 unfold eA eO;generalize nm l.2=s at hle;rcases hk with e | e | e | e<;>(rw[e];simp[aB,bB,pP];try omega)
end X
end Go.Vm
namespace Go.Vm
namespace X
open W Go.RowKit
def fC (k:Int):Nat:=([32,109,118,97]:List Nat).getD k.toNat 0
def cG (x:gH):List Nat:=((((([fC x.1]++[32])++eA x.2.1)++[32])++nm x.2.2.1)++[32])++nm x.2.2.2
structure OkX (x:gH):Prop where
 o:OrdPT x
 f0: -4096<=x.2.2.1
 t1:x.2.2.2<=4096
theorem qE {l:Int×Int} (h:VL l):(eA l).length<=7:=by
 have:=(dL h.2.2.1 h.2.2.2).le;unfold eA;simp only[cL];omega
theorem OkX.vl {x:gH} (h:OkX x):VL x.2.1:=⟨h.o.l1,h.o.l4,h.o.c0,h.o.c1⟩
theorem pE (x:gH):OkX x/\fG fuel x=some (cG x)\/¬OkX x/\fG fuel x=some []:=by
 obtain⟨b,hb,hb2⟩:=N4 x;by_cases ho:OrdPT x
 rotate_left
 ·refine .inr ⟨λh=>ho h.o,?_⟩;unfold fG;rw[show(x.1,((x.2.1.1,x.2.1.2),(x.2.2.1,x.2.2.2)))=x from rfl,hb,aC];cases b with
  | true=>exact absurd (hb2.1 rfl) ho
  | false=>rfl
 have eb:b=true:=hb2.2 ho;subst eb;by_cases h1:x.2.2.1 < -4096
 ·refine .inr ⟨λh=>by have:=h.f0;omega,?_⟩;unfold fG;rw[show(x.1,((x.2.1.1,x.2.1.2),(x.2.2.1,x.2.2.2)))=x from rfl,hb,aC];simp only[fS,aJ,h1,aU,aH]
 by_cases h2:4096<x.2.2.2
 ·refine .inr ⟨λh=>by have:=h.t1;omega,?_⟩;unfold fG;rw[show(x.1,((x.2.1.1,x.2.1.2),(x.2.2.1,x.2.2.2)))=x from rfl,hb,aC];simp only[fS,aJ,h1,h2,aT,aU,aH]
 have hx:OkX x:=⟨ho,by omega,by omega⟩
 have hv:=hx.vl;have hft:=ho.ft;have n1:=dL (n:=x.2.2.1) (by omega) (by omega);have n2:=dL (n:=x.2.2.2) (by omega) (by omega);have hl:=qE hv;have le1:=n1.le;have le2:=n2.le;have hk:x.1=1\/x.1=2\/x.1=3:=by have:=ho.k1;have:=ho.k3;omega
 have hL:kF fuel (x.2.1.1,x.2.1.2)=some (eA x.2.1):=by
  rcases uL x.2.1 with⟨_,e⟩ | ⟨h,_⟩
  ·exact e
  ·exact absurd hv h
 refine .inl ⟨hx,?_⟩;unfold fG;rw[show(x.1,((x.2.1.1,x.2.1.2),(x.2.2.1,x.2.2.2)))=x from rfl,hb,aC];simp only[fS,aJ,h1,h2,aT];rw[wW (k:=x.1) (by omega) (by omega),hL,aC,n1.it,aC,n2.it,aC];unfold cG fC;generalize nm x.2.2.1=s1 at le1;generalize nm x.2.2.2=s2 at le2;generalize eA x.2.1=s3 at hl;rcases hk with e | e | e<;>(rw[e];simp[aB,cU,pP];try omega)
theorem G4 {x:gH} (hx:OkX x):xL fuel x=some (cG x):=by
 have hv:=hx.vl;have hft:=hx.o.ft;have f0:=hx.f0;have t1:=hx.t1;have n1:=dL (n:=x.2.2.1) (by omega) (by omega);have n2:=dL (n:=x.2.2.2) (by omega) (by omega);have hl:=qE hv;have le1:=n1.le;have le2:=n2.le;have hk:x.1=1\/x.1=2\/x.1=3:=by have:=hx.o.k1;have:=hx.o.k3;omega
 unfold xL;rw[show(x.2.1.1,x.2.1.2)=x.2.1 from rfl,P9 hv,aC,n1.de,aC,n2.de,aC];unfold cG fC;generalize nm x.2.2.1=s1 at le1;generalize nm x.2.2.2=s2 at le2;generalize eA x.2.1=s3 at hl;rcases hk with e | e | e<;>(rw[e];simp[aB,bB,pP];try omega)
end X
end Go.Vm
namespace Go.Vm
namespace X
open W Go.RowKit
theorem t6 {k:Int} (h:1<=k/\k<=3):fC k<256/\fC k≠32:=by
 have hk:k=1\/k=2\/k=3:=by omega
 unfold fC;rcases hk with rfl | rfl | rfl<;>decide
theorem u7 {k:Int} (h:1<=k/\k<=4):eO k<256/\eO k≠32:=by
 have hk:k=1\/k=2\/k=3\/k=4:=by omega
 unfold eO;rcases hk with rfl | rfl | rfl | rfl<;>decide
theorem mC {x:gH} (hx:OkX x):(cG x).length<=40:=by
 have hv:=hx.vl;have hft:=hx.o.ft;have f0:=hx.f0;have t1:=hx.t1;have n1:=(dL (n:=x.2.2.1) (by omega) (by omega)).le;have n2:=(dL (n:=x.2.2.2) (by omega) (by omega)).le;have n0:=qE hv;unfold cG;simp only[cZ,dU];omega
end X
end Go.Vm
namespace Go.Vm
namespace X
open W
noncomputable def dF:List (List Nat)->Option (List Int)
 | []=>some []
 | s::t=>match eG s with
   | none=>none
   | some u=>(dF t).map λl=>(u:Int)::l
noncomputable def cC (line word:List Nat) (many:Nat):Option (List Int):=match cB line [32] with
 | w::T=>if w=word/\T.length=many then dF T else none
 | []=>none
theorem uX (s:List Nat):∀w∈cB s [32],∀x∈w,x<256:=by
 intro w hw x hx;unfold cB at hw;obtain⟨v,_,rfl⟩:=bC.1 hw;obtain⟨b,_,rfl⟩:=bC.1 hx;exact b.toNat_lt
theorem R6 {t:List Nat} (h:t.length<=1000000):strings_Split fuel (t,[32])=some (cB t [32]):=by
 show tR (t,[32])=_;unfold tR;simp only;have:(t.length.ble 1000000&& !(([32]:List Nat).length.beq 0))=true:=by rw[bE,bD h];rfl
 first | rw[this,aH] | simp[bE,h]
theorem uM {line word:List Nat} {many:Nat} (hl:line.length<=1000000) (hm:many<=1000):uG fuel (line,(word,(many:Int)))=some (match cC line word many with
  | some l=>(l,true)
  | none=>([],false)):=by
 have hws:=xU line;have hwb:=uX line;have hne:cB line [32]≠[]:=T6;apply Ret.eq;unfold uG cC;rw[R6 hl,aC];generalize cB line [32]=ws at hws hwb hne ⊢
 match ws,hne with
 | w::T,_=>
   have hT:T.length<=1000000:=by have:=hws.1;simp only[cL] at this;omega
   simp only;refine aA (aV (by omega) (by simp)) (aD (λg=>aS ?_) λg=>?_)
   ·rw[aF λh=>g h.1]
   ·have g:w=word:=iF.1 g;refine aA (aG (by omega) (by omega)) (aD (λg2=>aS ?_) λg2=>?_)
    ·rw[aF λh=>g2 (by rw[cL,h.2];omega)]
    ·have g2:T.length=many:=by
      have:=iF.1 g2;rw[cL] at this;omega
     rw[aK ⟨g,g2⟩];refine aA (cN.2 ⟨by omega,by rw[cL];omega,by omega⟩) ?_;refine cS (λp:List Int×Int=>∃i:Nat,p.2=i/\i<=T.length/\p.1.length=i/\dF T=(dF (T.drop i)).map (p.1++·)) (λp=>T.length-p.2.toNat) ?_ fuel ([],0) ⟨0,rfl,eW _,rfl,by simp⟩ (by simp only[fuel];omega);rintro ⟨out,i'⟩ rec ⟨i,e,hi,ho,hg⟩ ih;simp only at e ho hg ih ⊢;subst e;have hlen:(w::T).length-1=T.length:=by simp
     rw[hlen];refine aD (λhlt=>?_) λhge=>?_
     ·have hlt:i<T.length:=by omega
      have hget:(w::T).getD (1+ ((i:Int)).toNat) []=T[i]:=by
       rw[cK,l9,O4,gP,dE hlt];rfl
      have hmem:T[i]∈w::T:=bL _ (bX hlt);have hdrop:T.drop i=T[i]::T.drop (i+1):=iJ hlt;rw[hget];refine aA (aV (by omega) (by omega)) ?_;rcases M8 (s:=T[i]) (gE (hws.2 _ hmem) hl) (hwb _ hmem) with⟨u,n1,n2,n3,n4,n5⟩ | ⟨n1,r,n2,n3⟩
      ·rw[n3,aC];refine cV (λh=>by cases h) λ_=>aD (λh=>absurd h (by simp only;omega)) λ_=>aD (λh=>absurd h (by omega)) λ_=>?_
       rw[n5,aC];refine aD (λh=>absurd rfl h) λ_=>aA (eT (by omega)) (aA (aG (by omega) (by omega)) (ih _ ⟨i+1,by simp only;omega,hlt,by simp;omega,?_⟩ (by simp only;omega)))
       rw[hg,hdrop,dF,n1];simp only;rw[qg2]
       congr 1
       funext l
       simp
      ·have hno:dF T=none:=by rw[hg,hdrop,dF,n1];rfl
       have bad:Ret (some (([]:List Int),false)) λx=>x=(match dF T with
        | some l=>(l,true)
        | none=>([],false)):=aS (by rw[hno])
       rw[n2,aC];refine cV (λh=>bad) λh1=>aD (λh=>bad) λh2=>aD (λh=>bad) λh3=>?_
       rcases n3 with h | h | h | ⟨_,t,h4,h5⟩
       ·rw[h] at h1;cases h1
       ·exact absurd h h2
       ·exact absurd (by omega) h3
       ·rw[h4,aC];exact aD (λ_=>bad) λh=>absurd h5 h
     ·have:i=T.length:=by omega
      subst this;rw[jM] at hg;have hg:dF T=some out:=by rw[hg,dF];simp
      exact aS (by rw[hg])
end X
end Go.Vm
namespace Go.Vm
namespace X
open W
def aM (c:Nat):List Nat->List (List Nat)
 | []=>[[]]
 | b::l=>if b=c then []::aM c l else match aM c l with
   | w::ws=>(b::w)::ws
   | []=>[[b]]
theorem jX (c:Nat):∀l:List Nat,aM c l≠[]
 | []=>by simp[aM]
 | b::l=>by
   unfold aM;split
   ·simp
   ·split<;>simp
theorem uD {w:List Nat} (h:w.length<=1000000000):gW fuel (w++[10],[10])=some (w,true):=by
 apply Ret.eq;unfold gW;have e1:((w++[10]).length:Int)-(([10]:List Nat).length:Int)=(w.length:Int):=by simp
 simp only;rw[e1];refine aD (λ_=>?_) λg=>absurd (by simp;omega) g
 refine aA (aG (by omega) (by omega)) (aA (cN.2 ⟨by omega,by simp;omega,by simp⟩) (cV (λg=>?_) λ_=>aA (aG (by omega) (by omega)) (aA (cN.2 ⟨by omega,by omega,by simp;omega⟩) (aS ?_))))
 ·simp at g
 ·simp
theorem wZ {e:List Nat} (h:e.length<=1000000000) (hn:10∉e):gW fuel (e,[10])=some (e,false):=by
 apply Ret.eq;unfold gW;simp only;refine aD (λg=>?_) λ_=>aS rfl
 have g:1<=e.length:=by simp at g;omega
 refine aA (aG (by simp;omega) (by simp;omega)) (aA (cN.2 ⟨by simp;omega,by simp;omega,by omega⟩) (cV (λ_=>aS rfl) λg2=>?_));exfalso;have g3:((e.drop (((e.length:Int)-(([10]:List Nat).length:Int))).toNat).take (e.length-(((e.length:Int)-(([10]:List Nat).length:Int))).toNat))=[10]:=by simpa using g2
 have:(10:Nat)∈([10]:List Nat):=by simp
 rw[<-g3] at this;exact hn (rM (wE this))
def fM:List (List Nat)->List (List Nat)
 | []=>[]
 | [e]=>if e=[] then [] else [e]
 | w::v::ws=>(w++[10])::fM (v::ws)
theorem nC {c:Nat} {b:List Nat}:∀ {a:List Nat},c∉a->aM c (a++c::b)=a::aM c b
 | [],_=>by simp[aM]
 | x::a,h=>by
   have hx:x≠c:=λe=>h (e▸bH)
   rw[fN,aM,aF hx,nC λg=>h (bL _ g)]
theorem uC {c:Nat}:∀ {a:List Nat},c∉a->aM c a=[a]
 | [],_=>rfl
 | x::a,h=>by
   have hx:x≠c:=λe=>h (e▸bH)
   rw[aM,aF hx,uC λg=>h (bL _ g)]
theorem vP (c:Nat):∀s:List Nat,c∉s\/∃a b,s=a++c::b/\c∉a
 | []=>.inl (by simp)
 | x::s=>by
   by_cases h:x=c
   ·exact .inr ⟨[],s,by rw[h];rfl,by simp⟩
   ·rcases vP c s with g | ⟨a,b,e,g⟩
    ·exact .inl λq=>(bJ.1 q).elim (λq=>h q.symm) λq=>g q
    ·exact .inr ⟨x::a,b,by rw[e];rfl,λq=>(bJ.1 q).elim (λq=>h q.symm) λq=>g q⟩
theorem rX:∀(n:Nat) (s:List Nat),s.length<=n->kD s=fM (aM 10 s)
 | 0,s,h=>by
   have:s=[]:=tJ (by omega);subst this;rw[(yI).2 rfl];rfl
 | n+1,s,h=>by
   rcases vP 10 s with g | ⟨a,b,rfl,g⟩
   ·rw[uC g];by_cases h0:s=[]
    ·subst h0;rw[(yI).2 rfl];rfl
    ·rw[jbs h0 g,fM,aF h0]
   ·rw[jbr g,nC g,rX n b (by simp at h;omega)];have:=jX 10 b
    match aM 10 b,this with
    | v::ws,_=>rfl
end X
end Go.Vm
namespace Go.Vm
namespace X
open W
set_option maxRecDepth 100000
abbrev bG:=Int×((Int×Int)×(Int×Int))
def bF:List Nat:=[101,110,100]
def cA:List Nat:=[99,114,101,97,115,101]
noncomputable def gY (w:List Nat):Option bG:=match kQ fuel w with
 | some r=>if r.2=0 then some r.1 else none
 | none=>none
noncomputable def bP (i:Nat) (sh:Int×Int) (l:List bG) (body:List Nat):List (List Nat)->Int ⊕ ((Int×Int)×(List bG×(Int×List Nat)))
 | []=>.inl (i+1)
 | [_]=>.inl (i+1)
 | w::v::ws=>match (if i=0 then none else cC w bF 1) with
   | some ns=>if v=[]/\ws=[] then .inr (sh,(l,(ns.getD 0 0,body))) else .inl (i+2)
   | none=>if i=0 then(match cC w cA 2 with
      | none=>.inl 1
      | some ns=>bP 1 (ns.getD 0 0,ns.getD 1 0) l (body++(w++[10])) (v::ws))
     else(match gY w with
      | none=>.inl (i+1)
      | some x=>bP (i+1) sh (l++[x]) (body++(w++[10])) (v::ws))
abbrev jO:=(Int×Unit)×((Int×(Int×(List bG×(Int×Int))))×((Bool×Unit)×(Int×Unit)))
def fA (i:Int) (sh:Int×Int) (l:List bG) (sum b:Int) (over:Bool) (at_:Int):jO:=((i,()),((sh.1,(sh.2,(l,(sum,b)))),((over,()),(at_,()))))
abbrev kZ:=(Int×(Int×(List bG×(Int×Int))))×Int
structure StepD (D:jO->Option kZ) (S:List Nat->(jO->Option kZ)->jO->Option kZ):Prop where
 d0:∀(i:Nat) sh l sum b at_,i<=3000000->D (fA i sh l sum b false at_)=some ((0,(0,([],(0,0)))),(i:Int)+1)
 d1:∀(i:Nat) sh l sum b at_,i<=3000000->D (fA i sh l sum b true at_)=some ((sh.1,(sh.2,(l,(sum,b)))),0)
 cut:∀y rec (i:Nat) sh l sum b over at_ w,i<=3000000->gW fuel (y,[10])=some (w,false)->S y rec (fA i sh l sum b over at_)=some ((0,(0,([],(0,0)))),(i:Int)+1)
 late:∀y rec (i:Nat) sh l sum b at_ w,i<=3000000->gW fuel (y,[10])=some (w,true)->S y rec (fA i sh l sum b true at_)=some ((0,(0,([],(0,0)))),(i:Int)+1)
 line:∀y rec (i:Nat) sh l (n:Nat) w,i<=3000000->l.length<=3000000->n<=3000000000->w.length<=1000->y.length<=1001->gW fuel (y,[10])=some (w,true)->
  S y rec (fA i sh l 0 0 false n)=(match (if i=0 then none else cC w bF 1) with
    | some ns=>rec (fA ((i:Int)+1) sh l (ns.getD 0 0) n true ((n:Int)+y.length))
    | none=>if i=0 then(match cC w cA 2 with
       | none=>some ((0,(0,([],(0,0)))),1)
       | some ns=>rec (fA ((i:Int)+1) (ns.getD 0 0,ns.getD 1 0) l 0 0 false ((n:Int)+y.length)))
      else(match gY w with
       | none=>some ((0,(0,([],(0,0)))),(i:Int)+1)
       | some x=>rec (fA ((i:Int)+1) sh (l++[x]) 0 0 false ((n:Int)+y.length))))
theorem aY {α:Type} {c:Bool} {x:Option α} (h:c=true):aB c x=x:=by rw[h];rfl
theorem dG {α:Type} {p:Prop} {inst:Decidable p} {x y:α} (h:¬p):(bif @decide p inst then x else y)=y:=by rw[kN h];rfl
theorem cO {α:Type} {p:Prop} {inst:Decidable p} {x y:α} (h:p):(bif @decide p inst then x else y)=x:=by rw[bD h];rfl
end X
end Go.Vm
namespace Go.Vm
namespace X
open W
abbrev iR:=List bG×(List Nat×(Int×(Int×(Int×((Int×(Int×Unit))×(Int×Int))))))
def tD (l:List bG) (body:List Nat) (sum e i:Int) (sh:Int×Int):iR:=(l,(body,(sum,(e,(i,((0,(0,())),sh))))))
structure StepT {β:Type} (P:List (List Nat)) (S:(iR->Option β)->iR->Option β) (T:iR->Option β) (bad:Int->β):Prop where
 stop:∀rec l body sum e sh,S rec (tD l body sum e (P.length:Int) sh)=T (tD l body sum e (P.length:Int) sh)
 last:∀rec (i:Nat) (h:i+1=P.length) l body sum (e:Nat) sh,body.length<=3000000000->S rec (tD l body sum e (i:Int) sh)=if P[i]=[]/\0<e then rec (tD l body sum e ((i:Int)+1) sh) else some (bad ((i:Int)+1))
 late:∀rec (i:Nat),i+1<P.length->∀l body sum (e:Nat) sh,0<e->S rec (tD l body sum e (i:Int) sh)=some (bad ((i:Int)+1))
 line:∀rec (i:Nat) (h:i+1<P.length) l body sum sh,l.length<=2000000->body.length<=3000000000->S rec (tD l body sum 0 (i:Int) sh)=
  (if i=0 then(match cC P[i] cA 2 with
      | none=>some (bad 1)
      | some ns=>rec (tD l (body++(P[i]++[10])) sum 0 ((i:Int)+1) (ns.getD 0 0,ns.getD 1 0)))
    else(match cC P[i] bF 1 with
     | some ns=>rec (tD l body (ns.getD 0 0) ((i:Int)+1) ((i:Int)+1) sh)
     | none=>(match gY P[i] with
       | none=>some (bad ((i:Int)+1))
       | some x=>rec (tD (l++[x]) (body++(P[i]++[10])) sum 0 ((i:Int)+1) sh))))
end X
end Go.Vm
namespace Go.Vm
namespace X
open W
set_option maxRecDepth 100000
abbrev lA:=(Int×(Int×(List (Int×(Int×Int)))))×(Int×Int)
def nB (m:Int):lA:=((0,(0,[])),(m,4))
theorem iP {σ β:Type} {k:σ->Option β} {f:(σ->Option β)->Option β}:jn k f=f k:=rfl
end X
end Go.Vm
namespace Go.Vm
namespace X
open W
end X
end Go.Vm
namespace Go.Vm
namespace X
open W Go.Proofs.Un
theorem vF {α:Type} {r:α->α->Bool} (tr:∀x y z,r x y=true->r y z=true->r x z=true):∀ {l:List α},iA r l=true->l.Pairwise λx y=>r x y=true
 | [],_=>List.Pairwise.nil
 | x::l,h=>by
   simp only[iA,aW] at h;have ih:=vF tr h.2;refine jH.2 ⟨λy hy=>?_,ih⟩;cases l with
   | nil=>cases hy
   | cons z l=>
     rcases bJ.1 hy with e | hy
     ·rw[e];exact h.1
     ·exact tr _ _ _ h.1 ((jH.1 ih).1 y hy)
theorem vH {x y:aP}:p9 x y=true↔x.1<y.1\/x.1=y.1/\x.2<y.2:=by
 simp[p9]
def Nx (x y:aI):Prop:=x.2.1.1<y.2.1.1\/x.2.1.1=y.2.1.1/\(x.2.1.2<y.2.1.2\/x.2.1.2=y.2.1.2/\x.2.2.2<=y.2.2.1)
theorem vX {x y:aI}:y8 x y=true↔Nx x y:=by
 simp[y8,Nx]
structure LiOK (w h:Nat) (x:aI):Prop where
 k1:1<=x.2.1.1
 k4:x.2.1.1<=4
 c0: -(w:Int)<=x.2.1.2
 c1:x.2.1.2<=(w:Int)+h
 f0:0<=x.2.2.1
 ft:x.2.2.1<x.2.2.2
 t1:x.2.2.2<=2* ((w:Int)+h)
 u0:0<=x.1.1
 u1:x.1.1<4* (w:Int)*h
 e0:0<=x.1.2
 e2:x.1.2<=2
section
variable {w h:Nat} {T:List aI}
theorem Tab.li (t:Tab w h T) {x:aI} (hx:x∈T):LiOK w h x:=by
 have:=cI.1 t.ok x hx;simp only[jdp,aW,aQ] at this;obtain⟨⟨⟨⟨⟨⟨⟨⟨⟨⟨a1,a2⟩,a3⟩,a4⟩,a5⟩,a6⟩,a7⟩,a8⟩,a9⟩,a10⟩,a11⟩:=this;exact⟨a1,a2,a3,a4,a5,a6,a7,a8,a9,a10,a11⟩
theorem Tab.asc (t:Tab w h T):(T.map (·.1)).Pairwise λx y=>x.1<y.1\/x.1=y.1/\x.2<y.2:=
 (vF (λx y z h1 h2=>by rw[vH] at *;omega) t.up).imp λh=>vH.1 h
theorem Tab.ndU (t:Tab w h T):(T.map (·.1)).Nodup:=t.asc.imp λ{a b} h e=>by subst e;omega
theorem pA {α:Type} {l:List α} (h:l.Nodup) {i j:Nat} (hi:i<l.length) (hj:j<l.length) (e:l[i]=l[j]):i=j:=by
 rcases oN i j with g | g | g
 ·exact absurd e (fV.1 h i j hi hj g)
 ·exact g
 ·exact absurd e.symm (fV.1 h j i hj hi g)
theorem Tab.unitInj (t:Tab w h T) {x y:aI} (hx:x∈T) (hy:y∈T) (e:x.1=y.1):x=y:=by
 obtain⟨i,hi,rfl⟩:=fH hx;obtain⟨j,hj,rfl⟩:=fH hy;have h1:(T.map (·.1))[i]'(by simpa using hi)=(T.map (·.1))[j]'(by simpa using hj):=by simpa using e
 have:=pA t.ndU _ _ h1;subst this;rfl
theorem vZ {α:Type} {r:α->α->Bool}:∀ {l:List α},d9 r l=true->l.Pairwise λx y=>r x y=true
 | [],_=>List.Pairwise.nil
 | x::l,h=>by
   simp only[d9,aW] at h;exact jH.2 ⟨λy hy=>cI.1 h.1 y hy,vZ h.2⟩
theorem Tab.key (t:Tab w h T):KeyD T:=(vZ t.kd).imp λ{x y} h ⟨h1,h2⟩=>by
 simp[jdg,h1,h2] at h
theorem Tab.len (t:Tab w h T) (hw:w<=6) (hh:h<=6):T.length<=1000:=by
 have hn:=t.ndU;have:(T.map (·.1)).length<=1000:=by
  have hsub:∀u∈T.map (·.1),u∈((List.range 144).flatMap fun(i:Nat)=>(List.range 3).map fun(e:Nat)=>(((i:Nat):Int),((e:Nat):Int))):=by
   intro u hu;obtain⟨x,hx,rfl⟩:=bC.1 hu;have:=t.li hx;have h1:=this.u0;have h2:=this.u1;have h3:=this.e0;have h4:=this.e2
   have h5:4* (w:Int)*h<=4*6*6:=by
    have:w*h<=6*6:=gL hw hh;have e:(4* (w:Int)*h)=4* ((w*h:Nat):Int):=by rw[nW,sJ]
    omega
   refine iV.2 ⟨x.1.1.toNat,eZ.2 (by omega),bC.2 ⟨x.1.2.toNat,eZ.2 (by omega),?_⟩⟩;exact iN (by simp only;omega) (by simp only;omega)
  have:=hn.length_le_of_subset hsub;exact gE this (by decide +kernel)
 simpa using this
end
end X
end Go.Vm
namespace Go.Vm
namespace X
open W
def TB (T:List aI):Prop:=∀x∈T,0<=x.2.2.1/\x.2.2.1<x.2.2.2/\x.2.2.2<=24
theorem Tab.tb {w h:Nat} {T:List aI} (t:Tab w h T) (hw:w<=6) (hh:h<=6):TB T:=λx hx=>by
 have:=t.li hx;exact⟨this.f0,this.ft,by have:=this.t1;omega⟩
def wk (T:List aI) (l:Int×Int) (tq:Int):Nat->Int->Option (List aP)
 | 0,_=>none
 | n+1,p=>if p=tq then some [] else match dM T l p with
   | none=>none
   | some x=>if tq<x.2.2.2 then none else(wk T l tq n x.2.2.2).map (x.1::·)
def mm (p:Int):Nat:=if 0<=p/\p<=24 then(24-p).toNat+1 else 26
theorem wV {T:List aI} (hT:TB T) {l:Int×Int} {tq:Int}:∀(n m:Nat) (p:Int),mm p<=n->mm p<=m->wk T l tq n p=wk T l tq m p
 | 0,_,p,h,_=>by unfold mm at h;split at h<;>omega
 | n+1,0,p,_,h=>by unfold mm at h;split at h<;>omega
 | n+1,m+1,p,hn,hm=>by
   simp only[wk];split
   ·rfl
   ·cases hl:dM T l p with
    | none=>rfl
    | some x=>
      obtain⟨h1,h2,h3⟩:=iB hl;obtain⟨b1,b2,b3⟩:=hT x h1;have e:mm x.2.2.2+1<=mm p:=by
       unfold mm;rw[aK (by omega),aK (by omega)];omega
      simp only;rw[wV hT n m x.2.2.2 (by omega) (by omega)]
def dS (T:List aI) (l:Int×Int) (tq p:Int):Option (List aP):=wk T l tq (mm p) p
theorem lF {T:List aI} (hT:TB T) (l:Int×Int) (tq p:Int):dS T l tq p=if p=tq then some [] else match dM T l p with
  | none=>none
  | some x=>if tq<x.2.2.2 then none else(dS T l tq x.2.2.2).map (x.1::·):=by
 unfold dS;cases hm:mm p with
 | zero=>unfold mm at hm;split at hm<;>omega
 | succ n=>
   simp only[wk];split
   ·rfl
   ·cases hl:dM T l p with
    | none=>rfl
    | some x=>
      obtain⟨h1,h2,h3⟩:=iB hl;obtain⟨b1,b2,b3⟩:=hT x h1;have e:mm x.2.2.2+1<=mm p:=by
       unfold mm;rw[aK (by omega),aK (by omega)];omega
      simp only;rw[wV hT n (mm x.2.2.2) x.2.2.2 (by omega) (bV _)]
abbrev aL:=Int×((Int×Int)×(Int×Int))
structure OrdP (x:aL):Prop where
 k1:1<=x.1
 k3:x.1<=3
 l1:1<=x.2.1.1
 l4:x.2.1.1<=4
 c0: -4096<=x.2.1.2
 c1:x.2.1.2<=4096
 ft:x.2.2.1<x.2.2.2
open Classical in
noncomputable def cJ (T:List aI) (x:aL):List aP×Int:=if OrdP x then(match dS T x.2.1 x.2.2.2 x.2.2.1 with
 | none=>([],7)
 | some u=>(u,0)) else([],1)
section
variable {w h:Nat} {T:List aI}
theorem kR (hw:1<=w/\w<=6) (hh:1<=h/\h<=6):gG fuel ((w:Int),(h:Int))=some 0:=by
 unfold gG;have h5:w*h<=6*6:=gL hw.2 hh.2;have e:((w:Int)*h)=((w*h:Nat):Int):=by rw[nW]
 have n1:¬((w:Int)<1):=by omega
 have n2:¬((h:Int)<1):=by omega
 have n3:¬((256:Int)<w):=by omega
 have n4:¬((256:Int)<h):=by omega
 have n5:¬((256:Int)< (w:Int)*h):=by omega
 simp only[n1,n2,n3,n4,aT,aJ];rw[aG (by omega) (by omega)];simp only[aB,aH,n5,aT,aJ]
end
end X
end Go.Vm
namespace Go.Vm
namespace X
open W
section
variable {w h:Nat} {T:List aI}
theorem wT {T:List aI} (hT:TB T) {l:Int×Int} {tq:Int} (h24:24<tq):∀(n:Nat) (p:Int),p<tq->wk T l tq n p=none
 | 0,_,_=>rfl
 | n+1,p,hp=>by
   simp only[wk];rw[aF (by omega)];cases hl:dM T l p with
   | none=>rfl
   | some x=>
     obtain⟨h1,h2,h3⟩:=iB hl;obtain⟨b1,b2,b3⟩:=hT x h1;simp only;rw[wT hT h24 n x.2.2.2 (by omega)];split<;>rfl
theorem T0 (hT:TB T) {x:aL} (hx:64<x.2.2.2\/x.2.2.1 < -64):(cJ T x).2≠0:=by
 unfold cJ;split
 ·rename_i ho;have:dS T x.2.1 x.2.2.2 x.2.2.1=none:=by
   rcases hx with hx | hx
   ·exact wT hT (by omega) _ _ ho.ft
   ·rw[lF hT,aF (by have:=ho.ft;omega)];cases hl:dM T x.2.1 x.2.2.1 with
    | none=>rfl
    | some y=>
      obtain⟨g1,g2,g3⟩:=iB hl;have:=(hT y g1).1;omega
  rw[this];simp
 ·simp
end
end X
end Go.Vm
namespace Go.Vm
namespace X
open W
def eE (u:aP) (c:aO):Bool:=decide (c.1=u.1)&&decide (c.2.1=u.2)
theorem kC {u:aP} {c:aO}:eE u c=true↔(c.1,c.2.1)=u:=by
 simp[eE,qhl]
def aN (out:List aO) (u:aP):Int:=match out.find? (eE u) with
 | some c=>c.2.2
 | none=>0
def aZ (c:aO):aP:=(c.1,c.2.1)
abbrev UT:Ty:=.prod (.int .i64) (.int .u8)
abbrev K8:Ty:=.int .u8
theorem iG (a b:aP):UT.eqb a b=true↔a=b:=by
 obtain⟨a1,a2⟩:=a;obtain⟨b1,b2⟩:=b;simp only[Ty.eqb];by_cases h1:a1=b1
 ·simp[h1]
 ·simp[h1]
theorem vW (u v:aP) (k:Int):∀L:List (aP×Int),eU UT K8 u (kX UT K8 v k L)=if u=v then some k else eU UT K8 u L
 | []=>by
   show(bif UT.eqb u v then some k else none)=_;by_cases h:u=v
   ·rw[aK h,(iG u v).2 h];rfl
   ·rw[aF h];cases hq:UT.eqb u v with
    | true=>exact absurd ((iG u v).1 hq) h
    | false=>rfl
 | a::L=>by
   show eU UT K8 u (bif UT.eqb v a.1 then(v,k)::L else a::kX UT K8 v k L)=if u=v then some k else(bif UT.eqb u a.1 then some a.2 else eU UT K8 u L)
   cases hv:UT.eqb v a.1 with
   | true=>
     have hva:=(iG _ _).1 hv;show(bif UT.eqb u v then some k else eU UT K8 u L)=_;by_cases h:u=v
     ·rw[aK h,(iG u v).2 h];rfl
     ·rw[aF h];cases hq:UT.eqb u v with
      | true=>exact absurd ((iG u v).1 hq) h
      | false=>
        cases hq2:UT.eqb u a.1 with
        | true=>exact absurd (((iG u a.1).1 hq2).trans hva.symm) h
        | false=>rfl
   | false=>
     show(bif UT.eqb u a.1 then some a.2 else eU UT K8 u (kX UT K8 v k L))=_;cases hq2:UT.eqb u a.1 with
     | true=>
       have e:=(iG u a.1).1 hq2;have:u≠v:=λe2=>by
        have h1:=(iG v a.1).2 (e2▸e);rw[hv] at h1;cases h1
       rw[aF this];rfl
     | false=>
       rw[aJ,aJ,vW u v k L]
structure OutOK (T:List aI) (out:List aO):Prop where
 nd:(out.map aZ).Nodup
 sub:∀c∈out,aZ c∈T.map (·.1)
 k1:∀c∈out,1<=c.2.2/\c.2.2<=3
theorem mF {out:List aO} (hn:(out.map aZ).Nodup) {c:aO} (hc:c∈out):aN out (aZ c)=c.2.2:=by
 unfold aN;cases h:out.find? (eE (aZ c)) with
 | none=>exact absurd (kC.2 rfl) (mP.1 h c hc)
 | some d=>
   have h1:=tK h;have h2:=kC.1 (tM h);obtain⟨i,hi,rfl⟩:=fH hc;obtain⟨j,hj,rfl⟩:=fH h1;have:=pA hn (i:=i) (j:=j) (by simpa using hi) (by simpa using hj) (by simpa[aZ] using h2.symm);subst this;rfl
theorem jL {T:List aI} {out:List aO} (ho:OutOK T out) {u:aP}:aN out u=0↔u∉out.map aZ:=by
 unfold aN;cases h:out.find? (eE u) with
 | none=>
   refine⟨λ_ hm=>?_,λ_=>rfl⟩;obtain⟨c,hc,e⟩:=bC.1 hm;exact absurd (kC.2 e) (mP.1 h c hc)
 | some c=>
   have h1:=tK h;have h2:=kC.1 (tM h);have:=ho.k1 c h1;refine⟨λe=>by simp only at e;omega,λhn=>absurd (bC.2 ⟨c,h1,h2⟩) hn⟩
theorem yG {T:List aI} {out:List aO} (ho:OutOK T out) {v:aP} {k:Int} (hv:aN out v=0) (u:aP):aN (out++[(v.1,(v.2,k))]) u=if u=v then k else aN out u:=by
 have hnot:=(jL ho).1 hv;unfold aN;rw[qgr];by_cases h:u=v
 ·subst h;have:out.find? (eE u)=none:=mP.2 λc hc hq=>hnot (bC.2 ⟨c,hc,kC.1 hq⟩)
  rw[this,aK rfl];simp[eE]
 ·rw[aF h];cases hf:out.find? (eE u) with
  | some c=>rfl
  | none=>
    have:eE u (v.1,(v.2,k))=false:=by
     cases hq:eE u (v.1,(v.2,k)) with
     | false=>rfl
     | true=>exact absurd (kC.1 hq).symm h
    simp[this]
theorem OutOK.add {T:List aI} {out:List aO} (ho:OutOK T out) {v:aP} {k:Int} (hv:aN out v=0) (hT:v∈T.map (·.1)) (hk:1<=k/\k<=3):OutOK T (out++[(v.1,(v.2,k))]):=by
 have hnot:=(jL ho).1 hv;refine⟨?_,λc hc=>?_,λc hc=>?_⟩
 ·rw[eI,qM];refine⟨ho.nd,by simp,λa ha b hb e=>?_⟩;have:b=v:=by simpa[aZ] using hb
  subst this;subst e;exact hnot ha
 ·rcases bU.1 hc with hc | hc
  ·exact ho.sub c hc
  ·rw[cD.1 hc];exact hT
 ·rcases bU.1 hc with hc | hc
  ·exact ho.k1 c hc
  ·rw[cD.1 hc];exact hk
theorem OutOK.len {w h:Nat} {T:List aI} (t:Tab w h T) (hw:w<=6) (hh:h<=6) {out:List aO} (ho:OutOK T out):out.length<=1000:=by
 have:=ho.nd.length_le_of_subset (l₂:=T.map (·.1)) (λu hu=>by
  obtain⟨c,hc,rfl⟩:=bC.1 hu;exact ho.sub c hc)
 have:=t.len hw hh;simp only[cY] at *;omega
def eF (k:Int):List aO->List aP->Option (List aO)
 | out,[]=>some out
 | out,v::us=>if aN out v=0 then eF k (out++[(v.1,(v.2,k))]) us else none
noncomputable def dI (T:List aI):Int->List aO->List aL->(List aO) ⊕ (Int×Int)
 | _,out,[]=>.inl out
 | i,out,x::l=>if(cJ T x).2=0 then(match eF x.1 out (cJ T x).1 with
   | none=>.inr (i,8)
   | some out'=>dI T (i+1) out' l) else .inr (i,(cJ T x).2)
theorem wU {T:List aI} {l:Int×Int} {tq:Int}:∀(n:Nat) (p:Int) (u:List aP),wk T l tq n p=some u->∀v∈u,v∈T.map (·.1)
 | 0,_,_,h=>by cases h
 | n+1,p,u,h=>by
   simp only[wk] at h;split at h
   ·cases h;intro v hv;cases hv
   ·cases hl:dM T l p with
    | none=>rw[hl] at h;cases h
    | some x=>
      rw[hl] at h;simp only at h;split at h
      ·cases h
      ·obtain⟨v,hv,rfl⟩:=fR.1 h;intro a ha;rcases bJ.1 ha with rfl | ha
       ·exact bC.2 ⟨x,(iB hl).1,rfl⟩
       ·exact wU n _ v hv a ha
theorem sV {T:List aI} {x:aL}:∀v∈(cJ T x).1,v∈T.map (·.1):=by
 unfold cJ;by_cases ho:OrdP x
 ·rw[aK ho];cases hu:dS T x.2.1 x.2.2.2 x.2.2.1 with
  | none=>intro v hv;cases hv
  | some u=>exact wU _ _ _ hu
 ·rw[aF ho];intro v hv;cases hv
theorem zL {T:List aI} {x:aL} (h:(cJ T x).2=0):1<=x.1/\x.1<=3:=by
 unfold cJ at h;by_cases ho:OrdP x
 ·exact⟨ho.k1,ho.k3⟩
 ·rw[aF ho] at h;cases h
theorem pW {T:List aI} {k:Int} (hk:1<=k/\k<=3):∀(us:List aP) (out out':List aO),OutOK T out->(∀v∈us,v∈T.map (·.1))->eF k out us=some out'->OutOK T out'
 | [],out,out',ho,_,e=>by cases e;exact ho
 | v::us,out,out',ho,hu,e=>by
   simp only[eF] at e;split at e
   ·rename_i h0;exact pW hk us _ _ (ho.add h0 (hu v (bH ..)) hk) (λa ha=>hu a (bL _ ha)) e
   ·cases e
theorem qI {T:List aI}:∀(l:List aL) (i:Int) (out out':List aO),OutOK T out->dI T i out l=.inl out'->OutOK T out'
 | [],i,out,out',ho,e=>by cases e;exact ho
 | x::l,i,out,out',ho,e=>by
   simp only[dI] at e;split at e
   ·rename_i h0;cases ha:eF x.1 out (cJ T x).1 with
    | none=>rw[ha] at e;cases e
    | some o2=>
      rw[ha] at e;exact qI l _ _ _ (pW (zL h0) _ _ _ ho sV ha) e
   ·cases e
theorem lB {T:List aI}:OutOK T []:=⟨qgj,(λc hc=>by cases hc),(λc hc=>by cases hc)⟩
def dD (T:List aI) (out:List aO):List aO:=T.filterMap λx=>if aN out x.1=0 then none else some (x.1.1,(x.1.2,aN out x.1))
theorem J9 {T:List aI} {out:List aO} (ho:OutOK T out) (c:aO):c∈dD T out↔c∈out:=by
 unfold dD;rw[qK];constructor
 ·rintro ⟨x,hx,e⟩;split at e
  ·cases e
  ·rename_i h0;have:∃d∈out,aZ d=x.1:=by
    have:x.1∈out.map aZ:=by
     apply nJ;intro hn;exact h0 ((jL ho).2 hn)
    exact bC.1 this
   obtain⟨d,hd,ed⟩:=this;have hk:=mF ho.nd hd;rw[ed] at hk;rw[hk] at e;cases e;rw[<-ed];exact hd
 ·intro hc;obtain⟨x,hx,ex⟩:=bC.1 (ho.sub c hc);refine⟨x,hx,?_⟩;have hk:=mF ho.nd hc;have:=ho.k1 c hc;rw[ex,hk,aF (by omega)];rfl
theorem kJ {n:Int} (h:0<=n) (h2:n<=1000):RowKit.wrap64 n=n:=by unfold RowKit.wrap64;omega
theorem oK {w h:Nat} {T:List aI} (t:Tab w h T) (out:List aO):(dD T out).Pairwise λa b=>jP a b<0:=by
 have hp:T.Pairwise λx y=>x∈T/\y∈T/\(x.1.1<y.1.1\/x.1.1=y.1.1/\x.1.2<y.1.2):=by
  have:=pB.1 t.asc;rw[fV] at this ⊢;intro i j hi hj hij;exact⟨bX _,bX _,this i j hi hj hij⟩
 refine qff _ (λx y hxy a ha b hb=>?_) hp;obtain⟨hx,hy,hlt⟩:=hxy;have lx:=t.li hx;have ly:=t.li hy;split at ha<;>simp only[F7,reduceCtorEq,bA] at ha
 split at hb<;>simp only[F7,reduceCtorEq,bA] at hb
 subst ha hb;rw[mK];simp only;rw[kJ lx.e0 (by have:=lx.e2;omega),kJ ly.e0 (by have:=ly.e2;omega)];exact hlt
theorem pM {w h:Nat} {T:List aI} (t:Tab w h T) {out:List aO} (ho:OutOK T out):out.Perm (dD T out):=by
 have n1:out.Nodup:=E8 _ (λa b h e=>h (by rw[e])) ho.nd;have n2:(dD T out).Nodup:=(oK t out).imp λ{a b} h e=>by subst e;rw[mK] at h;omega
 exact(F0 n1 n2).2 λc=>(J9 ho c).symm
end X
end Go.Vm
namespace Go.Vm
namespace X
open W
section
variable {w h:Nat} {T:List aI}
theorem xR {x:aL} (h:¬OrdP x):cJ T x=([],1):=by unfold cJ;rw[aF h]
theorem xS {x:aL} (h:OrdP x):cJ T x=(match dS T x.2.1 x.2.2.2 x.2.2.1 with
 | none=>([],7)
 | some u=>(u,0)):=by
 unfold cJ;rw[aK h];try (cases dS T x.2.1 x.2.2.2 x.2.2.1<;>rfl)
abbrev iE:=Int×(Int×List aO)
noncomputable def gU (T:List aI) (w h:Nat) (l:List aL):iE×(Int×Int):=match dI T 0 [] l with
 | .inl out=>(((w:Int),((h:Int),dD T out)),(0,0))
 | .inr e=>((0,(0,[])),e)
def MapOK (out:List aO) (M:List (aP×Int)):Prop:=∀u,(eU UT K8 u M).getD 0=aN out u
theorem MapOK.add {out:List aO} (ho:OutOK T out) {M:List (aP×Int)} (hM:MapOK out M) {v:aP} {k:Int} (hv:aN out v=0):MapOK (out++[(v.1,(v.2,k))]) (kX UT K8 v k M):=λu=>by
 rw[vW,yG ho hv];by_cases e:u=v
 ·rw[aK e,aK e];rfl
 ·rw[aF e,aF e,hM u]
theorem jK {α:Type} {l:List α} {i:Nat} (hi:i<l.length):l.drop i=l[i]::l.drop (i+1):=iJ hi
theorem dZ {α:Type} {l:List α} {i:Nat} {d:α} (hi:i<l.length):l.getD ((i:Int).toNat) d=l[i]:=by
 rw[cK,gP,dE hi];rfl
end
end X
end Go.Vm
namespace Go.Vm
namespace X
open W
section
variable {w h:Nat} {T:List aI}
end
end X
end Go.Vm
namespace Go.Vm
namespace X
open W Go.RowKit
section
variable {w h:Nat} {T:List aI}
theorem L8 (T:List aI) (l:Int×Int) (p:Int):dM (T.filter λx=>decide (x.2.1.1=l.1)&&decide (x.2.1.2=l.2)) l p=dM T l p:=by
 unfold dM;rw[qgs]
 congr 1
 funext x
 unfold xE;cases decide (x.2.1.1=l.1)<;>cases decide (x.2.1.2=l.2)<;>simp
def gX (T:List aI) (l:Int×Int):Nat->Option aI:=λp=>dM T l (p:Int)
theorem L5 (T:List aI) (n:Nat) (l:Int×Int):t8 T n l=(List.range n).filterMap (gX T l):=by
 unfold t8
 congr 1
 funext p
 exact L8 T l p
def jB (T:List aI) (w h:Nat) (k c:Nat):List aI:=(List.range (2* (w+h)+1)).filterMap (gX T ((k:Int)+1,(c:Int)-(w:Int)))
def iH (T:List aI) (w h:Nat) (k:Nat):List aI:=(List.range (w+ (w+h)+1)).flatMap (jB T w h k)
theorem qY (T:List aI) (w h:Nat):eP T w h=(List.range 4).flatMap (iH T w h):=by
 unfold eP iH jB;simp only[L5]
theorem vI {l:Int×Int} {p:Nat} {x:aI} (e:gX T l p=some x):x∈T/\x.2.1=l/\x.2.2.1=p:=iB e
theorem vV {k c:Nat} {x:aI} (e:x∈jB T w h k c):x∈T/\x.2.1=((k:Int)+1,(c:Int)-(w:Int)):=by
 obtain⟨p,_,hp⟩:=qK.1 e;exact⟨(vI hp).1,(vI hp).2.1⟩
theorem vS {k:Nat} {x:aI} (e:x∈iH T w h k):x∈T/\x.2.1.1=(k:Int)+1:=by
 obtain⟨c,_,hc⟩:=iV.1 e;have:=vV hc;exact⟨this.1,by rw[this.2]⟩
theorem lX (t:Tab w h T) {x:aI}:x∈eP T w h↔x∈T:=by
 rw[qY];constructor
 ·intro e;obtain⟨k,_,hk⟩:=iV.1 e;exact(vS hk).1
 ·intro hx;have li:=t.li hx;have a1:=li.k1;have a2:=li.k4;have a3:=li.c0;have a4:=li.c1;have a5:=li.f0;have a6:=li.ft;have a7:=li.t1
  refine iV.2 ⟨(x.2.1.1-1).toNat,eZ.2 (by omega),iV.2 ⟨(x.2.1.2+w).toNat,eZ.2 (by omega),qK.2 ⟨x.2.2.1.toNat,eZ.2 (by omega),?_⟩⟩⟩;unfold gX;have e1:(((x.2.1.1-1).toNat:Nat):Int)+1=x.2.1.1:=by omega
  have e2:(((x.2.1.2+w).toNat:Nat):Int)-(w:Int)=x.2.1.2:=by omega
  have e3:((x.2.2.1.toNat:Nat):Int)=x.2.2.1:=by omega
  rw[e1,e2,e3];exact D4 t.key hx
def fP (p q:(Int×Int)×(Int×Int)):Prop:=p.1.1<q.1.1\/p.1.1=q.1.1/\(p.1.2<q.1.2\/p.1.2=q.1.2/\p.2.2<=q.2.1)
theorem vG {α:Type} {r:α->α->Bool} {P:α->Prop} (tr:∀x y z,P y->r x y=true->r y z=true->r x z=true):∀ {l:List α},(∀x∈l,P x)->iA r l=true->l.Pairwise λx y=>r x y=true
 | [],_,_=>List.Pairwise.nil
 | x::l,hP,h=>by
   simp only[iA,aW] at h;have ih:=vG tr (λy hy=>hP y (bL _ hy)) h.2;refine jH.2 ⟨λy hy=>?_,ih⟩;cases l with
   | nil=>cases hy
   | cons z l=>
     rcases bJ.1 hy with e | hy
     ·rw[e];exact h.1
     ·exact tr _ _ _ (hP z (bL _ bH)) h.1 ((jH.1 ih).1 y hy)
theorem wS (t:Tab w h T):(eP T w h).Pairwise λx y=>fP x.2 y.2:=by
 refine(vG (P:=λx=>x.2.2.1<x.2.2.2) (λx y z hy h1 h2=>?_) (λx hx=>(t.li ((lX t).1 hx)).ft) t.wk).imp λh=>vX.1 h
 rw[vX] at *;unfold Nx at *;omega
theorem T4 (t:Tab w h T):(eP T w h).Nodup:=by
 have hp:=wS t;have:(eP T w h).Pairwise λx y=>x∈eP T w h/\fP x.2 y.2:=by
  rw[fV] at hp ⊢;exact λi j hi hj hij=>⟨bX _,hp i j hi hj hij⟩
 refine this.imp λ{a b} ⟨hm,h⟩ e=>?_
 subst e;have:=(t.li ((lX t).1 hm)).ft;unfold fP at h;omega
theorem qZ (t:Tab w h T):(eP T w h).Perm T:=by
 have n2:T.Nodup:=E8 _ (λa b h e=>h (by rw[e])) t.ndU;exact(F0 (T4 t) n2).2 λc=>lX t
end
def goes (c e:aL):Prop:=c.1=e.1/\c.2.1=e.2.1/\c.2.2.2=e.2.2.1
instance (c e:aL):Decidable (goes c e):=by unfold goes;exact inferInstance
def stepG (s:List aL×Option aL) (e:aL):List aL×Option aL:=
 match s.2 with
 | none=>(s.1,if e.1≠0 then some e else none)
 | some c=>if e.1≠0/\goes c e then(s.1,some (c.1,(c.2.1,(c.2.2.1,e.2.2.2)))) else(s.1++[c],if e.1≠0 then some e else none)
def bI:List aL×Option aL->List aL->List aL
 | s,[]=>s.1++s.2.toList
 | s,e::l=>bI (stepG s e) l
theorem qS {out:List aL} {c:aL}:∀ {l:List aL},(∀e,l.head?=some e->¬goes c e)->bI (out,some c) l=bI (out++[c],none) l
 | [],_=>by simp[bI]
 | e::l,h=>by
   have:=h e rfl;simp only[bI,stepG,this,qiu,dR]
theorem nZ:∀(l:List aL) (out:List aL) (cur:Option aL),(∀e∈l,e.2.2.1<e.2.2.2)->l.Pairwise (λx y=>fP x.2 y.2)->(∀c,cur=some c->∀e∈l,fP c.2 e.2)->
  bI (out,cur) l=bI (out,cur) (l.filter λe=>decide (e.1≠0))
 | [],_,_,_,_,_=>rfl
 | e::l,out,cur,hf,hp,hc=>by
   obtain⟨hp1,hp2⟩:=jH.1 hp;have hf2:∀e∈l,e.2.2.1<e.2.2.2:=λx hx=>hf x (bL _ hx)
   have fe:=hf e bH;by_cases h0:e.1=0
   ·rw[qfh (by simp[h0])];cases cur with
    | none=>
      have es:stepG (out,none) e=(out,none):=by simp[stepG,h0]
      rw[bI,es];exact nZ l out none hf2 hp2 (λc h=>by cases h)
    | some c=>
      have es:stepG (out,some c) e=(out++[c],none):=by simp[stepG,h0]
      rw[bI,es,nZ l _ none hf2 hp2 (λc h=>by cases h)];refine(qS λv hv=>?_).symm;have hm:=E7 (by rw[hv];rfl:v∈(l.filter λe=>decide (e.1≠0)).head?);have hm:=(jS.1 hm).1;rintro ⟨g1,g2,g3⟩;have n1:=hc c rfl e bH;have n2:=hp1 v hm;have e1:c.2.1.1=v.2.1.1:=by rw[g2]
      have e2:c.2.1.2=v.2.1.2:=by rw[g2]
      unfold fP at n1 n2;omega
   ·rw[qfi (by simp[h0])];simp only[bI];rcases hs:stepG (out,cur) e with⟨o2,c2⟩
    refine nZ l o2 c2 hf2 hp2 λd hd v hv=>?_
    have n2:=hp1 v hv;have:d.2.1=e.2.1/\d.2.2.2=e.2.2.2:=by
     unfold stepG at hs;cases cur with
     | none=>
       simp only[ne_eq,h0,iK,cM,bK] at hs;rw[hd] at hs;cases hs.2;exact⟨rfl,rfl⟩
     | some c=>
       simp only[ne_eq,h0,iK,cM,true_and] at hs;split at hs
       ·rename_i g;simp only[bK] at hs;rw[hd] at hs;cases hs.2;exact⟨g.2.1,rfl⟩
       ·simp only[bK] at hs;rw[hd] at hs;cases hs.2;exact⟨rfl,rfl⟩
    have e1:d.2.1.1=e.2.1.1:=by rw[this.1]
    have e2:d.2.1.2=e.2.1.2:=by rw[this.1]
    unfold fP at n2 ⊢;omega
def kW (K:aP->Int) (l:List aI):List aL:=l.map λx=>(K x.1,x.2)
def bY (T:List aI) (w h:Nat) (K:aP->Int):List aL:=bI ([],none) (kW K (eP T w h))
end X
end Go.Vm
namespace Go.Vm
namespace X
open W Go.RowKit
theorem P8 {a:iE} (ha:a.2.2.length<=1000000) (u:aP):yY fuel (a,u)=some (aN a.2.2 u):=by
 apply Ret.eq;unfold yY;refine cS (λi:Int=>0<=i/\i<=a.2.2.length/\∀c∈a.2.2.take i.toNat,eE u c=false) (λi=>a.2.2.length-i.toNat) ?_ fuel 0 ⟨by omega,by omega,by simp⟩ (by simp only[fuel];omega);rintro i' rec ⟨i0,i1,hno⟩ hrec;obtain⟨i,rfl⟩:∃i:Nat,i'=(i:Int):=⟨i'.toNat,by omega⟩
 rw[cK] at hno;refine aD (λhlt=>?_) λhge=>?_
 ·have hlt:(i:Int)< (a.2.2.length:Int):=hlt;have hi:i<a.2.2.length:=by omega
  have hin:=aV i0 hlt;rw[dZ hi];have nx:eE u a.2.2[i]=false->Ret (aB (aR ((i:Int)+1)) (rec ((i:Int)+1))) λx=>x=aN a.2.2 u:=λhu=>by
   refine aA (aG (by omega) (by omega)) (hrec _ ⟨by omega,by omega,?_⟩ (by omega));rw[show((i:Int)+1).toNat=i+1 by omega,pU _ _ hi];intro c hc;rcases bU.1 hc with hc | hc
   ·exact hno c hc
   ·rw[cD.1 hc];exact hu
  refine aA hin (aD (λg1=>aA hin (aD (λg2=>aA hin (aS ?_)) λg2=>nx (by simp only[eE];simp[g2]))) λg1=>nx (by simp only[eE];simp[g1]));unfold aN;rw[jc8 hi hno (by simp only[eE];simp[g1,g2])]
 ·refine aS ?_;have hge:¬(i:Int)< (a.2.2.length:Int):=hge;rw[iM (by omega)] at hno;unfold aN;rw[mP.2 λc hc hq=>by rw[hno c hc] at hq;cases hq]
def enc:Option aL->Int×(Int×(Int×(Int×Int)))
 | none=>(0,(0,(0,(0,0))))
 | some c=>(c.1,(c.2.1.1,(c.2.1.2,(c.2.2.1,c.2.2.2))))
theorem qX {out:List aL} {c e:aL} (h0:e.1≠0) (hg:goes c e):stepG (out,some c) e=(out,some (c.1,(c.2.1,(c.2.2.1,e.2.2.2)))):=by simp only[stepG];rw[aK ⟨h0,hg⟩]
theorem wN {out:List aL} {c e:aL} (h0:e.1≠0) (hg:¬goes c e):stepG (out,some c) e=(out++[c],some e):=by simp only[stepG];rw[aF λh=>hg h.2,aK h0]
theorem R8 {out:List aL} {c e:aL} (h0:e.1=0):stepG (out,some c) e=(out++[c],none):=by simp only[stepG];rw[aF λh=>h.1 h0,aF λh=>h h0]
theorem oC {out:List aL} {e:aL} (h0:e.1≠0):stepG (out,none) e=(out,some e):=by simp only[stepG];rw[aK h0]
theorem R7 {out:List aL} {e:aL} (h0:e.1=0):stepG (out,none) e=(out,none):=by simp only[stepG];rw[aF λh=>h h0]
theorem qQ {n i:Nat} (h:i<n):(List.range n).drop i=i::(List.range n).drop (i+1):=by
 rw[jK (by simpa using h),pQ]
section
variable {w h:Nat} {T:List aI}
theorem zB (t:Tab w h T) (hw:1<=w/\w<=6) (hh:1<=h/\h<=6) {cr:List aO} (hcr:cr.length<=1000000):
  sP fuel ((w:Int),((h:Int),cr))=some (bY T w h (aN cr)):=by
 have hlen:=t.len hw.2 hh.2;have hwl:(eP T w h).length<=1000:=by rw[(qZ t).length_eq];exact hlen
 apply Ret.eq;unfold sP;rw[t.all,aC];have hX0:bI ([],none) (kW (aN cr) (((List.range 4).drop 0).flatMap (iH T w h)))=bY T w h (aN cr):=by
  rw[fW,<-qY];rfl
 have hL0:(((List.range 4).drop 0).flatMap (iH T w h)).length<=1000:=by
  rw[fW,<-qY];exact hwl
 generalize bY T w h (aN cr)=X at hX0 ⊢;generalize hK:aN cr=K at hX0;refine cS (λs:List aL×Int=>∃i:Nat,s.2=(i:Int)+1/\i<=4/\bI (s.1,none) (kW K (((List.range 4).drop i).flatMap (iH T w h)))=X/\s.1.length+ (((List.range 4).drop i).flatMap (iH T w h)).length<=1000) (λs=>5-s.2.toNat) ?_ fuel ([],1) ⟨0,rfl,by omega,hX0,by simpa using hL0⟩ (by simp only[fuel];omega);clear hX0 hL0;rintro ⟨out,k'⟩ rec ⟨i,hk,hi4,hX,hL⟩ hrec;simp only at hk hX hL;subst hk;refine aD (λhk4=>?_) λhk4=>?_
 rotate_left
 ·have:i=4:=by simp only at hk4;omega
  subst this;refine aS ?_;rw[<-hX,show(List.range 4).drop 4=[] from rfl];simp[bI,kW]
 have hi:i<4:=by simp only at hk4;omega
 rw[qQ hi,jD] at hX hL;generalize hRk:((List.range 4).drop (i+1)).flatMap (iH T w h)=Rk at hX hL;have hRkl:∀e∈Rk,e.2.1.1≠(i:Int)+1:=by
  intro e he;rw[<-hRk] at he;obtain⟨k,hk,he⟩:=iV.1 he;have:=(vS he).2;obtain⟨q,hq,e2⟩:=fH hk;rw[pO,pQ] at e2;omega
 refine aA (aG (by omega) (by omega)) ?_;refine cS (λs:List aL×Int=>∃j:Nat,s.2=(j:Int)-(w:Int)/\j<=w+ (w+h)+1/\bI (s.1,none) (kW K (((List.range (w+ (w+h)+1)).drop j).flatMap (jB T w h i)++Rk))=X/\s.1.length+ (((List.range (w+ (w+h)+1)).drop j).flatMap (jB T w h i)++Rk).length<=1000) (λs=>w+ (w+h)+1-(s.2+w).toNat) ?_ fuel (out, -(w:Int)) ⟨0,by simp,by omega,by rw[fW];exact hX,by rw[fW];exact hL⟩ (by simp only[fuel];omega);clear hX hL;rintro ⟨out,c'⟩ rec3 ⟨j,hc,hjm,hX,hL⟩ hrec3;simp only at hc hX hL;subst hc;have hz1:aR ((w:Int)+ (h:Int))=true:=aG (by omega) (by omega);have hz2:aR (2* ((w:Int)+ (h:Int)))=true:=aG (by omega) (by omega);refine aA hz1 (aD (λhjc=>?_) λhjc=>?_)
 rotate_left
 ·have:j=w+ (w+h)+1:=by simp only at hjc;omega
  subst this;have ed:(List.range (w+ (w+h)+1)).drop (w+ (w+h)+1)=[]:=lZ (by simp);rw[ed,qgz,fB] at hX hL;have e1:IntKind.u8.wrap ((i:Int)+1+1)=((i+1:Nat):Int)+1:=by
   have:i=0\/i=1\/i=2\/i=3:=by omega
   rcases this with rfl | rfl | rfl | rfl<;>rfl
  simp only;rw[e1];exact hrec _ ⟨i+1,rfl,by omega,by rw[hRk];exact hX,by rw[hRk];exact hL⟩ (by simp only;omega)
 have hj:j<w+ (w+h)+1:=by simp only at hjc;omega
 rw[qQ hj,jD,dX] at hX hL;generalize hRc:((List.range (w+ (w+h)+1)).drop (j+1)).flatMap (jB T w h i)++Rk=Rc at hX hL;have hRcl:∀e∈Rc,e.2.1≠((i:Int)+1,(j:Int)-(w:Int)):=by
  intro e he e0;rw[<-hRc] at he;rcases bU.1 he with he | he
  ·obtain⟨k,hk,he⟩:=iV.1 he;have:=(vV he).2;obtain⟨q,hq,e2⟩:=fH hk;rw[pO,pQ] at e2;rw[e0] at this;have:=congrArg Prod.snd this;simp only at this;omega
  ·exact hRkl e he (by rw[e0])
 have hl:jB T w h i j=(List.range (2* (w+h)+1)).filterMap (gX T ((i:Int)+1,(j:Int)-(w:Int))):=rfl;rw[hl] at hX hL;generalize hN:2* (w+h)+1=N at hX hL;generalize hline:((i:Int)+1,(j:Int)-(w:Int))=l at hX hL hRcl;refine cS (λs:List aL×(Int×(Int×(Int×(Int×(Int×Int)))))=>∃(p:Nat) (cur:Option aL),s.2.1=(p:Int)/\p<=N/\s.2.2=enc cur/\(∀c,cur=some c->c.1≠0/\c.2.1=l)/\bI (s.1,cur) (kW K (((List.range N).drop p).filterMap (gX T l)++Rc))=X/\s.1.length+cur.toList.length+ (((List.range N).drop p).filterMap (gX T l)++Rc).length<=1000) (λs=>N-s.2.1.toNat) ?_ fuel _ ⟨0,none,rfl,by omega,rfl,(λc h=>by cases h),by rw[fW];exact hX,by rw[fW];simpa using hL⟩ (by simp only[fuel];omega);clear hX hL;rintro ⟨out,p',x⟩ rec4 ⟨p,cur,hp,hpN,hx,hcur,hX,hL⟩ hrec4;simp only at hp hx hX hL;subst hp hx;refine aA hz1 (aA hz2 (aD (λhat=>?_) λhat=>?_))
 rotate_left
 ·have:p=N:=by simp only at hat;omega
  subst this;have ed:(List.range p).drop p=[]:=lZ (by simp);rw[ed,qgf,fB] at hX hL;have nx:∀out2:List aL,bI (out2,none) (kW K Rc)=X->out2.length+Rc.length<=1000->Ret (aB (aR ((j:Int)-(w:Int)+1)) (rec3 (out2,(j:Int)-(w:Int)+1))) λx=>x=X:=λout2 h1 h2=>by
   refine aA (aG (by omega) (by omega)) (hrec3 _ ⟨j+1,by simp only;omega,by omega,?_,?_⟩ (by simp only;omega))
   ·rw[hRc];exact h1
   ·rw[hRc];exact h2
  cases cur with
  | none=>exact aD (λg=>absurd rfl g) λ_=>nx _ hX (by simpa using hL)
  | some c=>
    have hc:=hcur c rfl;have hfl:bI (out++[c],none) (kW K Rc)=X:=by
     rw[<-hX];refine(qS λe he hg=>?_).symm;have hm:=E7 (by rw[he];rfl:e∈(kW K Rc).head?);obtain⟨y,hy,rfl⟩:=bC.1 hm;exact hRcl y hy (by rw[<-hc.2];exact hg.2.1.symm)
    refine aD (λ_=>aA (eT ?_) (nx _ hfl ?_)) λg=>absurd hc.1 g
    ·simp only[jU,dU] at hL;simp only;omega
    ·simp only[jU,dU,cZ] at hL ⊢;omega
 have hp:p<N:=by simp only at hat;omega
 rw[qQ hp,rL] at hX hL;generalize hR:((List.range N).drop (p+1)).filterMap (gX T l)=R at hX hL;rw[T7 (by omega),aC]
 have next:∀(out2:List aL) (cur2:Option aL),(∀c,cur2=some c->c.1≠0/\c.2.1=l)->bI (out2,cur2) (kW K (R++Rc))=X->out2.length+cur2.toList.length+ (R++Rc).length<=1000->
   Ret (aB (aR ((p:Int)+1)) (rec4 (out2,((p:Int)+1,enc cur2)))) λx=>x=X:=λout2 cur2 h1 h2 h3=>
  aA (aG (by omega) (by omega)) (hrec4 _ ⟨p+1,cur2,by simp,by omega,rfl,h1,by rw[hR];exact h2,by rw[hR];exact h3⟩ (by simp only;omega))
 have ea:gX T l p=dM T l (p:Int):=rfl;rw[ea] at hX hL;cases hlk:dM T l (p:Int) with
 | none=>
   rw[hlk] at hX hL;simp only at hX hL ⊢;exact aD (λ_=>next out cur hcur hX hL) λg=>absurd trivial g
 | some y=>
   obtain⟨hy,hyl,hyp⟩:=iB hlk;rw[hlk] at hX hL;simp only[fN,cL] at hX hL ⊢;refine aD (λg=>absurd g (by decide)) λ_=>?_
   rw[show((y.1.1,y.1.2):aP)=y.1 from rfl,P8 (a:=((w:Int),((h:Int),cr))) hcr,aC,hK];have hX2:bI (stepG (out,cur) (K y.1,y.2)) (kW K (R++Rc))=X:=hX;have hnew:∀c:aL,some ((K y.1,(l,((p:Int),y.2.2.2))):aL)=some c->K y.1≠0->c.1≠0/\c.2.1=l:=λc e h0=>by cases e;exact⟨h0,rfl⟩
   have ey:((K y.1,y.2):aL)=(K y.1,(l,((p:Int),y.2.2.2))):=by rw[<-hyl,<-hyp]
   rw[ey] at hX2;subst hline;cases cur with
   | none=>
     simp only[pR,iD] at hL;refine aD (λhn=>?_) λhn=>?_
     ·rw[oC hn] at hX2;refine aD (λg=>absurd g.symm hn) λ_=>aD (λg=>absurd rfl g) λ_=>aD (λ_=>?_) λg=>absurd hn g
      exact next out (some _) (λc e=>hnew c e hn) hX2 (by simp only[jU,dU];omega)
     ·have hn:K y.1=0:=by simpa using hn
      rw[R7 hn] at hX2;refine aD (λg=>absurd rfl g) λ_=>aD (λg=>absurd hn g) λ_=>?_
      exact next out none (λc e=>by cases e) hX2 (by simp only[pR,iD];omega)
   | some c=>
     obtain⟨hc1,hc2⟩:=hcur c rfl;simp only[jU,dU] at hL;have hlk1:gA (out.length+1)=true:=eT (by omega);have hl1:(out++[c]).length=out.length+1:=by simp
     have flush1:K y.1≠0->¬goes c (K y.1,(((i:Int)+1,(j:Int)-(w:Int)),((p:Int),y.2.2.2)))->Ret (aB (aR ((p:Int)+1)) (rec4 (out++[c],((p:Int)+1,enc (some (K y.1,(((i:Int)+1,(j:Int)-(w:Int)),((p:Int),y.2.2.2)))))))) λx=>x=X:=λhn hg=>by
      rw[wN hn hg] at hX2;exact next _ (some _) (λc e=>hnew c e hn) hX2 (by simp only[jU,dU];omega)
     refine aD (λhn=>?_) λhn=>?_
     ·refine aD (λg1=>?_) λg1=>?_
      ·refine aD (λg2=>?_) λg2=>?_
       ·rw[qX hn ⟨g1,hc2,g2⟩] at hX2;exact next out (some _) (λd e=>by cases e;exact⟨hc1,hc2⟩) hX2 (by simp only[jU,dU];omega)
       ·refine aD (λ_=>aA hlk1 (aD (λ_=>?_) λg=>absurd hn g)) λg=>absurd hc1 g
        exact flush1 hn λg=>g2 g.2.2
      ·refine aD (λ_=>aA hlk1 (aD (λ_=>?_) λg=>absurd hn g)) λg=>absurd hc1 g
       exact flush1 hn λg=>g1 g.1
     ·have hn:K y.1=0:=by simpa using hn
      refine aD (λ_=>aA hlk1 (aD (λg=>absurd hn g) λ_=>?_)) λg=>absurd hc1 g
      rw[R8 hn] at hX2;exact next (out++[c]) none (λc e=>by cases e) hX2 (by simp only[pR,iD];omega)
end
end X
end Go.Vm
namespace Go.Vm
namespace X
open W Go.RowKit
section
variable {w h:Nat} {T:List aI}
theorem L4 (t:Tab w h T) {x:aI} (hx:x∈T):Q8 fuel (((w:Int),(h:Int)),x.1)=some ((x.2.1,x.2.2.1),x.2.2.2):=by
 have:=cI.1 t.lie x hx;unfold D3 at this;split at this
 ·rename_i r hr;rw[show((x.1.1,x.1.2):aP)=x.1 from rfl] at hr;rw[hr];simp only[aW,aQ] at this;obtain⟨⟨⟨a1,a2⟩,a3⟩,a4⟩:=this;rw[show r=((r.1.1,r.1.2),r.2) from rfl,show r.1.1=x.2.1 from iN a1 a2,a3,a4]
 ·cases this
def fK (T:List aI) (c:aO):aL:=(c.2.2,((T.find? λx=>decide (x.1=aZ c)).map (·.2)).getD ((0,0),(0,0)))
theorem wH (t:Tab w h T) {c:aO} {x:aI} (hx:x∈T) (e:x.1=aZ c):fK T c=(c.2.2,x.2):=by
 unfold fK;have:T.find? (λx=>decide (x.1=aZ c))=some x:=by
  cases hf:T.find? (λx=>decide (x.1=aZ c)) with
  | none=>exact absurd (by simpa using e) (mP.1 hf x hx)
  | some y=>
    have h1:=tK hf;have h2:=tM hf;rw[t.unitInj h1 hx (by rw[e];simpa using h2)]
 rw[this];rfl
def dY (T:List aI) (w h:Nat) (K:aP->Int):List aL:=(kW K (eP T w h)).filter λe=>decide (e.1≠0)
theorem vR (t:Tab w h T) (K:aP->Int):(kW K (eP T w h)).Pairwise λx y=>fP x.2 y.2:=pB.2 (wS t)
theorem qC (t:Tab w h T) {K:aP->Int} {e:aL} (he:e∈kW K (eP T w h)):∃x∈T,e=(K x.1,x.2):=by
 obtain⟨x,hx,rfl⟩:=bC.1 he;exact⟨x,(lX t).1 hx,rfl⟩
theorem qV (t:Tab w h T) (K:aP->Int):bY T w h K=bI ([],none) (dY T w h K):=
 nZ _ _ _ (λe he=>by obtain⟨x,hx,rfl⟩:=qC t he;exact(t.li hx).ft) (vR t K) (λc h=>by cases h)
theorem wI (t:Tab w h T) (K:aP->Int):(dY T w h K).Pairwise λa b=>jJ a b<0:=by
 have hp:(dY T w h K).Pairwise λx y=>fP x.2 y.2:=(vR t K).filter _
 have:(dY T w h K).Pairwise λx y=>(x∈dY T w h K/\y∈dY T w h K)/\fP x.2 y.2:=by
  rw[fV] at hp ⊢;exact λi j hi hj hij=>⟨⟨bX _,bX _⟩,hp i j hi hj hij⟩
 refine this.imp λ{a b} ⟨⟨ha,hb⟩,hn⟩=>?_
 obtain⟨x,hx,rfl⟩:=qC t (jS.1 ha).1;obtain⟨y,hy,rfl⟩:=qC t (jS.1 hb).1;have lx:=t.li hx;have ly:=t.li hy;have b1:=lx.ft;rw[xX];simp only;rw[kJ (by have:=lx.k1;omega) (by have:=lx.k4;omega),kJ (by have:=ly.k1;omega) (by have:=ly.k4;omega)];unfold fP at hn;simp only at hn;omega
theorem pZ {α β:Type} {f g:α->Option β}:∀ {l:List α},(∀x∈l,f x=g x)->l.filterMap f=l.filterMap g
 | [],_=>rfl
 | x::l,h=>by
   rw[rL,rL,h x bH,pZ λy hy=>h y (bL _ hy)]
theorem qU (t:Tab w h T) {cr:List aO} (ho:OutOK T cr):(cr.map (fK T)).Perm (dY T w h (aN cr)):=by
 have h1:((dD T cr).map (fK T)).Perm (dY T w h (aN cr)):=by
  have e:(dD T cr).map (fK T)=(kW (aN cr) T).filter λe=>decide (e.1≠0):=by
   unfold dD kW;rw[qgg,G0,<-qfp,<-qfa,qfb];refine pZ λx hx=>?_
   by_cases h0:aN cr x.1=0
   ·simp[h0,Option.guard]
   ·simp only[h0,dR,iS,Option.guard,uR,ne_eq,iK,aU,cM,aC];rw[wH t hx rfl];try rfl
  rw[e];exact((qZ t).symm.map _).filter _
 exact((pM t ho).map _).trans h1
theorem wL (t:Tab w h T) {cr:List aO} (ho:OutOK T cr):sortC jJ (cr.map (fK T))=dY T w h (aN cr):=by
 have hs:=wI t (aN cr);have hp:=(sT jJ (cr.map (fK T))).trans (qU t ho);refine tP jJ (λx hx y hy h1 h2=>?_) (A5 jJ jcd _) (hs.imp λ{a b} h c=>by rw[xX] at *;omega) hp;have hx:=hp.subset hx;have hy:=hp.subset hy;obtain⟨i,hi,rfl⟩:=fH hx;obtain⟨j,hj,rfl⟩:=fH hy;rw[fV] at hs;rcases oN i j with g | g | g
 ·exact absurd (hs i j hi hj g) h1
 ·subst g;rfl
 ·exact absurd (hs j i hj hi g) h2
theorem N0 (t:Tab w h T) {cr:List aO} (ho:OutOK T cr):pN (cr.map (fK T))=true:=by
 unfold pN;rw[wL t ho];exact E6 (wI t _)
theorem Q4 {K:aP->Int} {e:aL} (he:e∈dY T w h K):e.1≠0:=by
 have:=(jS.1 he).2;simpa using this
theorem lR {α:Type} (l:List α) (n:Nat):(l.drop n).take (l.length-n)=l.drop n:=iM (by simp)
theorem I0 (t:Tab w h T) (hw:1<=w/\w<=6) (hh:1<=h/\h<=6) {cr:List aO} (hck:qJ fuel ((w:Int),((h:Int),cr))=some 0) (ho:OutOK T cr):
  mH fuel ((w:Int),((h:Int),cr))=some (bY T w h (aN cr),0):=by
 have hlen:=ho.len t hw.2 hh.2;apply Ret.eq;unfold mH;rw[show(((w:Int),((h:Int),cr)).1,(((w:Int),((h:Int),cr)).2.1,((w:Int),((h:Int),cr)).2.2))=((w:Int),((h:Int),cr)) from rfl,hck,aC];refine aD (λg=>absurd rfl g) λ_=>?_
 refine aA (by simp only[aW,aQ];omega) ?_;refine cS (λs:List aL×Int=>∃n:Nat,s.2=(n:Int)/\n<=cr.length/\s.1=(cr.take n).map (fK T)) (λs=>cr.length-s.2.toNat) ?_ fuel ([],0) ⟨0,rfl,by omega,by simp⟩ (by simp only[fuel];omega);rintro ⟨all,n'⟩ rec ⟨n,hn,hnl,hall⟩ hrec;simp only at hn hall;subst hn hall;refine aD (λhlt=>?_) λhge=>?_
 ·have hlt:(n:Int)< (cr.length:Int):=hlt;have hi:n<cr.length:=by omega
  have hin:bB (n:Int) cr.length=true:=aV (by omega) hlt;refine aA hin ?_;simp only;rw[dZ hi];obtain⟨x,hx,ex⟩:=bC.1 (ho.sub cr[n] (bX hi));rw[show((cr[n].1,cr[n].2.1):aP)=x.1 from ex.symm,L4 t hx,aC];refine aA (eT (by simp only[cY,nM];omega)) (aA (aG (by omega) (by omega)) (hrec _ ⟨n+1,by simp,hi,?_⟩ (by simp only;omega)));simp only;rw[pU _ _ hi,eI,qgh,wH t hx ex]
 have hge:¬(n:Int)< (cr.length:Int):=hge;have:n=cr.length:=by omega
 subst this;have eS:xO fuel (((cr.take cr.length).map (fK T),none),((),()))=some ((),((dY T w h (aN cr),none),((),()))):=by
  unfold xO;have e1:(Nat.ble (List.length (α:=aL) ((cr.take cr.length).map (fK T))) 1000000&&pN ((cr.take cr.length).map (fK T)))=true:=by
   rw[iL,N0 t ho,rN,qik,cY];omega
  have e2:=e1;simp only at e1 ⊢;rw[e1,iL,wL t ho];rfl
 rw[eS,aC];have hX0:=qV t (aN cr);have hL0:(dY T w h (aN cr)).length<=1000:=by rw[<-(qU t ho).length_eq,cY];exact hlen
 have hN0:∀e∈dY T w h (aN cr),e.1≠0:=λe he=>Q4 he
 simp only;generalize bY T w h (aN cr)=X at hX0 ⊢;generalize dY T w h (aN cr)=F at hX0 hL0 hN0 ⊢;refine cS (λs:List aL×List aL=>(∀e∈s.1,e.1≠0)/\bI (s.2,none) s.1=X/\s.2.length+s.1.length<=1000) (λs=>s.1.length) ?_ fuel (F,[]) ⟨hN0,hX0.symm,by simpa using hL0⟩ (by simp only[fuel];omega);clear hX0 hL0 hN0 eS hrec rec;rintro ⟨all,out⟩ rec5 ⟨hN,hX,hL⟩ hrec5;simp only at hN hX hL;cases all with
 | nil=>
   refine aD (λg=>absurd g (by simp)) λ_=>?_
   simp only[bI,pR,kO] at hX;subst hX;have hb:cU 0 (out.length:Int) out.length=true:=by unfold cU;simp
   refine aA (by simp only[aW,aQ];exact⟨⟨hb,by omega⟩,by omega⟩) (aA ?_ (aS ?_))
   ·simp[kV]
   ·simp
 | cons x r=>
   have hb:∀n:Nat,n+1<=(x::r).length->cU ((n:Int)+1) ((x::r).length:Int) (x::r).length=true:=λn hn=>by
    unfold cU;simp only[aW,aQ];omega
   refine aD (λ_=>?_) λg=>absurd (by simp only[cL];omega) g
   refine aA (aV (by omega) (by simp only[cL];omega)) (aA (hb 0 (by simp)) ?_);generalize hA:x::r=A at hb hrec5 hN hX hL;have hAl:1<=A.length:=by rw[<-hA];simp
   refine cS (λs:Int×(Int×(Int×(Int×(Int×(Int×Int)))))=>∃(n:Nat) (y:aL),s=((n:Int)+1,((n:Int),enc (some y)))/\n+1<=A.length/\y.1≠0/\bI (out,some y) (A.drop (n+1))=X) (λs=>A.length-s.1.toNat) ?_ fuel _ ⟨0,x,by rw[<-hA];rfl,hAl,hN x (by rw[<-hA];simp),?_⟩ (by simp only[fuel];omega)
   rotate_left
   ·rw[<-hA] at hX ⊢;rw[<-hX];have:=hN x (by rw[<-hA];simp);rw[bI,oC this];rfl
   rintro s rec6 ⟨n,y,rfl,hn,hy,hXn⟩ hrec6;have ex:bI (out++[y],none) (A.drop (n+1))=X->Ret (aB (gA (out.length+1)) (aB (cU ((n:Int)+1) (A.length:Int) A.length) (rec5 (((A.drop ((n:Int)+1).toNat).take (A.length-((n:Int)+1).toNat)),(out++[y]))))) λx=>x=(X,0):=λhx=>by
    refine aA (eT (by omega)) (aA (hb n hn) (hrec5 _ ⟨?_,?_,?_⟩ ?_))
    ·intro e he;simp only[lR] at he;exact hN e (rM he)
    ·simp only[lR];rw[show((n:Int)+1).toNat=n+1 by omega];exact hx
    ·simp only[lR,cZ,dU,mA];omega
    ·simp only[lR,mA];omega
   have hd1:(A.drop 1).take (A.length-1)=A.drop 1:=lR A 1;have hdl:((A.drop 1).take (A.length-1)).length=A.length-1:=by rw[hd1,mA]
   refine aD (λhlt=>?_) λhge=>?_
   ·have hlt:(n:Int)< (((A.drop 1).take (A.length-1)).length:Int):=hlt;have hn2:n+1<A.length:=by omega
    refine aA (aV (qfu n) hlt) ?_;have hg:((A.drop 1).take (A.length-1)).getD ((n:Int).toNat) (0,((0,0),(0,0)))=A[n+1]:=by
     rw[dZ (by omega)];simp only[hd1,pO]
     congr 1
     omega
    have hd:=jK hn2;have fl:¬goes y A[n+1]->bI (out++[y],none) (A.drop (n+1))=X:=λhg=>by
     rw[<-hXn];exact(qS λe he=>by rw[hd] at he;cases he;exact hg).symm
    rw[hd] at hXn;simp only;rw[hg];generalize A[n+1]=z at hXn hg fl ⊢;refine aD (λg=>ex (fl λh=>g h.1.symm)) λg1=>?_
    refine cV (λg=>ex (fl λh=>?_)) λg2=>?_
    ·have e1:z.2.1.1=y.2.1.1:=by rw[h.2.1]
     have e2:z.2.1.2=y.2.1.2:=by rw[h.2.1]
     simp[enc,e1,e2] at g
    refine aD (λg=>ex (fl λh=>g h.2.2.symm)) λg3=>?_
    have g1:z.1=y.1:=iF.1 g1;have g3:z.2.2.1=y.2.2.2:=iF.1 g3;have g2:z.2.1.1=y.2.1.1/\z.2.1.2=y.2.1.2:=by
     by_cases u1:z.2.1.1=y.2.1.1<;>by_cases u2:z.2.1.2=y.2.1.2<;>simp[enc,u1,u2] at g2 ⊢
    have hgo:goes y z:=⟨g1.symm,iN g2.1.symm g2.2.symm,g3.symm⟩
    have hz:z.1≠0:=by rw[g1];exact hy
    rw[bI,qX hz hgo] at hXn;exact aA (aG (by omega) (by omega)) (aA (aG (by omega) (by omega)) (hrec6 _ ⟨n+1,(y.1,(y.2.1,(y.2.2.1,z.2.2.2))),by simp[enc],hn2,hy,hXn⟩ (by simp only;omega)))
   ·have hge:¬(n:Int)< (((A.drop 1).take (A.length-1)).length:Int):=hge;refine ex ?_;rw[<-hXn];have:A.drop (n+1)=[]:=lZ (by omega);rw[this];simp[bI]
end
end X
end Go.Vm
namespace Go.Vm
namespace X
open W Go.RowKit Go.Proofs.Un
section
variable {w h:Nat} {T:List aI}
theorem M0:In.sheets_Neighbour=sheets_Neighbour:=rfl
theorem J1:In.sheets_Count=sheets_Count:=rfl
theorem vU:∀(l acc:List aP),acc.length+l.length<=1000->
  fZ (fun(x2:((List (Int×Int))×Unit))=>aB (cU 0 ((x2.1.length:Nat):Int) x2.1.length&&decide (((x2.1.length:Nat):Int)<=((x2.1.length:Nat):Int))&&decide (((x2.1.length:Nat):Int)<=((x2.1.length:Nat):Int))) (aB ((Nat.beq 0 0)&&(kV (some x2.1.length) (x2.1.take x2.1.length).length)) (some ((x2.1.take x2.1.length),(0:Int))))) (λy2 rec2 x2=>aB (gA (x2.1.length+1)) (rec2 ((x2.1++[(y2.1,y2.2)]),()))) l (acc,())=some (acc++l,0)
 | [],acc,_=>by
   simp[fZ,aB,cU,kV]
 | y::l,acc,h=>by
   simp only[cL] at h;simp only[fZ];rw[eT (by omega),vU l (acc++[(y.1,y.2)]) (by simp only[cZ,dU];omega)];simp[aB]
theorem H4 (hw:1<=w/\w<=6) (hh:1<=h/\h<=6):sheets_Count fuel ((w:Int),(h:Int))=some ((4*w*h:Nat):Int):=by
 have hwh:w*h<=6*6:=gL hw.2 hh.2;have e:4* (w:Int)* (h:Int)=((4*w*h:Nat):Int):=by simp
 have e2:4*w*h=4* (w*h):=nN _ _ _;unfold sheets_Count;simp only;rw[kR hw hh,aC];simp only[ne_eq,gQ,aT,aJ];rw[e,aG (by omega) (by omega),aG (by omega) (by omega)];rfl
theorem wQ (t:Tab w h T) (hw:1<=w/\w<=6) (hh:1<=h/\h<=6) {u:aP}:u∈T.map (·.1)↔∃i,i<12*w*h/\lI w h i=true/\u=(((i / 3:Nat):Int),((i%3:Nat):Int)):=by
 have hwh:w*h<=6*6:=gL hw.2 hh.2;have e2:12*w*h=12* (w*h):=nN _ _ _;have e3:4*w*h=4* (w*h):=nN _ _ _;have hu:=t.us;unfold Y1 at hu;simp only at hu;rw[kR hw hh,aC] at hu;simp only[ne_eq,gQ,aT,aJ] at hu;cases hr:xQ (((w:Int),(h:Int)),()) with
 | none=>rw[hr] at hu;cases hu
 | some L=>
   have hL:L=(oW w h (12*w*h)).map fun(i:Nat)=>(((i / 3:Nat):Int),((i%3:Nat):Int)):=by
    unfold xQ at hr;rw[J1] at hr;simp only at hr;rw[H4 hw hh] at hr;simp only[cK] at hr;rw[show 3* (4*w*h)=12*w*h by omega] at hr;cases hk:okU (w:Int) (h:Int) ((4*w*h:Nat):Int) with
    | true=>rw[hk] at hr;exact(lV hr).symm
    | false=>rw[hk] at hr;cases hr
   have hLl:L.length<=1000:=by
    rw[hL,cY];have:=qfq (lI (w:Int) (h:Int)) (List.range (12*w*h));unfold oW;rw[qgt] at this;omega
   rw[hr,aC,vU L [] (by simpa using hLl)] at hu;have hT:T.map (·.1)=L:=by simpa using hu.symm
   rw[hT,hL];unfold oW;simp only[bC,jS,eZ];constructor
   ·rintro ⟨i,⟨h1,h2⟩,rfl⟩;exact⟨i,h1,h2,rfl⟩
   ·rintro ⟨i,h1,h2,rfl⟩;exact⟨i,⟨h1,h2⟩,rfl⟩
theorem qG (t:Tab w h T) {i:Nat} (hi:i<12*w*h):∃n er,sheets_Neighbour fuel (((w:Int),(h:Int)),(((i / 3:Nat):Int),((i%3:Nat):Int)))=some (n,er)/\D5 w h i=some (n,er)/\(er≠0\/n≠((i / 3:Nat):Int)):=by
 have:=cI.1 t.nb i (eZ.2 hi);unfold jdk at this;split at this
 ·rename_i n er hn;refine⟨n,er,?_,hn,by simpa using this⟩;rw[<-M0];exact hn
 ·cases this
theorem H9 (t:Tab w h T) (hw:1<=w/\w<=6) (hh:1<=h/\h<=6) {u:aP} (hu:u∈T.map (·.1)):kS fuel (((w:Int),(h:Int)),u)=some (u,0):=by
 obtain⟨i,hi,hp,rfl⟩:=(wQ t hw hh).1 hu;obtain⟨n,er,h1,h2,h3⟩:=qG t hi;unfold lI at hp;rw[h2] at hp;simp only[aW,aQ] at hp;obtain⟨rfl,hp⟩:=hp;unfold kS;simp only;rw[h1,aC];simp only[ne_eq,gQ,aT,aJ];rw[show min (((i / 3:Nat):Int)) n=((i / 3:Nat):Int) by omega]
theorem H8 (t:Tab w h T) (hw:1<=w/\w<=6) (hh:1<=h/\h<=6) {u:aP} (h0:0<=u.2) (hu:u∉T.map (·.1)):∃r,kS fuel (((w:Int),(h:Int)),u)=some r/\(r.2≠0\/r.1.1≠u.1):=by
 have hwh:w*h<=6*6:=gL hw.2 hh.2;have e2:12*w*h=12* (w*h):=nN _ _ _;have e3:4*w*h=4* (w*h):=nN _ _ _;have e:4* (w:Int)* (h:Int)=((4*w*h:Nat):Int):=by simp
 by_cases hc:0<=u.1/\u.1< ((4*w*h:Nat):Int)
 rotate_left
 ·
  have hcell:pG fuel (((w:Int),(h:Int)),u.1)=some ((0,(0,0)),7):=by
   unfold pG;simp only;rw[kR hw hh,aC];simp only[ne_eq,gQ,aT,aJ];by_cases g:0<=u.1
   ·have:¬u.1< ((4*w*h:Nat):Int):=λh=>hc ⟨g,h⟩
    rw[e,aG (by omega) (by omega),aG (by omega) (by omega)];simp only[aB,aH,g,aU,this,aT,wF]
   ·simp only[g,aT,aJ]
  refine⟨((0,0),7),?_,.inl (by decide)⟩;unfold kS sheets_Neighbour;simp only;rw[hcell,aC];rfl
 obtain⟨hc0,hc1⟩:=hc;by_cases he:2<u.2
 ·
  obtain⟨n,er,h1,_,_⟩:=qG t (i:=3*u.1.toNat) (by omega);rw[show(((3*u.1.toNat / 3:Nat):Nat):Int)=u.1 by omega] at h1;unfold sheets_Neighbour at h1;simp only at h1;cases hcl:pG fuel (((w:Int),(h:Int)),u.1) with
  | none=>rw[hcl] at h1;cases h1
  | some r1=>
    unfold kS sheets_Neighbour;simp only;rw[hcl,aC];by_cases g:r1.2=0
    ·have hcn:sY fuel ((r1.1.1,(r1.1.2.1,r1.1.2.2)),u.2)=some ((0,(0,0)),1):=by
      unfold sY;simp only[he,aU,aH];cases decide (r1.1.1 < -4096)<;>cases decide (4096<r1.1.1)<;>cases decide (r1.1.2.1 < -4096)<;>cases decide (4096<r1.1.2.1)<;>cases decide (3<r1.1.2.2)<;>rfl
     simp only[g,ne_eq,gQ,aT,aJ];rw[hcn,aC];exact⟨_,rfl,.inl (by decide)⟩
    ·simp only[g,ne_eq,iK,aU,aH,aC];exact⟨_,rfl,.inl g⟩
 obtain⟨n,er,h1,h2,h3⟩:=qG t (i:=3*u.1.toNat+u.2.toNat) (by omega);have ei:(((3*u.1.toNat+u.2.toNat) / 3:Nat):Int)=u.1:=by omega
 have ej:(((3*u.1.toNat+u.2.toNat)%3:Nat):Int)=u.2:=by omega
 rw[ei,ej] at h1;rw[ei] at h3;unfold kS;simp only;rw[h1,aC];by_cases g:er=0
 ·subst g;simp only[ne_eq,gQ,aT,aJ];refine⟨_,rfl,.inr ?_⟩;have hnp:¬u.1<n:=λhn=>hu ((wQ t hw hh).2 ⟨3*u.1.toNat+u.2.toNat,by omega,by unfold lI;rw[h2];simp only[aU,sK,aQ];omega,iN ei.symm ej.symm⟩)
  have h3:n≠u.1:=h3.resolve_left (by simp);simp only;omega
 ·simp only[g,ne_eq,iK,aU,aH];exact⟨_,rfl,.inl g⟩
end
end X
end Go.Vm
namespace Go.Vm
namespace X
open W Go.RowKit Go.Proofs.Un
def gM (c:aO):Prop:=1<=c.2.2/\c.2.2<=3
def gF (u v:aP):Prop:=u.1<v.1\/u.1=v.1/\u.2<v.2
def jF (cr:List aO) (n:Nat):Prop:=∀j (h:j+1<cr.length),j+1<n->gF (aZ cr[j]) (aZ cr[j+1])
open Classical in
noncomputable def jQ (T:List aI) (cr:List aO):Int:=if ∀c∈cr,gM c then(if ∀c∈cr,aZ c∈T.map (·.1) then(if jF cr cr.length then 0 else 6) else 7) else 1
section
variable {w h:Nat} {T:List aI}
theorem tC {α:Type} {l:List α} {i:Nat} (hi:i<l.length) {c:α} (hc:c∈l.take (i+1)):c∈l.take i\/c=l[i]:=by
 rw[pU _ _ hi] at hc;rcases bU.1 hc with hc | hc
 ·exact .inl hc
 ·exact .inr (cD.1 hc)
theorem G9 {cr:List aO} (hl:cr.length<=1000000):∃b,zG fuel (cr,())=some b/\(b=false↔∀c∈cr,gM c):=by
 have:∃r,sB fuel (cr,())=some r/\(r<0↔∀c∈cr,gM c):=by
  suffices hs:Ret (sB fuel (cr,())) λr=>(r<0↔∀c∈cr,gM c) from hs.imp λr h=>h
  unfold sB;refine cS (λi:Int=>0<=i/\i<=cr.length/\∀c∈cr.take i.toNat,gM c) (λi=>cr.length-i.toNat) ?_ fuel 0 ⟨by omega,by omega,by simp⟩ (by simp only[fuel];omega);rintro i' rec ⟨i0,i1,hno⟩ hrec;obtain⟨i,rfl⟩:∃i:Nat,i'=(i:Int):=⟨i'.toNat,by omega⟩
  rw[cK] at hno;refine aD (λhlt=>?_) λhge=>?_
  ·have hlt:(i:Int)< (cr.length:Int):=hlt;have hi:i<cr.length:=by omega
   refine aA (aV i0 hlt) ?_;simp only;rw[dZ hi];have bad:¬gM cr[i]->((i:Int)<0↔∀c∈cr,gM c):=λhb=>⟨λg=>absurd g (by omega),λg=>absurd (g _ (bX hi)) hb⟩
   refine aD (λg1=>cV (λg2=>aS (bad ?_)) λg2=>?_) λg1=>aS (bad λg=>g1 g.1)
   ·intro g;have:=g.2;simp[this] at g2
   ·have hk:gM cr[i]:=⟨g1,by simpa using g2⟩
    refine aA (aG (by omega) (by omega)) (hrec _ ⟨by omega,by omega,λc hc=>?_⟩ (by omega));rw[show((i:Int)+1).toNat=i+1 by omega] at hc;rcases tC hi hc with hc | rfl
    ·exact hno c hc
    ·exact hk
  ·have hge:¬(i:Int)< (cr.length:Int):=hge;rw[iM (by omega)] at hno;exact aS ⟨λ_=>hno,λ_=>by decide⟩
 obtain⟨r,hr,hi⟩:=this;refine⟨decide (0<=r),?_,?_⟩
 ·unfold zG;rw[hr,aC]
 ·rw[iU,<-hi];omega
theorem lT {u:aP} (t:Tab w h T) (hw:1<=w/\w<=6) (hh:1<=h/\h<=6) (hu:u∈T.map (·.1)):0<=u.1/\u.1<=1000/\0<=u.2/\u.2<=2:=by
 obtain⟨x,hx,rfl⟩:=bC.1 hu;have li:=t.li hx;have h1:=li.u0;have h2:=li.u1;have h3:=li.e0;have h4:=li.e2
 have:w*h<=6*6:=gL hw.2 hh.2;have e:(4* (w:Int)*h)=4* ((w*h:Nat):Int):=by rw[nW,sJ]
 omega
theorem I4 {cr:List aO} {i:Nat} (h:jF cr (i+1)) (hi:i+1<cr.length) (hl:gF (aZ cr[i]) (aZ cr[i+1])):jF cr (i+2):=λj hj hjn=>by
 by_cases e:j=i
 ·subst e;exact hl
 ·exact h j hj (by omega)
theorem B0 (t:Tab w h T) (hw:1<=w/\w<=6) (hh:1<=h/\h<=6) {cr:List aO} (hl:cr.length<=1000000) (hu:∀c∈cr,0<=c.2.1):qJ fuel ((w:Int),((h:Int),cr))=some (jQ T cr):=by
 obtain⟨b,hb,hb2⟩:=G9 hl;apply Ret.eq;unfold qJ;simp only;rw[kR hw hh,aC,hb,aC];refine aD (λg=>absurd rfl g) λ_=>cV (λhbt=>aS ?_) λhbf=>?_
 ·unfold jQ;rw[aF λh=>by rw[hb2.2 h] at hbt;cases hbt]
 have hk:=hb2.1 hbf;unfold jQ;rw[aK hk];refine cS (λi:Int=>0<=i/\i<=cr.length/\∀c∈cr.take i.toNat,aZ c∈T.map (·.1)) (λi=>cr.length-i.toNat) ?_ fuel 0 ⟨by omega,by omega,by simp⟩ (by simp only[fuel];omega);rintro i' rec ⟨i0,i1,hno⟩ hrec;obtain⟨i,rfl⟩:∃i:Nat,i'=(i:Int):=⟨i'.toNat,by omega⟩
 rw[cK] at hno;refine aD (λhlt=>?_) λhge=>?_
 ·have hi:i<cr.length:=by omega
  refine aA (aV i0 hlt) ?_;rw[dZ hi,show((cr[i].1,cr[i].2.1):aP)=aZ cr[i] from rfl];by_cases hm:aZ cr[i]∈T.map (·.1)
  ·rw[H9 t hw hh hm,aC];refine aD (λg=>absurd rfl g) λ_=>cV (λg=>by simp[aZ] at g) λ_=>?_
   refine aA (aG (by omega) (by omega)) (hrec _ ⟨by omega,by omega,λc hc=>?_⟩ (by omega));rw[show((i:Int)+1).toNat=i+1 by omega] at hc;rcases tC hi hc with hc | rfl
   ·exact hno c hc
   ·exact hm
  ·obtain⟨r,hr,hr2⟩:=H8 t hw hh (hu _ (bX hi)) hm;rw[hr,aC,aF λh=>hm (h _ (bX hi))];refine aD (λ_=>aS rfl) λg=>?_
   have hr3:=hr2.resolve_left g;exact cV (λ_=>aS rfl) λg2=>by simp[aZ] at g2 hr3;exact absurd g2.1 hr3
 rw[iM (by omega)] at hno;rw[aK hno];clear hrec i1 hge;refine cS (λi:Int=>∃n:Nat,i=(n:Int)+1/\(n+1<=cr.length\/n=0)/\jF cr (n+1)) (λi=>cr.length+1-i.toNat) ?_ fuel 1 ⟨0,rfl,.inr rfl,λj hj hjn=>by omega⟩ (by simp only[fuel];omega);rintro i' rec ⟨n,rfl,hn,hasc⟩ hrec;refine aD (λhlt=>?_) λhge=>?_
 ·have hi:n+1<cr.length:=by omega
  have e1:((n:Int)+1-1).toNat=n:=by omega
  refine aA (aG (by omega) (by omega)) (aA (aV (by omega) (by omega)) (aA (aV (by omega) hlt) ?_));have g1:cr.getD ((n:Int)+1-1).toNat (0,(0,0))=cr[n]:=by rw[e1,<-dZ (d:=(0,(0,0))) (show n<cr.length by omega)];rw[cK]
  have g2:cr.getD ((n:Int)+1).toNat (0,(0,0))=cr[n+1]:=by rw[<-dZ (d:=(0,(0,0))) hi];rfl
  rw[g1,g2];have m1:=lT t hw hh (hno _ (bX (show n<cr.length by omega)));have m2:=lT t hw hh (hno _ (bX hi));unfold aZ at m1 m2;simp only at m1 m2;have ho:∃r,yO fuel ((cr[n].1,cr[n].2.1),(cr[n+1].1,cr[n+1].2.1))=some r/\(0<=r↔¬gF (aZ cr[n]) (aZ cr[n+1])):=by
   unfold yO gF aZ;simp only;by_cases e:cr[n].1=cr[n+1].1
   ·rw[show(decide (cr[n].1≠cr[n+1].1))=false by simp[e],aJ,aG (by omega) (by omega),aG (by omega) (by omega),aG (by omega) (by omega)];refine⟨_,rfl,?_⟩;omega
   ·rw[show(decide (cr[n].1≠cr[n+1].1))=true by simp[e],aH,aG (by omega) (by omega)];refine⟨_,rfl,?_⟩;omega
  obtain⟨r,hr,hr2⟩:=ho;rw[hr,aC];refine aD (λg=>aS ?_) λg=>?_
  ·rw[aF (show ¬jF cr cr.length from λh=>hr2.1 g (h n hi hi))]
  ·have hlt2:gF (aZ cr[n]) (aZ cr[n+1]):=nJ λhc=>g (hr2.2 hc)
   exact aA (aG (by omega) (by omega)) (hrec _ ⟨n+1,by simp,by omega,I4 hasc hi hlt2⟩ (by omega))
 ·refine aS ?_;rw[aK (show jF cr cr.length from λj hj hjn=>hasc j hj (by omega))]
theorem j2e (t:Tab w h T) {a b:Nat} (ha:a<T.length) (hb:b<T.length):gF T[a].1 T[b].1↔a<b:=by
 have hp:=t.asc;rw[fV] at hp;have key:∀ {i j:Nat} (hi:i<T.length) (hj:j<T.length),i<j->gF T[i].1 T[j].1:=λ{i j} hi hj hij=>by
  have:=hp i j (by simpa using hi) (by simpa using hj) hij;simpa[gF] using this
 constructor
 ·intro hlt;rcases oN a b with g | g | g
  ·exact g
  ·subst g;unfold gF at hlt;omega
  ·have:=key hb ha g;unfold gF at hlt this;omega
 ·exact key ha hb
theorem jaw (hw:1<=w/\w<=6) (hh:1<=h/\h<=6):fD fuel ((w:Int),(h:Int))=some 1:=by
 have hwh:w*h<=6*6:=gL hw.2 hh.2;have e:(w:Int)* (h:Int)=((w*h:Nat):Int):=by simp
 unfold fD;simp only;rw[e];simp only[show ¬((w:Int)<1) by omega,show ¬((h:Int)<1) by omega,show ¬((256:Int)<w) by omega,show ¬((256:Int)<h) by omega,show ¬((256:Int)< ((w*h:Nat):Int)) by omega,aT,aJ];rw[aG (by omega) (by omega)];rfl
theorem knc (t:Tab w h T) (hw:1<=w/\w<=6) (hh:1<=h/\h<=6) {cr:List aO} (hl:cr.length<=1000000):jav fuel ((w:Int),((h:Int),cr))=some (jQ T cr):=by
 have hlen:=t.len hw.2 hh.2;apply Ret.eq;unfold jav;simp only;rw[jaw hw hh,aC];refine aD (λg=>absurd g (by decide)) λ_=>?_
 refine cS (λi:Int=>0<=i/\i<=cr.length/\∀c∈cr.take i.toNat,gM c) (λi=>cr.length-i.toNat) ?_ fuel 0 ⟨by omega,by omega,by simp⟩ (by simp only[fuel];omega);rintro i' rec ⟨i0,i1,hno⟩ hrec;obtain⟨i,rfl⟩:∃i:Nat,i'=(i:Int):=⟨i'.toNat,by omega⟩
 rw[cK] at hno;refine aD (λhlt=>?_) λhge=>?_
 ·have hi:i<cr.length:=by omega
  have hin:=aV i0 hlt;rw[dZ hi];have bad:¬gM cr[i]->(1:Int)=jQ T cr:=λhb=>by
   unfold jQ;rw[aF λh=>hb (h _ (bX hi))]
  refine aA hin (aD (λg=>aS (bad λh=>by have:=h.1;omega)) λg1=>aA hin (aD (λg=>aS (bad λh=>by have:=h.2;omega)) λg2=>?_));refine aA (aG (by omega) (by omega)) (hrec _ ⟨by omega,by omega,λc hc=>?_⟩ (by omega));rw[show((i:Int)+1).toNat=i+1 by omega] at hc;rcases tC hi hc with hc | rfl
  ·exact hno c hc
  ·exact⟨by omega,by omega⟩
 rw[iM (by omega)] at hno;unfold jQ;rw[aK hno,t.un,aC];clear hrec i1 hge;have hTl:(T.map (·.1)).length=T.length:=cY ..;refine cS (λs:Int×(Int×Int)=>∃n:Nat,s.2.2=(n:Int)/\n<=cr.length/\(∀c∈cr.take n,aZ c∈T.map (·.1))/\(n=0/\s.1= -1\/∃(m a:Nat),∃(hm:m<cr.length) (ha:a<T.length),n=m+1/\s.1=(a:Int)/\T[a].1=aZ cr[m])/\(s.2.1=0/\jF cr n\/s.2.1=6/\¬jF cr n)) (λs=>cr.length-s.2.2.toNat) ?_ fuel _ ⟨0,rfl,by omega,by simp,.inl ⟨rfl,rfl⟩,.inl ⟨rfl,λj hj hjn=>by omega⟩⟩ (by simp only[fuel];omega);rintro ⟨la,e,n'⟩ rec ⟨n,hn,hnl,hpre,hla,he⟩ hrec;simp only at hn hla he;subst hn;refine aD (λhlt=>?_) λhge=>?_
 rotate_left
 ·have:n=cr.length:=by simp only at hge;omega
  subst this;rw[iL] at hpre;rw[aK hpre];refine aS ?_;rcases he with⟨h1,h2⟩ | ⟨h1,h2⟩
  ·rw[aK h2];exact h1
  ·rw[aF h2];exact h1
 have hi:n<cr.length:=by simp only at hlt;omega
 have hin:bB (n:Int) cr.length=true:=aV (by omega) hlt;simp only;rw[dZ hi];refine cS (λs:Int×Int=>∃k:Nat,s.2=(k:Int)/\k<=T.length/\(s.1= -1/\(∀q (hq:q<T.length),q<k->T[q].1≠aZ cr[n])\/∃a:Nat,∃ha:a<T.length,a<k/\s.1=(a:Int)/\T[a].1=aZ cr[n])) (λs=>T.length-s.2.toNat) ?_ fuel _ ⟨0,rfl,by omega,.inl ⟨rfl,λq hq h=>by omega⟩⟩ (by simp only[fuel];omega);rintro ⟨at',k'⟩ rec5 ⟨k,hk,hkl,hat⟩ hrec5;simp only at hk hat;subst hk;refine aD (λhkt=>?_) λhkt=>?_
 ·have hkt:(k:Int)< (((T.map (·.1)).length:Nat):Int):=hkt;rw[hTl] at hkt;have hk2:k<T.length:=by omega
  have hg:(T.map (·.1)).getD ((k:Int).toNat) (0,0)=T[k].1:=by
   rw[cK,gP,mG,dE hk2];rfl
  simp only;rw[hg];refine aA (aV (by omega) (by rw[hTl];exact hkt)) (aA hin (aA hin ?_));refine cV (λg=>?_) λg=>?_
  ·have hq:T[k].1=aZ cr[n]:=by
    simp only[aW,aQ] at g;exact iN g.1 g.2
   exact aA (aG (by omega) (by omega)) (hrec5 _ ⟨k+1,by simp,hk2,.inr ⟨k,hk2,by omega,rfl,hq⟩⟩ (by simp only;omega))
  ·have hq:T[k].1≠aZ cr[n]:=λe=>by
    have e1:T[k].1.1=cr[n].1:=by rw[e];rfl
    have e2:T[k].1.2=cr[n].2.1:=by rw[e];rfl
    simp[e1,e2] at g
   refine aA (aG (by omega) (by omega)) (hrec5 _ ⟨k+1,by simp,hk2,?_⟩ (by simp only;omega));rcases hat with⟨h1,h2⟩ | ⟨a,ha,h1,h2,h3⟩
   ·refine .inl ⟨h1,λq hq hqk=>?_⟩;by_cases e:q=k
    ·subst e;assumption
    ·exact h2 q hq (by omega)
   ·exact .inr ⟨a,ha,by omega,h2,h3⟩
 ·have hkt:¬(k:Int)< (((T.map (·.1)).length:Nat):Int):=hkt;rw[hTl] at hkt;have hk2:k=T.length:=by omega
  subst hk2;rcases hat with⟨h1,h2⟩ | ⟨a,ha,_,h2,h3⟩
  ·refine aD (λ_=>aS ?_) λg=>absurd (by simp only[h1];decide) g
   rw[aF λh=>?_];obtain⟨x,hx,ex⟩:=bC.1 (h _ (bX hi));obtain⟨q,hq,rfl⟩:=fH hx;exact h2 q hq hq ex
  ·have hm:aZ cr[n]∈T.map (·.1):=bC.2 ⟨_,bX ha,h3⟩;have hpre2:∀c∈cr.take (n+1),aZ c∈T.map (·.1):=λc hc=>by
    rcases tC hi hc with hc | rfl
    ·exact hpre c hc
    ·exact hm
   have hlast:∃(m a:Nat),∃(hm:m<cr.length) (ha:a<T.length),n+1=m+1/\at'=(a:Int)/\T[a].1=aZ cr[m]:=⟨n,a,hi,ha,rfl,h2,h3⟩
   refine aD (λg=>absurd g (by simp only[h2];omega)) λ_=>?_
   refine aD (λg=>?_) λg=>?_
   ·refine aA (aG (by omega) (by omega)) (hrec _ ⟨n+1,by simp,hi,hpre2,.inr hlast,.inr ⟨rfl,λh=>?_⟩⟩ (by simp only;omega));simp only[h2] at g;rcases hla with⟨_,g1⟩ | ⟨m,b,hm2,hb,g1,g2,g3⟩
    ·omega
    ·subst g1;have:=h m hi (by omega);rw[<-g3,<-h3,j2e t hb ha] at this;omega
   ·simp only[h2] at g;refine aA (aG (by omega) (by omega)) (hrec _ ⟨n+1,by simp,hi,hpre2,.inr hlast,?_⟩ (by simp only;omega));have hs:∀m,n=m+1->∀hm2:m<cr.length,gF (aZ cr[m]) (aZ cr[n]):=λm hnm hm2=>by
     rcases hla with⟨g0,_⟩ | ⟨m2,b,hm3,hb,g1,g2,g3⟩
     ·omega
     ·have:m2=m:=by omega
      subst this;rw[<-g3,<-h3,j2e t hb ha];omega
    have hiff:jF cr (n+1)↔jF cr n:=by
     constructor
     ·exact λh j hj hjn=>h j hj (by omega)
     ·intro h j hj hjn;by_cases e:j+1=n
      ·subst e;exact hs j rfl (by omega)
      ·exact h j hj (by omega)
    simp only;rw[hiff];exact he
end
end X
end Go.Vm
namespace Go.Vm
namespace X
open W Go.RowKit Go.Proofs.Un
def iI (a b:aL):Bool:= !decide (goes a b)
def lS (c e:aL):aL:=(c.1,(c.2.1,(c.2.2.1,e.2.2.2)))
def eY:aL->List aL->List aL
 | c,[]=>[c]
 | c,e::l=>if goes c e then eY (lS c e) l else c::eY e l
theorem oA:∀(l:List aL) (out:List aL) (c:aL),(∀e∈l,e.1≠0)->bI (out,some c) l=out++eY c l
 | [],out,c,_=>rfl
 | e::l,out,c,h=>by
   have he:=h e bH;have hl:∀e∈l,e.1≠0:=λx hx=>h x (bL _ hx)
   simp only[eY];by_cases g:goes c e
   ·rw[bI,qX he g,aK g];exact oA l out (lS c e) hl
   ·rw[bI,wN he g,aF g,oA l _ e hl];simp
theorem vQ:∀(l:List aL) (c:aL),∃d r,eY c l=d::r/\d.1=c.1/\d.2.1=c.2.1/\d.2.2.1=c.2.2.1
 | [],c=>⟨c,[],rfl,rfl,rfl,rfl⟩
 | e::l,c=>by
   simp only[eY];by_cases g:goes c e
   ·rw[aK g];obtain⟨d,r,h1,h2,h3,h4⟩:=vQ l (lS c e);exact⟨d,r,h1,h2,h3,h4⟩
   ·rw[aF g];exact⟨c,_,rfl,rfl,rfl,rfl⟩
theorem qA:∀(l:List aL) (c:aL),iA iI (eY c l)=true
 | [],c=>rfl
 | e::l,c=>by
   simp only[eY];by_cases g:goes c e
   ·rw[aK g];exact qA l _
   ·rw[aF g];obtain⟨d,r,h1,h2,h3,h4⟩:=vQ l e;have ih:=qA l e;rw[h1] at ih ⊢;have:iI c d=true:=by
     unfold iI;simp only[kL,iU];rintro ⟨g1,g2,g3⟩;exact g ⟨by rw[g1,h2],by rw[g2,h3],by rw[g3,h4]⟩
    have e:iA iI (c::d::r)=(iI c d&&iA iI (d::r)):=rfl;rw[e,this,ih];rfl
def kB (K:aP->Int) (k:Int) (l:Int×Int):Int->List aI->Int->Prop
 | p,[],q=>p=q
 | p,x::r,q=>K x.1=k/\x.2.1=l/\x.2.2.1=p/\kB K k l x.2.2.2 r q
theorem vB {K:aP->Int} {k:Int} {l:Int×Int}:∀ {r:List aI} {p q:Int} {x:aI},kB K k l p r q->K x.1=k->x.2.1=l->x.2.2.1=q->kB K k l p (r++[x]) x.2.2.2
 | [],p,q,x,h,h1,h2,h3=>by cases h;exact⟨h1,h2,h3,rfl⟩
 | y::r,p,q,x,h,h1,h2,h3=>⟨h.1,h.2.1,h.2.2.1,vB h.2.2.2 h1 h2 h3⟩
structure Run (K:aP->Int) (s:aL) (r:List aI):Prop where
 ne:r≠[]
 run:kB K s.1 s.2.1 s.2.2.1 r s.2.2.2
theorem qB {K:aP->Int}:∀(l:List aI) (c:aL) (r:List aI),Run K c r->∃RS:List (aL×List aI),eY c (kW K l)=RS.map (·.1)/\(∀s∈RS,Run K s.1 s.2)/\RS.flatMap (·.2)=r++l
 | [],c,r,h=>⟨[(c,r)],rfl,λs hs=>by rw[cD.1 hs];exact h,by simp⟩
 | x::l,c,r,h=>by
   have e:eY c (kW K (x::l))=if goes c (K x.1,x.2) then eY (lS c (K x.1,x.2)) (kW K l) else c::eY (K x.1,x.2) (kW K l):=rfl
   rw[e];by_cases g:goes c (K x.1,x.2)
   ·rw[aK g];obtain⟨RS,h1,h2,h3⟩:=qB l (lS c (K x.1,x.2)) (r++[x]) ⟨by simp,vB h.run g.1.symm g.2.1.symm g.2.2.symm⟩;exact⟨RS,h1,h2,by rw[h3];simp⟩
   ·rw[aF g];obtain⟨RS,h1,h2,h3⟩:=qB l (K x.1,x.2) [x] ⟨by simp,rfl,rfl,rfl,rfl⟩;refine⟨(c,r)::RS,by rw[h1];rfl,λs hs=>?_,by rw[jD,h3];simp⟩;rcases bJ.1 hs with rfl | hs
    ·exact h
    ·exact h2 s hs
section
variable {w h:Nat} {T:List aI}
def fL (T:List aI) (w h:Nat) (K:aP->Int):List aI:=(eP T w h).filter λx=>decide (K x.1≠0)
theorem qT (K:aP->Int):dY T w h K=kW K (fL T w h K):=by
 unfold dY fL kW;rw[G0];rfl
theorem nT (t:Tab w h T) {K:aP->Int} {x:aI}:x∈fL T w h K↔x∈T/\K x.1≠0:=by
 unfold fL;rw[jS,lX t];simp
theorem Q7 (t:Tab w h T) (K:aP->Int):∃RS:List (aL×List aI),bY T w h K=RS.map (·.1)/\(∀s∈RS,Run K s.1 s.2)/\RS.flatMap (·.2)=fL T w h K:=by
 rw[qV t,qT];have hN:∀x∈fL T w h K,K x.1≠0:=λx hx=>((nT t).1 hx).2
 cases hf:fL T w h K with
 | nil=>exact⟨[],rfl,(λs hs=>by cases hs),rfl⟩
 | cons x r=>
   rw[hf] at hN;have h0:=hN x bH;have e:bI ([],none) (kW K (x::r))=eY (K x.1,x.2) (kW K r):=by
    have:bI ([],none) (kW K (x::r))=bI (stepG ([],none) (K x.1,x.2)) (kW K r):=rfl;rw[this,oC h0,oA]
    ·rfl
    ·intro e he;obtain⟨y,hy,rfl⟩:=bC.1 he;exact hN y (bL _ hy)
   rw[e];exact qB r _ [x] ⟨by simp,rfl,rfl,rfl,rfl⟩
theorem Q6 (t:Tab w h T) (K:aP->Int):iA iI (bY T w h K)=true:=by
 rw[qV t,qT];have hN:∀x∈fL T w h K,K x.1≠0:=λx hx=>((nT t).1 hx).2
 cases hf:fL T w h K with
 | nil=>rfl
 | cons x r=>
   rw[hf] at hN;have h0:=hN x bH;have:bI ([],none) (kW K (x::r))=bI (stepG ([],none) (K x.1,x.2)) (kW K r):=rfl;rw[this,oC h0,oA]
   ·exact qA _ _
   ·intro e he;obtain⟨y,hy,rfl⟩:=bC.1 he;exact hN y (bL _ hy)
theorem pV (hT:TB T) (hk:KeyD T) {K:aP->Int} {k:Int} {l:Int×Int} {q:Int}:∀(r:List aI) (p:Int),(∀x∈r,x∈T)->kB K k l p r q->dS T l q p=some (r.map (·.1))/\p<=q
 | [],p,_,h=>by
   cases h;rw[lF hT,aK rfl];exact⟨rfl,qP _⟩
 | x::r,p,hm,⟨h1,h2,h3,h4⟩=>by
   have hx:=hm x bH;obtain⟨i1,i2⟩:=pV hT hk r _ (λy hy=>hm y (bL _ hy)) h4;have:=hT x hx;have hl:dM T l p=some x:=by rw[<-h2,<-h3];exact D4 hk hx
   rw[lF hT,aF (by omega),hl];simp only;rw[aF (by omega),i1];exact⟨rfl,by omega⟩
theorem vC (t:Tab w h T) (hw:w<=6) (hh:h<=6) {K:aP->Int} {s:aL} {r:List aI} (hr:Run K s r) (hm:∀x∈r,x∈T) (hK:∀x∈r,1<=K x.1/\K x.1<=3):cJ T s=(r.map (·.1),0):=by
 have hT:=t.tb hw hh;obtain⟨h1,h2⟩:=pV hT t.key r _ hm hr.run;cases r with
 | nil=>exact absurd rfl hr.ne
 | cons x r=>
   obtain⟨g1,g2,g3,g4⟩:=hr.run;have hx:=hm x bH;have hk:=hK x bH;have li:=t.li hx;have:=(pV hT t.key r _ (λy hy=>hm y (bL _ hy)) g4).2;have b:=hT x hx;have a1:=li.k1;have a2:=li.k4;have a3:=li.c0;have a4:=li.c1
   rw[g2] at a1 a2 a3 a4;have ho:OrdP s:=⟨by omega,by omega,a1,a2,by omega,by omega,by omega⟩
   rw[xS ho,h1]
end
section
variable {w h:Nat} {T:List aI}
theorem vE {k:Int} (hk:1<=k/\k<=3):∀(us:List aP) (out:List aO),OutOK T out->(out.map aZ++us).Nodup->(∀v∈us,v∈T.map (·.1))->eF k out us=some (out++us.map λv=>(v.1,(v.2,k)))
 | [],out,_,_,_=>by simp[eF]
 | v::us,out,ho,hn,hs=>by
   have hv:aN out v=0:=by
    rw[jL ho];intro hm;rw[qM] at hn;exact hn.2.2 v hm v bH rfl
   have e1:(out++[(v.1,(v.2,k))]).map aZ++us=out.map aZ++v::us:=by simp[aZ]
   rw[eF,aK hv,vE hk us _ (ho.add hv (hs v bH) hk) (by rw[e1];exact hn) λx hx=>hs x (bL _ hx)];simp
theorem qH (t:Tab w h T) (hw:w<=6) (hh:h<=6) {K:aP->Int}:∀(RS:List (aL×List aI)) (i:Int) (out:List aO),OutOK T out->(∀s∈RS,Run K s.1 s.2)->(∀x∈RS.flatMap (·.2),x∈T/\1<=K x.1/\K x.1<=3)->
  (out.map aZ++(RS.flatMap (·.2)).map (·.1)).Nodup->dI T i out (RS.map (·.1))=.inl (out++(RS.flatMap (·.2)).map λx=>(x.1.1,(x.1.2,K x.1)))
 | [],i,out,_,_,_,_=>by simp[dI]
 | s::RS,i,out,ho,hr,hm,hn=>by
   have hs:=hr s bH;rw[jD] at hm hn ⊢;have hm1:∀x∈s.2,x∈T/\1<=K x.1/\K x.1<=3:=λx hx=>hm x (qfy _ hx)
   have hu:=vC t hw hh hs (λx hx=>(hm1 x hx).1) (λx hx=>(hm1 x hx).2);have hK:∀(r:List aI) (p q:Int),kB K s.1.1 s.1.2.1 p r q->∀x∈r,K x.1=s.1.1:=by
    intro r;induction r with
    | nil=>intro p q _ x hx;cases hx
    | cons y r ih=>
      intro p q hr x hx;rcases bJ.1 hx with rfl | hx
      ·exact hr.1
      ·exact ih _ _ hr.2.2.2 x hx
   have hK:=hK _ _ _ hs.run;have hk:1<=s.1.1/\s.1.1<=3:=by
    cases hs2:s.2 with
    | nil=>exact absurd hs2 hs.ne
    | cons y r=>
      rw[hs2] at hK hm1;rw[<-hK y bH];exact(hm1 y bH).2
   have hn1:(out.map aZ++s.2.map (·.1)).Nodup:=by
    rw[eI,<-dX] at hn;exact(qM.1 hn).1
   have ha:=vE hk (s.2.map (·.1)) out ho hn1 (λv hv=>by obtain⟨x,hx,rfl⟩:=bC.1 hv;exact bC.2 ⟨x,(hm1 x hx).1,rfl⟩);have ho2:=pW hk _ _ _ ho (λv hv=>by obtain⟨x,hx,rfl⟩:=bC.1 hv;exact bC.2 ⟨x,(hm1 x hx).1,rfl⟩) ha;have e2:(s.2.map (·.1)).map (λv:aP=>((v.1,(v.2,s.1.1)):aO))=s.2.map λx=>(x.1.1,(x.1.2,K x.1)):=by
    rw[iQ];refine kM λx hx=>?_
    simp only[uR];rw[hK x hx]
   rw[dA,dI,hu];simp only[cM];rw[ha];simp only;rw[qH t hw hh RS _ _ ho2 (λx hx=>hr x (bL _ hx)) (λx hx=>hm x (qfr _ hx)) ?_,e2]
   ·simp
   ·have e3:(out++(s.2.map (·.1)).map (λv:aP=>((v.1,(v.2,s.1.1)):aO))).map aZ=out.map aZ++s.2.map (·.1):=by
     rw[eI,iQ]
     congr 1
     exact(kM λx hx=>rfl).trans (qht _)
    rw[e3,dX,<-eI];exact hn
end
end X
end Go.Vm
namespace Go.Vm
namespace X
open W
end X
end Go.Vm
namespace Go.Vm
namespace X
open W Go.RowKit Go.Proofs.Un
structure PatOK (T:List aI) (cr:List aO):Prop where
 ok:OutOK T cr
 pw:(cr.map aZ).Pairwise gF
section
variable {w h:Nat} {T:List aI}
theorem K0 (t:Tab w h T) (hw:1<=w/\w<=6) (hh:1<=h/\h<=6) {cr:List aO} (ho:PatOK T cr):dD T cr=cr:=by
 have hs:=oK t cr;refine tP jP (λx hx y hy h1 h2=>?_) (hs.imp λ{a b} h c=>by rw[mK] at *;omega) ?_ (pM t ho.ok).symm
 ·obtain⟨i,hi,rfl⟩:=fH hx;obtain⟨j,hj,rfl⟩:=fH hy;rw[fV] at hs;rcases oN i j with g | g | g
  ·exact absurd (hs i j hi hj g) h1
  ·subst g;rfl
  ·exact absurd (hs j i hj hi g) h2
 ·have hp:=pB.1 ho.pw;have:cr.Pairwise λa b=>(a∈cr/\b∈cr)/\gF (aZ a) (aZ b):=by
   rw[fV] at hp ⊢;exact λi j hi hj hij=>⟨⟨bX _,bX _⟩,hp i j hi hj hij⟩
  refine this.imp λ{a b} ⟨⟨ha,hb⟩,hl⟩ c=>?_
  have m1:=lT t hw hh (ho.ok.sub a ha);have m2:=lT t hw hh (ho.ok.sub b hb);unfold aZ at m1 m2;simp only at m1 m2;rw[mK,kJ (by omega) (by omega),kJ (by omega) (by omega)] at c;unfold gF aZ at hl;simp only at hl;omega
theorem J0 {cr:List aO} (ho:PatOK T cr):jQ T cr=0:=by
 unfold jQ;rw[aK (show ∀c∈cr,gM c from ho.ok.k1),aK ho.ok.sub,aK];intro j hj hjn;have hp:=pB.1 ho.pw;rw[fV] at hp;exact hp j (j+1) (by omega) hj (by omega)
theorem j94 {cr:List aO} (h:jF cr cr.length):(cr.map aZ).Pairwise gF:=by
 rw[pB,fV];have key:∀d i (hi:i+d+1<cr.length),gF (aZ cr[i]) (aZ cr[i+d+1]):=by
  intro d;induction d with
  | zero=>exact λi hi=>h i hi hi
  | succ d ih=>
    intro i hi;have h1:=ih i (by omega);have h2:=h (i+d+1) (by omega) (by omega);have e:i+ (d+1)+1=i+d+1+1:=by omega
    simp only[e];unfold gF at *;omega
 intro i j hi hj hij;have:=key (j-i-1) i (by omega);have e:i+ (j-i-1)+1=j:=by omega
 simp only[e] at this;exact this
theorem kcq {cr:List aO} (h0:jQ T cr=0):PatOK T cr:=by
 unfold jQ at h0;split at h0
 ·rename_i h1;split at h0
  ·rename_i h2;split at h0
   ·rename_i h3;have hp:=j94 h3;exact⟨⟨hp.imp λ{a b} h e=>by subst e;unfold gF at h;omega,h2,h1⟩,hp⟩
   ·cases h0
  ·cases h0
 ·cases h0
theorem Q3 {RS:List (aL×List aI)} {K:aP->Int} (h:∀s∈RS,Run K s.1 s.2):RS.length<=(RS.flatMap (·.2)).length:=by
 induction RS with
 | nil=>simp
 | cons s RS ih=>
   have h1:=(h s bH).ne;have h2:=ih λx hx=>h x (bL _ hx)
   rw[jD,cZ,cL];have:1<=s.2.length:=by
    cases hs:s.2 with
    | nil=>exact absurd hs h1
    | cons y r=>simp
   omega
structure SegOK (T:List aI) (w h:Nat) (cr:List aO) (X:List aL):Prop where
 len:X.length<=1000
 un:∀s∈X,(cJ T s).2=0
 sum:(X.map λs=>(cJ T s).1.length).sum=cr.length
 pat:gU T w h X=(((w:Int),((h:Int),cr)),(0,0))
 ng:iA iI X=true
theorem lO (t:Tab w h T) (hw:1<=w/\w<=6) (hh:1<=h/\h<=6) {cr:List aO} (ho:PatOK T cr):SegOK T w h cr (bY T w h (aN cr)):=by
 obtain⟨RS,h1,h2,h3⟩:=Q7 t (aN cr);have hm:∀x∈RS.flatMap (·.2),x∈T/\1<=aN cr x.1/\aN cr x.1<=3:=λx hx=>by
  rw[h3,nT t] at hx;refine⟨hx.1,?_⟩;have hin:x.1∈cr.map aZ:=nJ λhn=>hx.2 ((jL ho.ok).2 hn)
  obtain⟨c,hc,ec⟩:=bC.1 hin;have:=mF ho.ok.nd hc;rw[ec] at this;rw[this];exact ho.ok.k1 c hc
 have hfl:(fL T w h (aN cr)).length=cr.length:=by
  have:=(qU t ho.ok).length_eq;rw[qT,cY] at this;rw[this];unfold kW;rw[cY]
 have hcl:=ho.ok.len t hw.2 hh.2;have hu:∀s∈RS,cJ T s.1=(s.2.map (·.1),0):=λs hs=>by
  have hsub:∀x∈s.2,x∈RS.flatMap (·.2):=λx hx=>iV.2 ⟨s,hs,hx⟩
  exact vC t hw.2 hh.2 (h2 s hs) (λx hx=>(hm x (hsub x hx)).1) λx hx=>(hm x (hsub x hx)).2
 have hnd:((RS.flatMap (·.2)).map (·.1)).Nodup:=by
  rw[h3];unfold fL;have hw2:((eP T w h).map (·.1)).Nodup:=by
   have:=(qZ t).map (·.1);exact this.symm.nodup t.ndU
  exact(qg0 _ qf4).nodup hw2
 refine⟨?_,?_,?_,?_,Q6 t _⟩
 ·rw[h1,cY];have:=Q3 h2;rw[h3,hfl] at this;omega
 ·intro s hs;rw[h1] at hs;obtain⟨r,hr,rfl⟩:=bC.1 hs;rw[hu r hr]
 ·rw[h1,iQ,<-hfl,<-h3,qf5]
  congr 1
  refine kM λs hs=>?_
  simp only[uR];rw[hu s hs,cY]
 ·unfold gU;rw[h1,qH t hw.2 hh.2 RS 0 [] lB h2 hm (by simpa using hnd)];simp only[fB];have hout:OutOK T ((RS.flatMap (·.2)).map λx=>((x.1.1,(x.1.2,aN cr x.1)):aO)):=by
   refine qI (RS.map (·.1)) 0 [] _ lB ?_;rw[qH t hw.2 hh.2 RS 0 [] lB h2 hm (by simpa using hnd)];rfl
  have hfe:dD T ((RS.flatMap (·.2)).map λx=>((x.1.1,(x.1.2,aN cr x.1)):aO))=dD T cr:=by
   unfold dD;refine pZ λx hx=>?_
   have hk:aN ((RS.flatMap (·.2)).map λx=>((x.1.1,(x.1.2,aN cr x.1)):aO)) x.1=aN cr x.1:=by
    by_cases h0:aN cr x.1=0
    ·rw[h0,jL hout];intro hin;obtain⟨c,hc,ec⟩:=bC.1 hin;obtain⟨y,hy,rfl⟩:=bC.1 hc;have hy2:=hm y hy;have:y.1=x.1:=ec;rw[this,h0] at hy2;omega
    ·have hin:x∈RS.flatMap (·.2):=by rw[h3,nT t];exact⟨hx,h0⟩
     exact mF hout.nd (c:=(x.1.1,(x.1.2,aN cr x.1))) (bC.2 ⟨x,hin,rfl⟩)
   rw[hk]
  rw[hfe,K0 t hw hh ho]
theorem wY (t:Tab w h T) (hw:1<=w/\w<=6) (hh:1<=h/\h<=6) {cr:List aO} (ho:PatOK T cr):mH fuel ((w:Int),((h:Int),cr))=some (bY T w h (aN cr),0):=by
 have hcl:=ho.ok.len t hw.2 hh.2;refine I0 t hw hh ?_ ho.ok;rw[B0 t hw hh (by omega) λc hc=>(lT t hw hh (ho.ok.sub c hc)).2.2.1,J0 ho]
end
end X
end Go.Vm
namespace Go.Vm
namespace X
open W Go.RowKit Go.Proofs.Un
theorem B9 (s:Int×Int):fD fuel s=some 1/\1<=s.1/\1<=s.2\/fD fuel s=some 0/\gG fuel s=some 1:=by
 by_cases h1:s.1<1
 ·exact .inr ⟨by unfold fD;simp only[h1,aU,aH],by unfold gG;simp only[h1,aU,aH]⟩
 by_cases h2:s.2<1
 ·exact .inr ⟨by unfold fD;simp only[h1,h2,aU,aT,aH,aJ],by unfold gG;simp only[h1,h2,aU,aT,aH,aJ]⟩
 by_cases h3:256<s.1
 ·exact .inr ⟨by unfold fD;simp only[h1,h2,h3,aU,aT,aH,aJ],by unfold gG;simp only[h1,h2,h3,aU,aT,aH,aJ]⟩
 by_cases h4:256<s.2
 ·exact .inr ⟨by unfold fD;simp only[h1,h2,h3,h4,aU,aT,aH,aJ],by unfold gG;simp only[h1,h2,h3,h4,aU,aT,aH,aJ]⟩
 have hb:aR (s.1*s.2)=true:=by
  obtain⟨x,hx⟩:∃x:Nat,s.1=(x:Int):=⟨s.1.toNat,by omega⟩
  obtain⟨y,hy⟩:∃y:Nat,s.2=(y:Int):=⟨s.2.toNat,by omega⟩
  have hxy:x*y<=256*256:=gL (by omega) (by omega);have e:s.1*s.2=((x*y:Nat):Int):=by rw[hx,hy];simp
  rw[e];exact aG (by omega) (by omega)
 by_cases h5:256<s.1*s.2
 ·exact .inr ⟨by unfold fD;simp only[h1,h2,h3,h4,aT,aJ];rw[hb];simp only[aB,h5,aU,aH],by unfold gG;simp only[h1,h2,h3,h4,aT,aJ];rw[hb];simp only[aB,h5,aU,aH]⟩
 ·exact .inl ⟨by unfold fD;simp only[h1,h2,h3,h4,aT,aJ];rw[hb];simp only[aB,h5,aT,aH,aJ],by omega,by omega⟩
end X
end Go.Vm
namespace Go.Vm
namespace X
open W Go.RowKit Go.Proofs.Un
set_option maxRecDepth 100000
def fF (X:List bG):Nat->List bG->Option Int
 | _,[]=>none
 | i,y::r=>if X[i]?=some y then fF X (i+1) r else some ((i:Int)+2)
def oJ (q:Int×(Int×List aO)) (c:Option Int):lA:=match c with
 | none=>(q,(0,0))
 | some m=>((0,(0,[])),(m,6))
inductive Dec (s:List Nat):lA->Prop
 | bad (n:Int) (h0:0<n) (h:bP 0 (0,0) [] [] (aM 10 s)=.inl n):Dec s (nB n)
 | sum (sh:Int×Int) (l:List bG) (sum:Int) (body:List Nat) (h:bP 0 (0,0) [] [] (aM 10 s)=.inr (sh,(l,(sum,body)))) (h1:sum≠cR body):Dec s ((0,(0,[])),((l.length:Int)+2,10))
 | sheet (sh:Int×Int) (l:List bG) (sum:Int) (body:List Nat) (h:bP 0 (0,0) [] [] (aM 10 s)=.inr (sh,(l,(sum,body)))) (h1:sum=cR body) (hv:fD fuel sh=some 0):Dec s ((0,(0,[])),(1,1))
 | pat (w h:Nat) (l:List bG) (sum:Int) (body:List Nat) (hr:bP 0 (0,0) [] [] (aM 10 s)=.inr (((w:Int),(h:Int)),(l,(sum,body)))) (j er:Int) (h0:0<=j) (h1:er≠0):Dec s ((0,(0,[])),(j+2,er))
 | cmp (w h:Nat) (T:List aI) (t:Tab w h T) (hw:1<=w/\w<=6) (hh:1<=h/\h<=6) (l:List bG) (sum:Int) (body:List Nat) (hr:bP 0 (0,0) [] [] (aM 10 s)=.inr (((w:Int),(h:Int)),(l,(sum,body)))) (h1:sum=cR body)
    (cr:List aO) (hcr:PatOK T cr) (hpr:gU T w h l=(((w:Int),((h:Int),cr)),(0,0))):Dec s (oJ ((w:Int),((h:Int),cr)) (fF (bY T w h (aN cr)) 0 l))
end X
end Go.Vm
namespace Go.Vm
namespace X
open W Go.RowKit Go.Proofs.Un
theorem pF {w h:Nat} {T:List aI} (t:Tab w h T) (hw:1<=w/\w<=6) (hh:1<=h/\h<=6) {cr:List aO} (hcr:PatOK T cr):∀x∈bY T w h (aN cr),OkX x:=by
 intro x hx;have hu:=(lO t hw hh hcr).un x hx;have ho:OrdP x:=iF.1 λg=>by rw[xR g] at hu;cases hu
 have hT:=t.tb hw.2 hh.2;have hf:¬(64<x.2.2.2\/x.2.2.1 < -64):=λg=>T0 hT g hu
 exact⟨⟨ho.k1,ho.k3,ho.l1,ho.l4,ho.c0,ho.c1,ho.ft⟩,by omega,by omega⟩
def bW (w h:Nat) (X:List bG):List Nat:=(cA++32::bM (w:Int)++32::bM (h:Int)++[10])++(X.map λx=>cG x++[10]).flatten
theorem pY {n:Int} (h0:0<=n) (h:n<1000000000):(bM n).length<=20:=gJ 20 _
theorem G3 {w h:Nat} {T:List aI} (t:Tab w h T) (hw:1<=w/\w<=6) (hh:1<=h/\h<=6) {cr:List aO} (hcr:PatOK T cr):wG fuel ((w:Int),((h:Int),cr))=some (bW w h (bY T w h (aN cr))):=by
 have hx:=pF t hw hh hcr;have hl:=(lO t hw hh hcr).len;have hcl:=hcr.ok.len t hw.2 hh.2;have d1:=pY (n:=(w:Int)) (by omega) (by omega);have d2:=pY (n:=(h:Int)) (by omega) (by omega);have hro:=zB t hw hh (cr:=cr) (by omega);generalize bY T w h (aN cr)=X at hx hl hro ⊢;apply Ret.eq;unfold wG;simp only;rw[oD (n:=(w:Int)) (by omega) (by omega),aC];refine aA (bD (by omega)) (aA (bD (by simp;omega)) ?_);rw[oD (n:=(h:Int)) (by omega) (by omega),aC];refine aA (bD (by simp;omega)) (aA (bD (by simp;omega)) ?_);rw[hro,aC];refine cS (λp:List Nat×Int=>∃i:Nat,p.2=i/\i<=X.length/\p.1.length<=100+41*i/\p.1++((X.drop i).map λx=>cG x++[10]).flatten=bW w h X) (λp=>X.length-p.2.toNat) ?_ fuel _ ⟨0,rfl,eW _,by simp;omega,by simp[bW,cA]⟩ (by simp only[fuel];omega);rintro ⟨b,i'⟩ rec ⟨i,e,hi,hb,he⟩ ih;simp only at e hb he ih ⊢;subst e;refine aD (λhlt=>?_) λhge=>?_
 ·have hlt:i<X.length:=by omega
  have hxi:=hx _ (bX hlt);have hsl:=mC hxi;rw[dZ hlt];refine aA (aV (by omega) (by omega)) ?_;rw[show((X[i].1,((X[i].2.1.1,X[i].2.1.2),(X[i].2.2.1,X[i].2.2.2))):bG)=X[i] from rfl,G4 hxi,aC];refine aA (bD (by omega)) (aA (bD (by simp;omega)) (aA (aG (by omega) (by omega)) (ih _ ⟨i+1,by simp,hlt,by simp;omega,?_⟩ (by simp only;omega))));rw[<-he,iJ hlt,dA,kH];simp only[dX]
 ·have:i=X.length:=by omega
  subst this;rw[jM] at he;exact aS (by rw[<-he];simp)
end X
end Go.Vm
namespace Go.Vm
namespace X
open W Go.RowKit Go.Proofs.Un
def bZ (s:List Nat):List Nat:=((s++[101,110,100,32])++bM (cR s))++[10]
theorem lH (s:List Nat):(bM (cR s)).length<=20:=gJ 20 _
theorem C7 {s:List Nat} (hl:s.length<=1000000):pL fuel s=some (bZ s):=by
 have hb:=lW s;have hd:=lH s;apply Ret.eq;unfold pL;refine aA (bD (by omega)) ?_;rw[show xB fuel s=sC s from rfl,xP (by omega),aC];refine aA (aG (by omega) (by omega)) ?_;rw[mJ (by omega) (by omega),aC];exact aA (bD (by simp;omega)) (aA (bD (by simp;omega)) (aS rfl))
theorem m7 {s:List Nat} (hl:s.length<=1000000) (hB:∀x∈s,x<256):rQ fuel s=some (bZ s):=by
 have hb:=lW s;have hd:=lH s;apply Ret.eq;unfold rQ;refine aA (bD (by omega)) ?_;rw[zA (by omega) hB,aC,oD (by omega) (by omega),aC];exact aA (bD (by simp;omega)) (aA (bD (by simp;omega)) (aS rfl))
end X
end Go.Vm
namespace Go.Vm
namespace X
open W Go.RowKit Go.Proofs.Un Go.Proofs.F11
theorem wK {x:bG} (hx:OkX x):∀y∈cG x,y<256:=by
 have hv:=hx.vl;have hft:=hx.o.ft;have f0:=hx.f0;have t1:=hx.t1;have n0:=(dL hv.2.2.1 hv.2.2.2).ch;have n1:=(dL (n:=x.2.2.1) (by omega) (by omega)).ch;have n2:=(dL (n:=x.2.2.2) (by omega) (by omega)).ch;have k1:=t6 ⟨hx.o.k1,hx.o.k3⟩;have k2:=u7 ⟨hv.1,hv.2.1⟩;intro y hy;simp only[cG,eA,bU,bJ,cD,gV,gR] at hy;rcases hy with((((((rfl | rfl) | hy) | rfl) | hy) | rfl) | hy)
 ·exact k1.1
 ·omega
 ·rcases hy with rfl | rfl | hy
  ·exact k2.1
  ·omega
  ·have:=n0 y hy;omega
 ·omega
 ·have:=n1 y hy;omega
 ·omega
 ·have:=n2 y hy;omega
theorem pK {n:Int} (h0:0<=n) (h1:n<9223372036854775808):∀y∈bM n,y<256:=λy hy=>by
 have:=lK (u:=n.toNat) (by omega) y hy;omega
theorem d5 {s:List Nat} (hl:s.length<=100) (hb:∀x∈s,x<256):(Go.Vm.W.mkS (some s)).data.toList.map UInt8.toNat=s:=by
 obtain⟨t,e1,e2⟩:=jaq (o:=some s) (by simp only[nI];rw[bE,bD hl]);cases e1;rw[e2];exact nR hb
theorem Z6 {w h:Nat} (hw:1<=w/\w<=6) (hh:1<=h/\h<=6) {X:List bG} (hX:∀x∈X,OkX x):zU (fG fuel) (eX fuel) (w:Int) (h:Int) X=bW w h X:=by
 have hs:∀x∈X,fG fuel x=some (cG x):=λx hx=>by
  rcases pE x with⟨_,g⟩ | ⟨g,_⟩
  ·exact g
  ·exact absurd (hX x hx) g
 have hn:∀n:Nat,n<=6->(Go.Vm.W.mkS (eX fuel (n:Int))).data.toList.map UInt8.toNat=bM (n:Int):=λn h=>by
  rw[mJ (by omega) (by omega)];exact d5 (gE (pY (by omega) (by omega)) (by omega)) (pK (by omega) (by omega))
 unfold zU vK K1 bW;simp only;rw[iL,eI]
 congr 1
 ·simp only[eI,hn w hw.2,hn h hh.2];simp[cA]
 ·clear hw hh hn;induction X with
  | nil=>rfl
  | cons x X ih=>
    rw[jD,eI,dA,kH,ih (λy hy=>hX y (bL _ hy)) λy hy=>hs y (bL _ hy)]
    congr 1
    rw[eI,hs x bH,d5 (gE (mC (hX x bH)) (by omega)) (wK (hX x bH))];rfl
end X
end Go.Vm
namespace Go.Vm
namespace X
open W Go.RowKit Go.Proofs.Un Go.Proofs.F11
theorem L6 {X:List bG} (hX:∀x∈X,OkX x):((X.map λx=>cG x++[10]).flatten).length<=41*X.length:=by
 induction X with
 | nil=>simp
 | cons x X ih=>
   have:=ih λy hy=>hX y (bL _ hy)
   have h2:=mC (hX x bH);rw[dA,kH,cZ,cZ,dU,cL];omega
theorem uA {w h:Nat} {X:List bG} (hX:∀x∈X,OkX x) (hl:X.length<=1000):(bW w h X).length<=41100:=by
 have h1:=L6 hX;have d1:(bM (w:Int)).length<=20:=gJ 20 _;have d2:(bM (h:Int)).length<=20:=gJ 20 _;unfold bW;rw[cZ];have:(cA++32::bM (w:Int)++32::bM (h:Int)++[10]).length<=60:=by simp[cA];omega
 omega
theorem U4 {w h:Nat} (hw:w<=6) (hh:h<=6) {X:List bG} (hX:∀x∈X,OkX x):∀y∈bW w h X,y<256:=by
 have d1:=pK (n:=(w:Int)) (by omega) (by omega);have d2:=pK (n:=(h:Int)) (by omega) (by omega);intro y hy;unfold bW at hy;rcases bU.1 hy with hy | hy
 ·simp only[cA,bU,bJ,gV,gR] at hy;rcases hy with((hy | hy) | hy) | hy
  ·omega
  ·rcases hy with hy | hy
   ·omega
   ·exact d1 y hy
  ·rcases hy with hy | hy
   ·omega
   ·exact d2 y hy
  ·omega
 ·obtain⟨l,hl,hy⟩:=qgc.1 hy;obtain⟨x,hx,rfl⟩:=bC.1 hl;rcases bU.1 hy with hy | hy
  ·exact wK (hX x hx) y hy
  ·simp at hy;omega
theorem jaf {w h:Nat} {T:List aI} (t:Tab w h T) (hw:1<=w/\w<=6) (hh:1<=h/\h<=6) {cr:List aO} (hcr:PatOK T cr):
  zZ fuel ((w:Int),((h:Int),cr))=some (bZ (bW w h (bY T w h (aN cr))),0)/\yZ fuel ((w:Int),((h:Int),cr))=some (bZ (bW w h (bY T w h (aN cr)))):=by
 have hX:=pF t hw hh hcr;have hl:=(lO t hw hh hcr).len;have hof:=wY t hw hh hcr;have hrb:=G3 t hw hh hcr;generalize bY T w h (aN cr)=X at hX hl hof hrb ⊢;have hbl:=uA (w:=w) (h:=h) hX hl;have hbb:=U4 hw.2 hh.2 hX;have hsl:=lH (bW w h X);constructor
 ·show uE (mH fuel) (fG fuel) (eX fuel) (pL fuel) ((w:Int),((h:Int),cr))=_;unfold uE;rw[hof,aC];have hit:∀n:Nat,n<=6->nI (eX fuel (n:Int))=true:=λn hn=>by
   rw[mJ (by omega) (by omega)];have:(bM (n:Int)).length<=20:=gJ 20 _;simp only[nI];rw[bE,bD (by omega)]
  have hok:D8 (fG fuel) (eX fuel) (w:Int) (h:Int) X=true:=by
   unfold D8;rw[hit w hw.2,hit h hh.2,bE,bD (by omega),kP,kP,sK,cI];intro x hx;rcases pE x with⟨_,g⟩ | ⟨g,_⟩
   ·rw[g];have:=mC (hX x hx);simp only[nI];rw[bE,bD (by omega)]
   ·exact absurd (hX x hx) g
  refine(cO rfl).trans ?_;simp only;rw[hok,aH,Z6 hw hh hX,C7 (by omega),aC,bE,kN (by simp[bZ];omega)];rfl
 ·apply Ret.eq;unfold yZ;simp only;rw[hrb,aC,m7 (by omega) hbb];exact aS rfl
end X
end Go.Vm
namespace Go.Vm
namespace X
open W
theorem J2:(List.range 256).all (λd=>d==0||Nat.gcd 65521 d==1)=true:=by decide +kernel
theorem xZ {d:Nat} (h0:0<d) (h:d<256):Nat.gcd 65521 d=1:=by
 have:=cI.1 J2 d (eZ.2 h);simp only[pC,beq_iff_eq] at this;omega
end X
end Go.Vm
namespace Go.Vm
namespace X
open W Go.RowKit
set_option maxRecDepth 100000
end X
end Go.Vm
namespace Go.Vm
namespace X
open W Go.RowKit Go.Proofs.Un
end X
end Go.Vm
namespace Go.Vm
namespace X
open W Go.RowKit Go.Proofs.Un
end X
end Go.Vm
namespace Go.Vm
namespace X
open W Go.RowKit Go.Proofs.Un
end X
end Go.Vm
namespace Go.Vm
namespace X
open W Go.RowKit Go.Proofs.Un
set_option maxRecDepth 100000
end X
end Go.Vm
namespace Go.Vm
namespace X
open W
structure EndAt (t:List Nat) (q:Nat):Prop where
 e:t[q]?=some 101
 n:t[q+1]?=some 110
 d:t[q+2]?=some 100
 s:t[q+3]?=some 32
 dg:∀j c,q+4<=j->t[j]?=some c->c<=57
theorem EndAt.lt {s t:List Nat} {q p i:Nat} (hs:EndAt s q) (ht:EndAt t p) (hd:∀j,j≠i->s[j]?=t[j]?):¬q<p:=by
 intro h;have no:∀ {j c},q+1<=j->s[j]?=some c->c≠101:=λ{j c} hj hc=>by
  rcases(by omega:j=q+1\/j=q+2\/j=q+3\/q+4<=j) with e | e | e | e
  ·rw[e,hs.n] at hc;cases hc;decide
  ·rw[e,hs.d] at hc;cases hc;decide
  ·rw[e,hs.s] at hc;cases hc;decide
  ·have:=hs.dg j c e hc;omega
 have no2:∀ {j c},q+2<=j->s[j]?=some c->c≠110:=λ{j c} hj hc=>by
  rcases(by omega:j=q+2\/j=q+3\/q+4<=j) with e | e | e
  ·rw[e,hs.d] at hc;cases hc;decide
  ·rw[e,hs.s] at hc;cases hc;decide
  ·have:=hs.dg j c e hc;omega
 by_cases hi:p=i
 ·have h1:=hd (p+1) (by omega);rw[ht.n] at h1;exact no2 (by omega) h1 rfl
 ·have h1:=hd p hi;rw[ht.e] at h1;exact no (by omega) h1 rfl
end X
end Go.Vm
namespace Go.Vm
namespace X
open W
end X
end Go.Vm
namespace Go.Vm
namespace X
open W Go.RowKit Go.Proofs.Un
end X
end Go.Vm
namespace Go.Vm
namespace X
open W Go.RowKit Go.Proofs.Un
end X
end Go.Vm
namespace Go.Vm
namespace X
open W Go.RowKit Go.Proofs.Un
theorem jjk {e:List Nat} (h:e.length<=1000000000) (hn:∀A,e≠A++[10]):gW fuel (e,[10])=some (e,false):=by
 apply Ret.eq;unfold gW;simp only;refine aD (λg=>?_) λ_=>aS rfl
 have g:1<=e.length:=by simp at g;omega
 refine aA (aG (by simp;omega) (by simp;omega)) (aA (cN.2 ⟨by simp;omega,by simp;omega,by omega⟩) (cV (λ_=>aS rfl) λg2=>?_));exfalso;have e1:(((e.length:Int)-(([10]:List Nat).length:Int))).toNat=e.length-1:=by simp
 have g3:((e.drop (((e.length:Int)-(([10]:List Nat).length:Int))).toNat).take (e.length-(((e.length:Int)-(([10]:List Nat).length:Int))).toNat))=[10]:=by simpa using g2
 rw[e1,iM (by rw[mA];exact bV _)] at g3;exact hn (e.take (e.length-1)) (by rw[<-g3,O3])
theorem L3 {c:Nat}:∀ {l:List Nat},c∉l->mS c l= -1
 | [],_=>rfl
 | x::l,h=>by
   have h1:=L3 λg=>h (bL _ g)
   have h2:x≠c:=λe=>h (e▸bH)
   rw[mS,h1,aF (by omega),aF h2]
theorem jbp {c:Nat} {w:List Nat} (hw:c∉w):∀A:List Nat,mS c (A++c::w)=A.length
 | []=>by rw[fB,mS,L3 hw];simp
 | x::A=>by
   rw[fN,mS,jbp hw A,aK (by omega)];simp
theorem jko {s:List Nat} (h:s.length<=1000000000):jl0 fuel (s,[10])=some (mS 10 s):=by
 show V8 (s,[10])=_;unfold V8;simp only;rw[bE,bD h];rfl
inductive MendB (s:List Nat):List Nat->Prop
 | no (h:∀A,s≠A++[10]):MendB s s
 | yes (A w:List Nat) (e:s=A++(w++[10])) (hA:A=[]\/∃A',A=A'++[10]) (hw:10∉w) (body:List Nat) (hb:body=if(cC w bF 1).isSome=true then A else s):MendB s body
theorem MendB.len {s b:List Nat} (h:MendB s b):b.length<=s.length:=by
 cases h with
 | no h=>exact bV _
 | yes A w e hA hw _ hb=>
   rw[hb];split
   ·rw[e];simp
   ·exact bV _
theorem MendB.pre {s b:List Nat} (h:MendB s b):∃R,s=b++R:=by
 cases h with
 | no h=>exact⟨[],by simp⟩
 | yes A w e hA hw _ hb=>
   rw[hb];split
   ·exact⟨_,e⟩
   ·exact⟨[],by simp⟩
noncomputable def yL (N:Nat) (body:List Nat):Option (List Nat×Int):=bif(decide ((65536:Int)< (((bZ body).length:Nat):Int))) then(some ([],3)) else((gD N (bZ body)).bind λr7=>bif(decide (r7.2.2≠0)) then(some ([],r7.2.2)) else(some (bZ body,0)))
theorem jbu {s body:List Nat} (hm:MendB s body) (hs:s.length<=65536):nG fuel s=yL fuel body:=by
 have hbl:=hm.len;have fin:(pL fuel body).bind (λr6=>bif(decide ((65536:Int)< ((r6.length:Nat):Int))) then(some ([],3)) else((gD fuel r6).bind λr7=>bif(decide (r7.2.2≠0)) then(some ([],r7.2.2)) else(some (r6,0))))=yL fuel body:=by
  rw[C7 (by omega),aC];rfl
 unfold nG;refine(dG (by omega)).trans ?_;cases hm with
 | no h=>
   rw[jjk (by omega) h,aC,iP];simp only[aJ];exact fin
 | yes A w e hA hw _ hb=>
   have hl:s.length=A.length+w.length+1:=by rw[e];simp;omega
   have e1:s=(A++w)++[10]:=by rw[e];simp
   have hc:gW fuel (s,[10])=some (A++w,true):=by
    rw[e1];exact uD (by simp;omega)
   rw[hc,aC,iP];simp only[aH];have hi:mS 10 (A++w)+1=(A.length:Int):=by
    rcases hA with rfl | ⟨A',rfl⟩
    ·rw[fB,L3 hw];rfl
    ·rw[dX,qfc,jbp hw];simp
   have hal:(A++w).length=A.length+w.length:=cZ;rw[jko (by omega),aC,hi,aY (aG (by omega) (by omega)),aY (cN.2 ⟨by omega,by omega,by omega⟩)];have hd:((A++w).drop ((A.length:Int)).toNat).take ((A++w).length-((A.length:Int)).toNat)=w:=by
    rw[cK,qgk,hal,iM (by omega)]
   rw[hd];have hn:=uM (line:=w) (word:=bF) (many:=1) (by omega) (by omega);rw[show(((1:Nat)):Int)=1 from rfl] at hn;rw[show([101,110,100]:List Nat)=bF from rfl,hn,aC,iP];cases hns:cC w bF 1 with
   | none=>
     rw[hns] at hb;simp only[F8,lC,dR] at hb;subst hb;simp only[aJ];exact fin
   | some ns=>
     rw[hns] at hb;simp only[qfg,cM] at hb;subst hb;simp only[aH];rw[aY (cN.2 ⟨by omega,by omega,by omega⟩)];have ht:(s.drop 0).take ((body.length:Int)).toNat=body:=by rw[e];simp
     rw[ht];exact fin
end X
end Go.Vm
namespace Go.Vm
namespace X
open W Go.RowKit Go.Proofs.Un
set_option maxRecDepth 100000
theorem j5a:∀(n:Nat) (b:Int),(List.replicate n 0).foldl zI (1,b%65521)=(1,(b+n)%65521)
 | 0,b=>by simp
 | n+1,b=>by
   rw[qe7,O1];have e:zI (1,b%65521) 0=(1,(b+1)%65521):=by
    unfold zI;simp only[bK];constructor<;>omega
   rw[e,j5a n (b+1)];simp only[bK,true_and]
   congr 1;omega
theorem kof {n:Nat} (h:n=65530):cR (List.replicate n 0)=26:=by
 have h1:=j5a n 0;rw[show(0:Int)%65521=0 by decide] at h1;unfold cR tS;rw[h1];simp only;omega
theorem kcz {s:List Nat} (h:65536<s.length):gD fuel s=some ((0,(0,[])),(0,3)):=by
 unfold gD;exact cO (by omega)
theorem ki3 {s:List Nat} (h:65536<s.length):nG fuel s=some ([],3):=by
 unfold nG;exact cO (by omega)
theorem kc2 {s:List Nat} (hs:s.length<=1000000) (hn:10∉s) (h0:s≠[]):yD fuel s=some ((0,(0,([],(0,0)))),1):=by
 unfold yD V9;simp only;rw[bE,bD (by omega),aH,aC,rX s.length s (bV _),uC hn,fM,aF h0];simp only[fZ];rw[aY (aG (by omega) (by omega)),wZ (by omega) hn,aC];rfl
theorem kc0 {s:List Nat} (hs:s.length<=65536) (hn:10∉s) (h0:s≠[]):gD fuel s=some ((0,(0,[])),(1,4)):=by
 unfold gD;refine(dG (by omega)).trans ?_;rw[kc2 (by omega) hn h0,aC];exact cO (by decide)
theorem ki4 {n:Nat} (h:n=65530):nG fuel (List.replicate n 0)=some ([],3):=by
 have hm:MendB (List.replicate n 0) (List.replicate n 0):=.no λA e=>by
  have:(10:Nat)∈List.replicate n 0:=by rw[e];simp
  have:=(qfv.1 this).2;omega
 rw[jbu hm (by rw[qeo];omega)];unfold yL;have hd:(bM 26).length=2:=by decide
 refine cO ?_;have:(bZ (List.replicate n 0)).length=n+7:=by
  unfold bZ;rw[kof h];simp[hd]
 omega
theorem kdi (tab:∀w h:Nat,(1<=w/\w<=5)->(1<=h/\h<=5)->∃T,Tab w h T) {p:iE} (hu:∀c∈p.2.2,0<=c.2.1) (m:Int) (hm:m=65537):jpo m fuel p=some true:=by
 obtain⟨W,H,cr⟩:=p;apply Ret.eq;unfold jpo;simp only;obtain⟨Z,hZ,hM⟩:∃Z:List Nat,(List.replicate (α:=Int) m.toNat 0).map Int.toNat=Z/\∃M:Nat,M=65537/\Z=List.replicate M 0:=⟨_,rfl,m.toNat,by omega,by rw[List.map_replicate];rfl⟩
 obtain⟨M,hM,hZM⟩:=hM;have hZl:Z.length=65537:=by rw[hZM,qeo,hM]
 have hall:((List.replicate (α:=Int) m.toNat 0).all λx=>decide (0<=x)&&decide (x<=255))=true:=by
  rw[cI];intro x hx;rw[(qfv.1 hx).2];rfl
 have d1:=kcz (s:=Z) (by omega);have d2:gD fuel ((Z.drop 0).take 65536)=some ((0,(0,[])),(1,4)):=by
  refine kc0 (by rw[nM];omega) (λg=>?_) λg=>?_
  ·have g2:=rM (wE g);rw[hZM] at g2;have:=(qfv.1 g2).2;omega
  ·have:=congrArg List.length g;rw[nM,fW,hZl] at this;simp at this
 have d3:=ki3 (s:=Z) (by omega);have d4:nG fuel ((Z.drop 0).take 65530)=some ([],3):=by
  rw[fW,hZM,List.take_replicate];exact ki4 (by omega)
 rw[hZ];have key:∀ {s:List Nat} {e want:Int},e=want->(want=0↔s≠[])->zZ fuel (W,(H,cr))=some (s,e)->jav fuel (W,(H,cr))=some want->Ret ((zZ fuel (W,(H,cr))).bind λr3=>(jav fuel (W,(H,cr))).bind λr4=>aB (decide (0<=m)&&decide (m<=m)&&decide (m<=1000000)) (aB ((List.replicate (α:=Int) m.toNat 0).all λx=>decide (0<=x)&&decide (x<=255)) ((gD fuel Z).bind λr5=>aB (cU 0 65536 Z.length) ((gD fuel ((Z.drop 0).take 65536)).bind λr6=>(nG fuel Z).bind λr7=>aB (cU 0 65530 Z.length) ((nG fuel ((Z.drop 0).take 65530)).bind λr8=>bif(decide (r3.2=r4)) then(bif((decide (r4=0))==(decide (r3.1≠[]))) then(bif(decide (r5.2.2=3)) then(bif(decide (r5.2.1=0)) then(bif(decide (r6.2.2=4)) then(bif(decide (r6.2.1=1)) then(bif(decide (r7.2=3)) then(bif(decide (r8.2=3)) then((qD fuel ()).bind λr9=>some r9) else(some false)) else(some false)) else(some false)) else(some false)) else(some false)) else(some false)) else(some false)) else(some false)))))) λx=>x=true:=λ{s e want} h1 h2 h3 h4=>by
  rw[h3,aC,h4,aC];refine aA (by simp only[aW,aQ];omega) (aA hall ?_);rw[d1,aC,d2,d3,d4];refine aA (cN.2 ⟨by omega,by omega,by omega⟩) ?_;rw[aC,aC];refine aA (cN.2 ⟨by omega,by omega,by omega⟩) ?_;rw[aC];refine aD (λ_=>cV (λ_=>?_) λg=>?_) λg=>absurd h1 g
  ·exact aD (λ_=>aD (λ_=>aD (λ_=>aD (λ_=>aD (λ_=>aD (λ_=>u5) λg=>absurd (by trivial) g) λg=>absurd (by trivial) g) λg=>absurd (by trivial) g) λg=>absurd (by trivial) g) λg=>absurd (by trivial) g) λg=>absurd (by trivial) g
  ·exfalso;simp only at g;by_cases h5:want=0
   ·have h6:=h2.1 h5;rw[bD h5,bD h6] at g;cases g
   ·have h6:¬s≠[]:=λh7=>h5 (h2.2 h7)
    rw[kN h5,kN h6] at g;cases g
 refine oQ (λb=>b=true\/cr.length<=20/\(fD fuel (W,H)=some 0/\gG fuel (W,H)=some 1\/fD fuel (W,H)=some 1/\1<=W/\W<=5/\1<=H/\H<=5)) (λb hb=>?_) λj hj=>?_
 rotate_left
 ·refine aD (λ_=>hj _ (.inl rfl)) λhl=>?_
  rcases B9 (W,H) with⟨hv,hw,hh⟩ | ⟨hv,hc⟩
  ·rw[hv,aC];refine aD (λ_=>aD (λ_=>hj _ (.inl rfl)) λhW=>?_) λg=>absurd (by trivial) g
   by_cases hH:5<H
   ·exact hj _ (.inl (by simp[hH]))
   ·exact hj _ (.inr ⟨by omega,.inr ⟨hv,hw,by omega,hh,by omega⟩⟩)
  ·rw[hv,aC];refine aD (λg=>absurd g (by decide)) λ_=>hj _ (.inr ⟨by omega,.inl ⟨hv,hc⟩⟩)
 refine cV (λ_=>aS rfl) λhbf=>?_
 rcases hb with hb | ⟨hl,hb⟩
 ·rw[hb] at hbf;cases hbf
 rcases hb with⟨hv,hc⟩ | ⟨hv,hw,hw5,hh,hh5⟩
 ·have e1:qJ fuel (W,(H,cr))=some 1:=by
   unfold qJ;simp only;rw[hc,aC];rfl
  have e2:mH fuel (W,(H,cr))=some ([],1):=by
   unfold mH;simp only;rw[e1,aC];rfl
  have e3:jav fuel (W,(H,cr))=some 1:=by
   unfold jav;simp only;rw[hv,aC];rfl
  have e4:zZ fuel (W,(H,cr))=some ([],1):=by
   show uE (mH fuel) (fG fuel) (eX fuel) (pL fuel) (W,(H,cr))=_;unfold uE;rw[e2,aC];rfl
  exact key rfl (by simp) e4 e3
 ·obtain⟨w,rfl⟩:∃w:Nat,W=(w:Int):=⟨W.toNat,by omega⟩
  obtain⟨h,rfl⟩:∃h:Nat,H=(h:Int):=⟨H.toNat,by omega⟩
  obtain⟨T,t⟩:=tab w h (by omega) (by omega);have bw:1<=w/\w<=6:=by omega
  have bh:1<=h/\h<=6:=by omega
  have e1:=B0 t bw bh (cr:=cr) (by omega) hu;have e3:=knc t bw bh (cr:=cr) (by omega);by_cases h0:jQ T cr=0
  ·obtain⟨e4,_⟩:=jaf t bw bh (kcq h0);rw[h0] at e3;exact key rfl (by simp[bZ]) e4 e3
  ·have e2:mH fuel ((w:Int),((h:Int),cr))=some ([],jQ T cr):=by
    unfold mH;simp only;rw[e1,aC];simp only[h0,ne_eq,iK,aU,aH]
   have e4:zZ fuel ((w:Int),((h:Int),cr))=some ([],jQ T cr):=by
    show uE (mH fuel) (fG fuel) (eX fuel) (pL fuel) ((w:Int),((h:Int),cr))=_;unfold uE;rw[e2,aC];exact dG h0
   exact key rfl (by simp[h0]) e4 e3
theorem j85 (tab:∀w h:Nat,(1<=w/\w<=5)->(1<=h/\h<=5)->∃T,Tab w h T) {p:iE} (hu:∀c∈p.2.2,0<=c.2.1):juf fuel p=some true:=kdi tab hu 65537 rfl
end X
end Go.Vm
namespace Go.Vm
namespace X
theorem S7 (w h:Nat) (hw:1<=w/\w<=4) (hh:1<=h/\h<=4):∃T,Tab w h T:=by
 rcases(by omega:w=1\/w=2\/w=3\/w=4) with e | e | e | e<;>rcases(by omega:h=1\/h=2\/h=3\/h=4) with f | f | f | f<;>subst e<;>subst f
 ·exact⟨_,jh5⟩
 ·exact⟨_,jh6⟩
 ·exact⟨_,jh7⟩
 ·exact⟨_,jh8⟩
 ·exact⟨_,jh9⟩
 ·exact⟨_,jia⟩
 ·exact⟨_,jib⟩
 ·exact⟨_,jic⟩
 ·exact⟨_,jid⟩
 ·exact⟨_,jie⟩
 ·exact⟨_,jif⟩
 ·exact⟨_,jig⟩
 ·exact⟨_,jih⟩
 ·exact⟨_,jii⟩
 ·exact⟨_,jij⟩
 ·exact⟨_,jik⟩
end X
end Go.Vm
namespace Go.Vm
namespace X
theorem jm1 (w h:Nat) (hw:1<=w/\w<=5) (hh:1<=h/\h<=5):∃T,Tab w h T:=by
 by_cases gw:w=5
 ·subst gw;rcases(by omega:h=1\/h=2\/h=3\/h=4\/h=5) with e | e | e | e | e<;>subst e
  ·exact⟨_,jwz⟩
  ·exact⟨_,jw0⟩
  ·exact⟨_,jw1⟩
  ·exact⟨_,jw2⟩
  ·exact⟨_,jil⟩
 by_cases gh:h=5
 ·subst gh;rcases(by omega:w=1\/w=2\/w=3\/w=4\/w=5) with e | e | e | e | e<;>subst e
  ·exact⟨_,jwv⟩
  ·exact⟨_,jww⟩
  ·exact⟨_,jwx⟩
  ·exact⟨_,jwy⟩
  ·exact⟨_,jil⟩
 exact S7 w h (by omega) (by omega)
end X
end Go.Vm
