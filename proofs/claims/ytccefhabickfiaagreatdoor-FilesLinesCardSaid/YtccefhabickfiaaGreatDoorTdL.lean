/- Files: the law, as plain lists (what the program's functions and the definition compute). -/
import Derived.Test.YtccefhabickfiaaGreatDoorTb
import Derived.Test.YtccefhabickfiaaGreatDoorTg
import Derived.Test.YtccefhabickfiaaGreatDoorMS
set_option linter.unusedSimpArgs false
set_option linter.unusedVariables false
namespace Go.Vm.X
open Go Go.Vm Go.Vm.W
noncomputable section
set_option maxRecDepth 100000
def jm0 (N:Nat) (a:(Int×(Int×(Int×(Int×Int))))):Option (Int×((Int×Int)×(Int×Int))):=aA (aM ((a.2.2.2.1:Int).tmod 12)) (aA (aM ((a.2.2.1:Int).tmod 9)) (aA (aM (((a.2.2.2.1:Int).tmod 12)+1)) (aA (aM ((a.2.2.2.2:Int).tmod 10)) (aA (aM ((((a.2.2.2.1:Int).tmod 12)+1)+ ((a.2.2.2.2:Int).tmod 10))) (some ((IntKind.u8.wrap (1+ ((a.1:Int).tmod 3))),(((IntKind.u8.wrap (1+ ((a.2.1:Int).tmod 4))),((a.2.2.1:Int).tmod 9)),(((a.2.2.2.1:Int).tmod 12),((((a.2.2.2.1:Int).tmod 12)+1)+ ((a.2.2.2.2:Int).tmod 10))))))))))
abbrev jvq (N:Nat):TE:=⟨23,[(.d (.prod (.int .u8) (.prod (.int .u8) (.prod (.int .i8) (.prod (.int .u8) (.int .u8))))))],[(.d (.prod (.int .u8) (.prod (.prod (.int .u8) (.int .i64)) (.prod (.int .i64) (.int .i64)))))],jm0 N⟩
theorem khh:eQ (λN=>[]) j6w jvq:=λN a=>by kernel_rfl
def jm2 (N:Nat) (a:((Int×(Int×(List Int)))×((List Int)×(Int×(Int×(Int×(Int×Int))))))):Option Bool:=(sN N (a.1.1,(a.1.2.1,a.1.2.2))).bind λr1=>(zG N (r1.1,(r1.2.1,r1.2.2))).bind λr2=>(lW N (r2,10)).bind λr3=>(fun(n3:Nat) (i3:Int)=>aA (aM (((r3.length:Nat):Int)-1)) (aA (cY 0 (((r3.length:Nat):Int)-1) r3.length) (aA (aM (a.2.1.getD 0 0)) (aA (decide (0<=(a.2.1.getD 0 0))&&decide (0< ((n3:Nat):Int))) ((jm0 N (a.2.2.1,(a.2.2.2.1,(a.2.2.2.2.1,(a.2.2.2.2.2.1,a.2.2.2.2.2.2))))).bind λr4=>(z8 N (r4.1,((r4.2.1.1,r4.2.1.2),(r4.2.2.1,r4.2.2.2)))).bind λr5=>aA (decide (0<=(a.2.1.getD 1 0))&&decide (0< (6:Int))) (jn (fun(x6:(List (List Nat)))=>dF (λrec12 (x12:((List Nat)×Int))=>bif(decide (x12.2< ((x6.length:Nat):Int))) then(aA (aU x12.2 x6.length) (aA (decide ((x6.getD x12.2.toNat []).length+1<=4000000000)) (aA (decide (x12.1.length+ ((x6.getD x12.2.toNat [])++[10]).length<=4000000000)) (aA (aM (x12.2+1)) (rec12 ((x12.1++((x6.getD x12.2.toNat [])++[10])),(x12.2+1))))))) else((sC N x12.1).bind λr13=>(wC N r13).bind λr14=>bif r14 then((wC N x12.1).bind λr15=>bif r15 then((sC N x12.1).bind λr16=>aA (decide (r16.length+6<=4000000000)) ((wC N (r16++[101,110,100,32,49,10])).bind λr17=>bif r17 then((uB N ()).bind λr18=>some r18) else(some false))) else(some false)) else(some false))) N ([],0)) (λj6=>bif(decide (((a.2.1.getD 1 0)%6)=0)) then(aA (aU i3 n3) (aA (Nat.beq 0 0) (j6 ((r3.set (0+ (i3:Int).toNat) r5).take n3)))) else(jn (fun(x7:(List (List Nat)))=>j6 x7) (λj7=>bif(decide (((a.2.1.getD 1 0)%6)=1)) then(aA (cY 0 i3 n3) (aA (fS (0+ ((r3.drop (0+0)).take (i3:Int).toNat).length)) (aA (aM (i3+1)) (aA (cY (i3+1) ((n3:Nat):Int) n3) (aA (fS (([]++((r3.drop (0+0)).take (i3:Int).toNat)).length+ ((r3.drop (0+ ((i3+1):Int).toNat)).take (n3-((i3+1):Int).toNat)).length)) (j7 (([]++((r3.drop (0+0)).take (i3:Int).toNat))++((r3.drop (0+ ((i3+1):Int).toNat)).take (n3-((i3+1):Int).toNat))))))))) else(jn (fun(x8:(List (List Nat)))=>j7 x8) (λj8=>bif(decide (((a.2.1.getD 1 0)%6)=2)) then(aA (aM (i3+1)) (aA (cY 0 (i3+1) n3) (aA (fS (0+ ((r3.drop (0+0)).take ((i3+1):Int).toNat).length)) (aA (cY i3 ((n3:Nat):Int) n3) (aA (fS (([]++((r3.drop (0+0)).take ((i3+1):Int).toNat)).length+ ((r3.drop (0+ (i3:Int).toNat)).take (n3-(i3:Int).toNat)).length)) (j8 (([]++((r3.drop (0+0)).take ((i3+1):Int).toNat))++((r3.drop (0+ (i3:Int).toNat)).take (n3-(i3:Int).toNat))))))))) else(jn (fun(x9:(List (List Nat)))=>j8 x9) (λj9=>bif(decide (((a.2.1.getD 1 0)%6)=3)) then(aA (aM (i3+1)) (jn (fun(x10:((List (List Nat))×Option Nat))=>aA (Nat.beq 0 0) (j9 (x10.1.take n3))) (λj10=>bif(decide ((i3+1)< ((n3:Nat):Int))) then(aA (aM (i3+1)) (aA (aM (i3+1)) (aA (aU (i3+1) n3) (aA (aU i3 n3) (aA (aU i3 n3) (aA (aU (i3+1) n3) (j10 (((r3.set (0+ (i3:Int).toNat) (r3.getD (0+ ((i3+1):Int).toNat) [])).set (0+ ((i3+1):Int).toNat) (r3.getD (0+ (i3:Int).toNat) [])),none)))))))) else(j10 (r3,none))))) else(jn (fun(x11:(List (List Nat)))=>j9 x11) (λj11=>bif(decide (((a.2.1.getD 1 0)%6)=4)) then(aA (cY 0 i3 n3) (aA (cY i3 ((n3:Nat):Int) n3) (aA (fS (0+ ((r3.drop (0+0)).take (i3:Int).toNat).length)) (aA (fS (([]++((r3.drop (0+0)).take (i3:Int).toNat)).length+1)) (aA (fS ((([]++((r3.drop (0+0)).take (i3:Int).toNat))++[r5]).length+ ((r3.drop (0+ (i3:Int).toNat)).take (n3-(i3:Int).toNat)).length)) (j11 ((([]++((r3.drop (0+0)).take (i3:Int).toNat))++[r5])++((r3.drop (0+ (i3:Int).toNat)).take (n3-(i3:Int).toNat))))))))) else(aA (aU i3 n3) (aA (decide ((r3.getD (0+ (i3:Int).toNat) []).length+1<=4000000000)) (aA (aU i3 n3) (aA (Nat.beq 0 0) (j11 ((r3.set (0+ (i3:Int).toNat) ((r3.getD (0+ (i3:Int).toNat) [])++[32])).take n3))))))))))))))))))))) (((((r3.length:Nat):Int)-1):Int).toNat) ((a.2.1.getD 0 0)% ((((((r3.length:Nat):Int)-1):Int).toNat:Nat):Int))
abbrev j47 (N:Nat):TE:=⟨5,[(.d (.prod (.int .u8) (.prod (.int .u8) (.sl (.int .u8))))),(.d (.arr 2 (.int .u8))),(.d (.prod (.int .u8) (.prod (.int .u8) (.prod (.int .i8) (.prod (.int .u8) (.int .u8))))))],[(.d .bool)],jm2 N⟩
theorem khj:eQ (λN=>[jfz N,jdc N,jfy N,jjv N,jju N,jj0 N,jps N,jvq N]) j6y j47:=λN a=>by kernel_rfl
end
end Go.Vm.X
namespace Go.Proofs.YtccefhabickfiaaGreatDoor
namespace Vm
open Go Go.Vm Go.Vm.W Go.Vm.X
noncomputable section
set_option maxRecDepth 100000
variable (mx:Int)
theorem kai:CK mx j6y:=dH
theorem kag:CK mx j6w:=dH
theorem kjc:OK mx 1 (jvq fuel):=cW (m:=0) (d:=0) cR cQ (cP mx) (kag mx) (λa=>khh fuel a)
theorem kje:OK mx 26 (j47 fuel):=cW (m:=25) (d:=0) (oC (joh mx) (oC (jil mx) (oC (jog mx) (oC (jt1 mx) (oC (jt0 mx) (oC (jt4 mx) (oC (j2i mx) (oC (kjc mx) cR)))))))) cQ (cP mx) (kai mx) (λa=>khj fuel a)
end
end Vm
end Go.Proofs.YtccefhabickfiaaGreatDoor
namespace Go.Proofs.YtccefhabickfiaaGreatDoor
open Go.ChangeShapes Go.WideShapes Go.ChangeAt Go.RowKit Go.Deep
namespace Vm
open Go Go.Vm Go.Vm.W Go.Vm.X
set_option maxRecDepth 100000
section
variable {H:Type} {enc:TypeId×Value->H} {W:World}
end
theorem kb1:Tryz.prog.cellsOf 47=5:=by kernel_rfl
theorem kb0:Tryz.prog.cellsOf 45=1:=by kernel_rfl
theorem kn9 {P:Program} {H:Type} {enc:TypeId×Value->H} {w:World} {base:Nat} {spare:Nat->Bool} {held:Bool} {t:TypeId} {f0 f1 f2 f3 f4:Field} {fuel:Nat} {cs:List Value} {x:DataW H×List MemPlace} (ht:P.underlying t=some (.struct #[f0,f1,f2,f3,f4])) (h:DataW.trod enc P w base spare held fuel t cs=some x):
  ∃y0 y1 y2 y3 y4 n,cs.length=P.cellsOf t/\DataW.trod enc P w base spare held n f0.type ((cs.drop f0.offset).take (P.cellsOf f0.type))=some y0/\
   DataW.trod enc P w base spare held n f1.type ((cs.drop f1.offset).take (P.cellsOf f1.type))=some y1/\DataW.trod enc P w base spare held n f2.type ((cs.drop f2.offset).take (P.cellsOf f2.type))=some y2/\
   DataW.trod enc P w base spare held n f3.type ((cs.drop f3.offset).take (P.cellsOf f3.type))=some y3/\DataW.trod enc P w base spare held n f4.type ((cs.drop f4.offset).take (P.cellsOf f4.type))=some y4:=by
 obtain⟨xs,n,_,rfl,hl,hlen,hf⟩:=DataW.trod_struct ht h
 match xs,hlen with
 | [y0,y1,y2,y3,y4],_=>exact⟨y0,y1,y2,y3,y4,n,hl,by simpa using hf 0 f0 rfl,by simpa using hf 1 f1 rfl,by simpa using hf 2 f2 rfl,by simpa using hf 3 f3 rfl,by simpa using hf 4 f4 rfl⟩
section
variable {H:Type} {enc:TypeId×Value->H} {W:World}
end
theorem kb2:Tryz.prog.cellsOf 44=2:=by kernel_rfl
section
variable {H:Type} {enc:TypeId×Value->H} {W:World}
theorem kkk {b0:Nat} {v:Value} {d:DataW H} {p:List MemPlace} (hv:Value.okWide Tryz.prog W .any b0 44 v) (h:DataW.Trod enc Tryz.prog W 0 (λ_=>true) true 44 v d p):
  ∃a b:Int,v=.agg #[.int .u8 a,.int .u8 b]/\(0<=a/\a<=255)/\(0<=b/\b<=255):=by
 obtain⟨cs,rfl,hsz,_⟩:∃cs,v=.agg cs/\cs.size=Tryz.prog.cellsOf 44/\Row.okWide Tryz.prog W .any b0 44 cs:=by
  simpa[Value.okWide,Tryz.underlying44] using hv
 rw[kb2] at hsz;obtain⟨fu,hfu⟩:=h;obtain⟨l⟩:=cs
 match l,hsz with
 | [c0,c1],_=>
   have hf2:DataW.trod enc Tryz.prog W 0 (λ_=>true) true fu 44 [c0,c1]=some (d,p):=by simpa[Value.cells] using hfu
   obtain⟨xs,m,_,_,_,hl,hel⟩:=DataW.trod_array Tryz.underlying44 hf2
   match xs,hl with
   | [y0,y1],_=>
     have h0:DataW.trod enc Tryz.prog W 0 (λ_=>true) true m 5 [c0]=some y0:=by simpa[jba] using hel 0 (by decide)
     have h1:DataW.trod enc Tryz.prog W 0 (λ_=>true) true m 5 [c1]=some y1:=by simpa[jba] using hel 1 (by decide)
     obtain⟨a,ea,_,wa⟩:=wG Tryz.underlying5 h0;obtain⟨b,eb,_,wb⟩:=wG Tryz.underlying5 h1;cases ea;cases eb;exact⟨a,b,rfl,R9 wa,R9 wb⟩
theorem kkm {b0:Nat} {v:Value} {d:DataW H} {p:List MemPlace} (hv:Value.okWide Tryz.prog W .any b0 47 v) (h:DataW.Trod enc Tryz.prog W 0 (λ_=>true) true 47 v d p):
  ∃a b c e f:Int,v=.agg #[.int .u8 a,.int .u8 b,.int .i8 c,.int .u8 e,.int .u8 f]/\0<=a/\0<=b/\0<=e/\0<=f:=by
 obtain⟨cs,rfl,hsz⟩:=okWide_struct Tryz.underlying47 hv;rw[kb1] at hsz;obtain⟨fu,hfu⟩:=h;obtain⟨l⟩:=cs
 match l,hsz with
 | [c0,c1,c2,c3,c4],_=>
   have hf2:DataW.trod enc Tryz.prog W 0 (λ_=>true) true fu 47 [c0,c1,c2,c3,c4]=some (d,p):=by simpa[Value.cells] using hfu
   obtain⟨y0,y1,y2,y3,y4,m,_,h0,h1,h2,h3,h4⟩:=kn9 Tryz.underlying47 hf2;have h0:DataW.trod enc Tryz.prog W 0 (λ_=>true) true m 5 [c0]=some y0:=by simpa[jba] using h0
   have h1:DataW.trod enc Tryz.prog W 0 (λ_=>true) true m 5 [c1]=some y1:=by simpa[jba] using h1
   have h2:DataW.trod enc Tryz.prog W 0 (λ_=>true) true m 45 [c2]=some y2:=by simpa[kb0] using h2
   have h3:DataW.trod enc Tryz.prog W 0 (λ_=>true) true m 5 [c3]=some y3:=by simpa[jba] using h3
   have h4:DataW.trod enc Tryz.prog W 0 (λ_=>true) true m 5 [c4]=some y4:=by simpa[jba] using h4
   obtain⟨a0,e0,_,w0⟩:=wG Tryz.underlying5 h0;obtain⟨a1,e1,_,w1⟩:=wG Tryz.underlying5 h1;obtain⟨a2,e2,_,_⟩:=wG Tryz.underlying45 h2;obtain⟨a3,e3,_,w3⟩:=wG Tryz.underlying5 h3;obtain⟨a4,e4,_,w4⟩:=wG Tryz.underlying5 h4;cases e0;cases e1;cases e2;cases e3;cases e4;exact⟨a0,a1,a2,a3,a4,rfl,(R9 w0).1,(R9 w1).1,(R9 w3).1,(R9 w4).1⟩
end
abbrev tG1:Ty:=.prod (.int .u8) (.prod (.int .u8) (.prod (.int .i8) (.prod (.int .u8) (.int .u8))))
theorem khs {m:Nat} {f:FuncId} {run:iD [.d Q9,.d (.arr 2 (.int .u8)),.d tG1]->Option (iD [.d .bool])} (ho:∀mx,eG (BB mx) (told mx) prog m [⟨f,[.d Q9,.d (.arr 2 (.int .u8)),.d tG1],[.d .bool],run⟩]) {W:World} (hsh:W.ShapedOpen Tryz.prog) (hL:laidMetH Tryz.prog Rows.filesBackRow.laid W) {v0:Value} {l0:Vm.Loc} {L:List Int} {M:List AV} {a b z0 z1 g0 g1 g2 g3 g4:Int}
  (hrun:run ((a,(b,L)),([z0,z1],(g0,(g1,(g2,(g3,g4))))))=some true) (h0:∀A,dP (cB A (.int .u8)) L M) (k0:jdq 1 W v0 l0 L.length M):
  Calls Tryz.prog f #[.agg #[.int .u8 a,.int .u8 b,v0],.agg #[.int .u8 z0,.int .u8 z1],.agg #[.int .u8 g0,.int .u8 g1,.int .i8 g2,.int .u8 g3,.int .u8 g4]] W λe W'=>e=.returned (.bool true)/\Below W.heap.size W W':=by
 obtain⟨mx,p1,p2,hR⟩:=start hsh hL [l0];have r0:tC W 9 [p2,p1,l0] 11=some l0:=rfl;obtain⟨HA,O0,u0,A0,q1,q2,q3,q4,q5,q6,q7,q8⟩:=jtk (by decide) h0 rfl k0 r0 hR (jo9 mx) (jo8 mx) (show nx0<=11 by decide) (by decide) (by simp);refine jlm (t:=⟨f,[.d Q9,.d (.arr 2 (.int .u8)),.d tG1],[.d .bool],run⟩) (jqo mx) mixed O7 (n:=m) (ho mx _ (bW.2 rfl) m (bQ _)) rfl (a:=((a,(b,L)),([z0,z1],(g0,(g1,(g2,(g3,g4))))))) hrun q3 (A:=A0) (λx hx=>.inl (q5 x hx)) (vs:=[.agg [.int .u8 a,.int .u8 b,u0],.agg [.int .u8 z0,.int .u8 z1],.agg [.int .u8 g0,.int .u8 g1,.int .i8 g2,.int .u8 g3,.int .u8 g4]]) ?_ q1 jl9 (jou (show 9+3<=RO by decide)) q2 ?_
 ·exact⟨_,_,[],[],rfl,rfl,⟨_,rfl,rfl,⟨[_],[_,_],rfl,rfl,[_],[_],rfl,rfl,⟨_,rfl,q7⟩⟩,rfl⟩,_,_,[],[],rfl,rfl,⟨_,rfl,rfl,⟨rfl,⟨[_],[_],rfl,rfl,[_],[],rfl,rfl,rfl⟩⟩,rfl⟩,_,rfl,⟨_,rfl,rfl,⟨[_],[_,_,_,_],rfl,rfl,[_],[_,_,_],rfl,rfl,[_],[_,_],rfl,rfl,[_],[_],rfl,rfl,rfl⟩,rfl⟩⟩
 ·simp only[VRs,VR];exact⟨_,_,rfl,⟨_,rfl,_,_,rfl,rfl,_,_,rfl,rfl,_,_,rfl,q8,rfl⟩,_,_,rfl,⟨_,rfl,_,_,rfl,rfl,_,_,rfl,rfl,rfl⟩,_,_,rfl,⟨_,rfl,_,_,rfl,rfl,_,_,rfl,rfl,_,_,rfl,rfl,_,_,rfl,rfl,_,_,rfl,rfl,rfl⟩,rfl⟩
end Vm
end Go.Proofs.YtccefhabickfiaaGreatDoor
namespace Go.Vm
namespace X
open W
def dJ (c:UInt8):List UInt8->List (List UInt8)
 | []=>[[]]
 | b::l=>if b=c then []::dJ c l else match dJ c l with
   | w::ws=>(b::w)::ws
   | []=>[[b]]
theorem jbx {b c:UInt8} {l:List UInt8} (h:b≠c):Lib.index (b::l) [c]=if Lib.index l [c]== -1 then -1 else Lib.index l [c] +1:=by
 rw[Lib.index];have:([c]:List UInt8).isPrefixOf (b::l)=false:=by simp[List.isPrefixOf];exact λe=>h e.symm
 rw[this];simp
theorem jby {c:UInt8} {l:List UInt8}:Lib.index (c::l) [c]=0:=by
 rw[Lib.index];simp[List.isPrefixOf]
theorem jc0 {b c:UInt8} {l:List UInt8} (h:b≠c):∀k,∃w ws,Lib.splitK [c] 0 k l=w::ws/\Lib.splitK [c] 0 k (b::l)=(b::w)::ws
 | 0=>⟨l,[],rfl,rfl⟩
 | k+1=>by
   unfold Lib.splitK;rw[jbx h];by_cases h1:Lib.index l [c]= -1
   ·simp only[h1];exact⟨l,[],by simp,by simp⟩
   ·have hge:=Lib.index_ge l [c];have e1:(Lib.index l [c]== -1)=false:=by simpa using h1
    have e2:(Lib.index l [c] +1== -1)=false:=by simp;omega
    simp only[e1,e2,jX,dO];obtain⟨j,hj⟩:=qfa (show 0<=Lib.index l [c] by omega);rw[hj];refine⟨_,_,rfl,?_⟩;have e3:((j:Int)+1).toNat=j+1:=by omega
    simp only[e3,cZ,mG,zA,dU,qf2]
theorem nL (c:UInt8):∀s:List UInt8,Lib.split s [c]=dJ c s
 | []=>by
   unfold Lib.split;rw[Lib.count_one];rfl
 | b::l=>by
   have ih:=nL c l;unfold Lib.split at ih ⊢;by_cases h:b=c
   ·subst h;rw[Lib.count_cons_eq,I3];unfold Lib.splitK;rw[jby];simp only[dJ,cK];rw[<-ih];simp
   ·rw[Lib.count_cons_ne _ _ _ h];obtain⟨w,ws,e1,e2⟩:=jc0 h (Lib.count l [c]);rw[e2];simp only[dJ,h,dO];rw[<-ih,e1]
theorem vF {c:UInt8}:∀s:List UInt8,dJ c s≠[]
 | []=>by simp[dJ]
 | b::l=>by
   unfold dJ;split
   ·simp
   ·split<;>simp
theorem n9 (c:UInt8):∀s:List UInt8,Lib.join (dJ c s) [c]=s
 | []=>by simp[dJ,Lib.join_one]
 | b::l=>by
   have ih:=n9 c l;have hne:=vF (c:=c) l;unfold dJ;by_cases h:b=c
   ·rw[aH h];cases hs:dJ c l with
    | nil=>exact absurd hs hne
    | cons w ws=>
      rw[hs,Lib.join_cons] at ih;rw[Lib.join_cons,h];simp only[Lib.joinTail,dE,kE,eP,qfq,fB] at ih ⊢;rw[ih]
   ·rw[aC h];cases hs:dJ c l with
    | nil=>exact absurd hs hne
    | cons w ws=>
      rw[hs,Lib.join_cons] at ih;rw[Lib.join_cons];simp only[fB];rw[ih]
theorem nZ {w:List Nat} (h:∀x∈w,x<256):(u8 w).map UInt8.toNat=w:=by
 unfold u8;rw[jF];conv=>rhs;rw[<-uT w]
 refine lP λx hx=>?_
 have:=h x hx;simp[Function.comp,qgj,qfm this]
theorem pF (w:List UInt8):u8 (w.map UInt8.toNat)=w:=by
 unfold u8;rw[jF];conv=>rhs;rw[<-uT w]
 exact lP λx hx=>by simp[Function.comp]
theorem K4 {s:List Nat} (h:∀x∈s,x<256):iV (cD s [32]) [32]=s:=by
 unfold iV cD;rw[jF,show(u8∘λw:List UInt8=>w.map UInt8.toNat)=id from funext λw=>pF w,uT,show u8 [32]=[32] from rfl,nL,n9,nZ h]
theorem jdp {s:List Nat}:cD s [32]≠[]:=by
 unfold cD;rw[show u8 [32]=[32] from rfl,nL];intro h;exact vF _ (qf3.1 h)
theorem B0 {c:UInt8}:∀s:List UInt8,(dJ c s).length<=s.length+1/\∀w∈dJ c s,w.length<=s.length
 | []=>by simp[dJ]
 | b::l=>by
   obtain⟨h1,h2⟩:=B0 (c:=c) l;unfold dJ;split
   ·refine⟨by simp;omega,λw hw=>?_⟩;rcases bK.1 hw with rfl | hw
    ·simp
    ·have:=h2 w hw;simp;omega
   ·split
    ·rename_i w ws e;rw[e] at h1 h2;refine⟨by simp at h1 ⊢;omega,λx hx=>?_⟩;rcases bK.1 hx with rfl | hx
     ·have:=h2 w (bM ..);simpa using this
     ·have:=h2 x (bN _ hx);simp;omega
    ·refine⟨by simp,λx hx=>?_⟩;rw[bW.1 hx];simp
theorem C7 (s:List Nat):(cD s [32]).length<=s.length+1/\∀w∈cD s [32],w.length<=s.length:=by
 obtain⟨h1,h2⟩:=B0 (c:=32) (u8 s);unfold cD;rw[show u8 [32]=[32] from rfl,nL];refine⟨by simpa[u8] using h1,λw hw=>?_⟩;obtain⟨w',hw',rfl⟩:=bH.1 hw;simpa[u8] using h2 w' hw'
end X
end Go.Vm
namespace Go.Vm
namespace X
open W
set_option maxRecDepth 100000
def aX:Nat->Nat->List Nat
 | 0,_=>[]
 | k+1,u=>bif u.blt 10 then [48+u] else aX k (u / 10)++[48+u%10]
def bT (n:Int):List Nat:=aX 20 n.toNat
theorem b6 (a b:Nat):a.blt b=decide (a<b):=by
 simp only[Nat.blt,bB];rfl
theorem nP:∀(k u:Nat),u<10^k->k≠0->aX k u=(Lib.decDigits u).map UInt8.toNat
 | 0,u,_,h=>absurd rfl h
 | k+1,u,h,_=>by
   unfold aX;rw[Lib.decDigits,b6];by_cases g:u<10
   ·rw[bJ g,dif_pos g];simp;omega
   ·rw[lF g,dif_neg g];have hk:k≠0:=by
     intro e;subst e;simp at h;omega
    simp only[aG,eI,dE,lD];rw[nP k (u / 10) (by rw[pL] at h;omega) hk]
    congr 2
    simp;omega
theorem gX:∀(k u:Nat),(aX k u).length<=k
 | 0,u=>by simp[aX]
 | k+1,u=>by
   unfold aX;cases h:u.blt 10 with
   | true=>simp
   | false=>have:=gX k (u / 10);simp;omega
theorem oA (n:Int):IntKind.u8.wrap n=n%256:=by simp[IntKind.wrap,IntKind.bits,IntKind.signed]
theorem jdn {v:Int} (h1:0<=v) (h2:v<=9223372036854775807):IntKind.i64.wrap v=v:=jhk (aY (by omega) (by omega))
theorem zL:∀(k u:Nat),u<10^k->u<9223372036854775800->k≠0->k<=1000->z7 fuel k (u:Int)=some (aX k u)
 | 0,u,_,_,h,_=>absurd rfl h
 | k+1,u,h,hu,_,hk1=>by
   apply Ret.eq;show Ret (I7 fuel (z7 fuel k) (u:Int)) _;unfold I7 aX;rw[b6];refine aD (λg=>absurd g (by omega)) λ_=>aD (λg=>?_) λg=>?_
   ·rw[bJ (show u<10 by omega)];rw[oA,show(48+ (u:Int))%256=((48+u:Nat):Int) by omega];refine aV (aK (by simp;omega) (aW (by simp;omega)))
   ·rw[lF (show ¬u<10 by omega)];have hk:k≠0:=by
     intro e;subst e;simp at h;omega
    have e1:(u:Int) / 10=((u / 10:Nat):Int):=by omega
    have e2:(48+ (u:Int)%10)%256=((48+u%10:Nat):Int):=by omega
    rw[oA,e2,e1,jdn (by omega) (by omega),zL k (u / 10) (by rw[pL] at h;omega) (by omega) hk (by omega),aB];have hl:=gX k (u / 10);refine aK (by simp) (aK (by simp) (aV (aK (by simp;omega) (aK (by simp;omega) (aW ?_)))));simp;omega
theorem jbj {k j u:Nat} (h:u<10^k) (hk:k≠0) (hj:k<=j):aX j u=aX k u:=by
 rw[nP k u h hk,nP j u (mS h (nI (by decide) hj)) (by omega)]
theorem pA {n:Int} (h0:0<=n) (h1:n<1000000000000000):mV fuel n=some (bT n):=by
 unfold mV bT;have h2:n.toNat<10^20:=by have:(10:Nat)^20=100000000000000000000:=(by decide);omega
 have:=zL 22 n.toNat (mS h2 (by decide)) (by omega) (by decide) (by decide);rw[show((n.toNat:Nat):Int)=n by omega] at this;rw[this,jbj h2 (by decide) (by decide)]
theorem jdk (n:Int):IntKind.u32.wrap n=n%4294967296:=by simp[IntKind.wrap,IntKind.bits,IntKind.signed]
theorem jdl (n:Int):IntKind.u64.wrap n=n%18446744073709551616:=by simp[IntKind.wrap,IntKind.bits,IntKind.signed]
theorem jdg {m:Nat} (h:m<100):dS.getD (2*m) 0=48+m / 10/\dS.getD (2*m+1) 0=48+m%10:=by
 have:(List.range 100).all (λm=>(dS.getD (2*m) 0).beq (48+m / 10)&&(dS.getD (2*m+1) 0).beq (48+m%10))=true:=by kernel_rfl
 have:=cJ.1 this m (fN.2 h);simpa[bE] using this
def Buf (l:List Int):Prop:=l.length=24/\∀x∈l,0<=x/\x<=255
theorem Buf.set {l:List Int} {i:Nat} {v:Int} (h:Buf l) (h1:0<=v) (h2:v<=255):Buf (l.set i v):=by
 refine⟨by rw[sB];exact h.1,λx hx=>?_⟩;rcases X8 hx with h3 | h3
 ·exact h.2 x h3
 ·rw[h3];exact⟨h1,h2⟩
theorem Buf.all {l:List Int} (h:Buf l) (m o:Nat):((List.take m (List.drop o l)).all λx=>decide (0<=x)&&decide (x<=255))=true:=by
 rw[cJ];intro x hx;have:=h.2 x (uR (yZ hx));simpa using this
structure DigInv (n d:Nat) (i:Int) (L:List Int):Prop where
 buf:Buf L
 dg:∀k:Nat,i<=k->k<d->L[1+k]?=some ((48+n / 10^ (d-1-k)%10:Nat):Int)
theorem vD {L:List Int} {i j:Nat} {v:Int} (hi:i<L.length):(L.set i v)[j]?=if i=j then some v else L[j]?:=by
 rw[P7];by_cases h:i=j
 ·subst h;simp[hi]
 ·simp[h]
theorem DigInv.two {n d:Nat} {i j1 j2 a b:Int} {L:List Int} (h:DigInv n d i L) (hd:d<=20) (hi:2<=i) (hid:i<=d) (e1:j1=i-1) (e2:j2=i-2)
  (ha:a=2* ((n / 10^ (d-i.toNat):Nat):Int)%200+1) (hb:b=2* ((n / 10^ (d-i.toNat):Nat):Int)%200):
  DigInv n d j2 ((L.set (1+j1.toNat) ((dS.getD a.toNat 0:Nat):Int)).set (1+j2.toNat) ((dS.getD b.toNat 0:Nat):Int)):=by
 obtain⟨v,hv⟩:∃v,v=n / 10^ (d-i.toNat):=⟨_,rfl⟩
 rw[<-hv] at ha hb;have ea:a.toNat=2* (v%100)+1:=by omega
 have eb:b.toNat=2* (v%100):=by omega
 obtain⟨t1,t2⟩:=jdg (m:=v%100) (by omega);rw[ea,eb,t1,t2];have hL:=h.buf.1;refine⟨(h.buf.set (by omega) (by omega)).set (by omega) (by omega),λk k1 k2=>?_⟩;rw[vD (by rw[sB];omega),vD (by omega)];by_cases g2:1+j2.toNat=1+k
 ·rw[aH g2];have e3:d-1-k=(d-i.toNat)+1:=by omega
  rw[e3,pL,<-Y2,<-hv]
  congr 2
  omega
 ·rw[aC g2];by_cases g1:1+j1.toNat=1+k
  ·rw[aH g1];have e3:d-1-k=d-i.toNat:=by omega
   rw[e3,<-hv]
   congr 2
   omega
  ·rw[aC g1];exact h.dg k (by omega) k2
theorem DigInv.one {n d:Nat} {v:Int} {L:List Int} (h:DigInv n d 1 L) (hd:1<=d) (hn:n<10^d) (hv:v=48+ ((n / 10^ (d-1):Nat):Int)):DigInv n d 0 (L.set 1 v):=by
 have hL:=h.buf.1;have hq:n / 10^ (d-1)<10:=by
  rw[P5 (Z2 (by decide))];rw[qg0,<-pL,show(d-1).succ=d by omega];exact hn
 obtain⟨q,hq0⟩:∃q:Nat,q=n / 10^ (d-1):=⟨_,rfl⟩
 rw[<-hq0] at hv hq;refine⟨h.buf.set (by omega) (by omega),λk k1 k2=>?_⟩;rw[vD (by omega)];by_cases g:1=1+k
 ·rw[aH g];have:k=0:=by omega
  subst this;rw[hv,rC,<-hq0]
  congr 1
  omega
 ·rw[aC g];exact h.dg k (by omega) k2
theorem DigInv.out {n d:Nat} {L:List Int} (h:DigInv n d 0 L) (hd:d<=20) (e:Lib.nDigits n=d) (hn:n<10^20):(List.take ((1+ (d:Int)).toNat-1) (List.drop 1 L)).map Int.toNat=aX 20 n:=by
 rw[nP 20 n hn (by decide),Lib.decDigits_eq,e,show(1+ (d:Int)).toNat-1=d by omega];have hL:=h.buf.1;refine X9 (by simp;omega) λk k1 k2=>?_
 have hk:k<d:=by simpa using k2
 have h1:=h.dg k (by omega) hk;obtain⟨h2,h3⟩:=nC.1 h1;simp only[Y0,qhc,sV,sS];rw[h3,Lib.dg];obtain⟨q,hq0⟩:∃q:Nat,q=n / 10^ (d-1-k):=⟨_,rfl⟩
 rw[<-hq0,cZ,qg2];omega
theorem jca {u:Nat} (h1:1<=u) (h2:u<18446744073709551616):yN fuel (u:Int)=some ((Lib.nDigits u:Nat):Int):=by
 apply Ret.eq;unfold yN;have e1:G5 fuel (u:Int)=some ((Lib.bitLen u:Nat):Int):=by
  unfold G5 jet;rw[bJ (by omega)];rfl
 have b1:=Lib.bitLen_le u 64 (bQ _) (by omega);obtain⟨d1,d2⟩:=Lib.numDigits_eq u h1 h2;rw[e1,aB];have e2:F0 fuel ((Lib.bitLen u:Nat):Int)=some ((Lib.l10 (Lib.bitLen u):Nat):Int):=by
  unfold F0 jex;rw[bJ (by omega)];rfl
 rw[e2,aB];generalize Lib.l10 (Lib.bitLen u)=q at d1 d2 ⊢;have hp:u5.getD ((q:Int)).toNat 0=((10^q:Nat):Int):=by
  have:(List.range 20).all (λq=>decide (u5.getD q 0=((10^q:Nat):Int)))=true:=by kernel_rfl
  have:=cJ.1 this q (fN.2 (by omega));simpa using this
 rw[hp];refine eX (aD (λg=>?_) λg=>?_)
 ·rw[aH (by omega)] at d1;exact aV (aW (by omega))
 ·rw[aC (by omega)] at d1;exact aV (aW (by omega))
theorem kY {u d:Nat} {i j:Int} (h:2<=i) (hd:i<=d) (e:j=i-2):u / 10^ (d-j.toNat)=u / 10^ (d-i.toNat) / 100:=by
 rw[show d-j.toNat=(d-i.toNat)+2 by omega,Z3,<-Y2]
theorem u7 {u d:Nat} {i:Int} (h:u<10^d) (h0:0<=i) (hi:i<=d):u / 10^ (d-i.toNat)<10^i.toNat:=by
 rw[P5 (Z2 (by decide)),<-Z3,show i.toNat+ (d-i.toNat)=d by omega];exact h
theorem jas:(List.range 100).all (λk=>match fU fuel (k:Int) with
 | some l=>decide (l=aX 20 k)
 | none=>false)=true:=by kernel_rfl
theorem pB {n:Int} (h0:0<=n) (h1:n<9223372036854775808):fU fuel n=some (bT n):=by
 by_cases hs:n<100
 ·have:=cJ.1 jas n.toNat (fN.2 (by omega));rw[show((n.toNat:Nat):Int)=n by omega] at this;split at this
  ·rename_i l e;rw[e];unfold bT
   congr 1
   exact of_decide_eq_true this
  ·cases this
 obtain⟨u,rfl⟩:∃u:Nat,n=(u:Int):=⟨n.toNat,by omega⟩
 have hdn:bT (u:Int)=aX 20 u:=rfl;apply Ret.eq;unfold fU;simp only[jdk,jdl,oA];refine aD (λ_=>aD (λg=>absurd g hs) λ_=>?_) λg=>absurd h0 g
 refine oU (λx=>x=(u:Int)) (λx1 hx=>?_) λj hj=>aD (λg=>absurd g (by omega)) λ_=>hj _ (by omega)
 subst hx;rw[jca (by omega) (by omega),aB];obtain⟨d,hd⟩:∃d,d=Lib.nDigits u:=⟨_,rfl⟩
 have hu:=Lib.lt_pow_nDigits u;obtain⟨d1,d2⟩:=Lib.numDigits_eq u (by omega) (by omega);have hd20:d<=20:=by
  rw[<-hd] at d1;split at d1<;>omega
 rw[<-hd] at hu ⊢;have out:∀ {L:List Int},DigInv u d 0 L->Ret (aA ((List.take ((1+ (d:Int)).toNat-1) (List.drop 1 L)).all λx=>decide (0<=x)&&decide (x<=255)) (some ((List.take ((1+ (d:Int)).toNat-1) (List.drop 1 L)).map Int.toNat))) λx=>x=bT (u:Int):=λh=>
  aK (h.buf.all _ _) (aW (by rw[h.out hd20 hd.symm (by have:(10:Nat)^20=100000000000000000000:=(by decide);omega)];rfl))
 refine aV (aK (dA.2 ⟨by omega,by omega,by omega⟩) ?_);refine dK (Inv:=λx:Int×(Int×(List Int))=>0<=x.2.1/\x.2.1<=d/\x.1=((u / 10^ (d-x.2.1.toNat):Nat):Int)/\DigInv u d x.2.1 x.2.2) (m:=λx=>x.2.1.toNat) ?_ _ _ ⟨by simp only;omega,by simp only;omega,by
  simp only;rw[show d-(((1+ (d:Int)).toNat-1:Nat):Int).toNat=0 by omega,qip,qie],⟨by simp[Buf],λk k1 k2=>absurd k1 (by simp only;omega)⟩⟩ (by simp only[fuel];omega)
 rintro ⟨x,i,L⟩ rec ⟨i1,i2,i3,i4⟩ ih;simp only at i1 i2 i3 i4 ⊢;have hlt:=u7 hu i1 i2;obtain⟨v,hv⟩:∃v,v=u / 10^ (d-i.toNat):=⟨_,rfl⟩
 have hvu:v<=u:=by rw[hv];exact qhs _ _
 rw[<-hv] at i3 hlt;subst i3;refine aD (λh8=>?_) λh8=>?_
 ·have p2:=kY (u:=u) (d:=d) (j:=i-2) (by omega) i2 rfl;have p4:=kY (u:=u) (d:=d) (j:=i-4) (i:=i-2) (by omega) (by omega) (by omega);have p6:=kY (u:=u) (d:=d) (j:=i-6) (i:=i-4) (by omega) (by omega) (by omega);have p8:=kY (u:=u) (d:=d) (j:=i-8) (i:=i-6) (by omega) (by omega) (by omega);rw[<-hv] at p2;rw[p2] at p4;rw[p4] at p6;rw[p6] at p8;repeat (refine aK (by first | exact aY (by omega) (by omega) | exact bG (by omega) (by omega) | exact dA.2 ⟨by omega,by omega,by omega⟩ | (simp only[aT,aO];omega)) ?_)
  refine ih _ ⟨by simp only;omega,by simp only;omega,by simp only;rw[p8];omega,?_⟩ (by simp only;omega);simp only;have q2:=i4.two hd20 (by omega) i2 (j1:=i-1) (j2:=i-2) rfl rfl (a:=((((v:Int)%100000000%4294967296%10000%100*2)%4294967296+1)%4294967296)) (b:=((v:Int)%100000000%4294967296%10000%100*2)%4294967296) (by rw[<-hv];omega) (by rw[<-hv];omega);have q4:=q2.two hd20 (by omega) (by omega) (j1:=i-3) (j2:=i-4) (by omega) (by omega) (a:=((((v:Int)%100000000%4294967296%10000 / 100*2)%4294967296+1)%4294967296)) (b:=((v:Int)%100000000%4294967296%10000 / 100*2)%4294967296) (by rw[p2];omega) (by rw[p2];omega);have q6:=q4.two hd20 (by omega) (by omega) (j1:=i-5) (j2:=i-6) (by omega) (by omega) (a:=((((v:Int)%100000000%4294967296 / 10000%100*2)%4294967296+1)%4294967296)) (b:=((v:Int)%100000000%4294967296 / 10000%100*2)%4294967296) (by rw[p4];omega) (by rw[p4];omega);exact q6.two hd20 (by omega) (by omega) (j1:=i-7) (j2:=i-8) (by omega) (by omega) (a:=((((v:Int)%100000000%4294967296 / 10000 / 100*2)%4294967296+1)%4294967296)) (b:=((v:Int)%100000000%4294967296 / 10000 / 100*2)%4294967296) (by rw[p6];omega) (by rw[p6];omega)
 ·clear ih;have h7:10^i.toNat<=10^7:=nI (by decide) (by omega);have h7':(10:Nat)^7=10000000:=by decide
  refine oU (λx=>0<=x.1/\x.1<=3/\x.1<=d/\x.2.1=((u / 10^ (d-x.1.toNat):Nat):Int)/\DigInv u d x.1 x.2.2) (λx4 hx4=>?_) λj hj=>?_
  ·obtain⟨i',u',L'⟩:=x4;obtain⟨k1,k2,k3,k4,k5⟩:=hx4;simp only at k1 k2 k3 k4 k5 ⊢;have hl':=u7 hu k1 k3;obtain⟨v',hv'⟩:∃v,v=u / 10^ (d-i'.toNat):=⟨_,rfl⟩
   rw[<-hv'] at k4 hl';subst k4;refine aD (λh2=>?_) λh2=>?_
   ·have b3:10^i'.toNat<=10^3:=nI (by decide) (by omega);have b3':(10:Nat)^3=1000:=by decide
    have p2:=kY (u:=u) (d:=d) (j:=i'-2) h2 k3 rfl;rw[<-hv'] at p2;have q2:=k5.two hd20 h2 k3 (j1:=i'-1) (j2:=i'-2) rfl rfl (a:=((((v':Int)%100*2)%4294967296+1)%4294967296)) (b:=((v':Int)%100*2)%4294967296) (by rw[<-hv'];omega) (by rw[<-hv'];omega);repeat (refine aK (by first | exact aY (by omega) (by omega) | exact bG (by omega) (by omega) | exact dA.2 ⟨by omega,by omega,by omega⟩ | (simp only[aT,aO];omega)) ?_)
    refine aD (λh3=>?_) λh3=>?_
    ·have e3:i'=3:=by omega
     subst e3;have q3:=DigInv.one (v:=(48+ (v':Int) / 100)%4294967296%256) q2 (by omega) hu (by
      rw[show d-1=d-((3:Int)-2).toNat by omega,p2];omega)
     repeat (refine aK (by first | exact aY (by omega) (by omega) | exact bG (by omega) (by omega) | exact dA.2 ⟨by omega,by omega,by omega⟩ | (simp only[aT,aO];omega)) ?_)
     try (refine aD (λg=>absurd g (by omega)) λ_=>?_)
     repeat (refine aK (by first | exact aY (by omega) (by omega) | exact bG (by omega) (by omega) | exact dA.2 ⟨by omega,by omega,by omega⟩ | (simp only[aT,aO];omega)) ?_)
     exact out q3
    ·have e3:i'=2:=by omega
     subst e3;try (refine aD (λg=>absurd g (by omega)) λ_=>?_)
     repeat (refine aK (by first | exact aY (by omega) (by omega) | exact bG (by omega) (by omega) | exact dA.2 ⟨by omega,by omega,by omega⟩ | (simp only[aT,aO];omega)) ?_)
     exact out q2
   ·refine aD (λh3=>?_) λh3=>?_
    ·have e3:i'=1:=by omega
     subst e3;have hv9:v'<10:=by simpa using hl'
     have q3:=DigInv.one (v:=(48+ (v':Int))%4294967296%256) k5 (by omega) hu (by
      rw[show d-1=d-(1:Int).toNat by omega,<-hv'];omega)
     repeat (refine aK (by first | exact aY (by omega) (by omega) | exact bG (by omega) (by omega) | exact dA.2 ⟨by omega,by omega,by omega⟩ | (simp only[aT,aO];omega)) ?_)
     try (refine aD (λg=>absurd g (by omega)) λ_=>?_)
     repeat (refine aK (by first | exact aY (by omega) (by omega) | exact bG (by omega) (by omega) | exact dA.2 ⟨by omega,by omega,by omega⟩ | (simp only[aT,aO];omega)) ?_)
     exact out q3
    ·have e3:i'=0:=by omega
     subst e3;try (refine aD (λg=>absurd g (by omega)) λ_=>?_)
     repeat (refine aK (by first | exact aY (by omega) (by omega) | exact bG (by omega) (by omega) | exact dA.2 ⟨by omega,by omega,by omega⟩ | (simp only[aT,aO];omega)) ?_)
     exact out k5
  ·refine aD (λh4=>?_) λh4=>?_
   ·have p2:=kY (u:=u) (d:=d) (j:=i-2) (by omega) i2 rfl;have p4:=kY (u:=u) (d:=d) (j:=i-4) (i:=i-2) (by omega) (by omega) (by omega);rw[<-hv] at p2;rw[p2] at p4;repeat (refine aK (by first | exact aY (by omega) (by omega) | exact bG (by omega) (by omega) | exact dA.2 ⟨by omega,by omega,by omega⟩ | (simp only[aT,aO];omega)) ?_)
    refine hj _ ⟨by simp only;omega,by simp only;omega,by simp only;omega,by simp only;rw[p4];omega,?_⟩;have q2:=i4.two hd20 (by omega) i2 (j1:=i-1) (j2:=i-2) rfl rfl (a:=((((v:Int)%4294967296%10000%100*2)%4294967296+1)%4294967296)) (b:=((v:Int)%4294967296%10000%100*2)%4294967296) (by rw[<-hv];omega) (by rw[<-hv];omega);exact q2.two hd20 (by omega) (by omega) (j1:=i-3) (j2:=i-4) (by omega) (by omega) (a:=((((v:Int)%4294967296%10000 / 100*2)%4294967296+1)%4294967296)) (b:=((v:Int)%4294967296%10000 / 100*2)%4294967296) (by rw[p2];omega) (by rw[p2];omega)
   ·refine hj _ ⟨i1,by simp only;omega,i2,by simp only;rw[<-hv];omega,i4⟩
theorem g9:∀(u:Nat),∀c∈Lib.decDigits u,48<=c.toNat/\c.toNat<=57:=by
 intro u;induction u using Nat.strongRecOn with
 | _ u ih=>
   intro c hc;rw[Lib.decDigits] at hc;split at hc
   ·simp at hc;subst hc;simp;omega
   ·rcases bO.1 hc with h | h
    ·exact ih (u / 10) (by omega) c h
    ·simp at h;subst h;simp;omega
theorem jbk (u:Nat):Lib.decDigits u≠[]:=by
 rw[Lib.decDigits];split<;>simp
theorem t8:∀(l:List UInt8) (acc v:Nat) (c:UInt8),Lib.parseUint10 acc l=.ok v->48<=c.toNat/\c.toNat<=57->v<1844674407370955162->v*10+ (c.toNat-48)<18446744073709551616->Lib.parseUint10 acc (l++[c])=.ok (v*10+ (c.toNat-48))
 | [],acc,v,c,h,hc,h1,h2=>by
   simp only[Lib.parseUint10] at h;injection h with h;subst h;simp only[eP,Lib.parseUint10];rw[aH hc,aC (by omega),aC (by omega)]
 | b::l,acc,v,c,h,hc,h1,h2=>by
   simp only[fB,Lib.parseUint10] at h ⊢;split at h
   ·rename_i g1;split at h
    ·cases h
    ·rename_i g2;split at h
     ·cases h
     ·rename_i g3;rw[aH g1,aC g2,aC g3];exact t8 l _ v c h hc h1 h2
   ·cases h
theorem jci:∀(u:Nat),u<9223372036854775808->Lib.parseUint10 0 (Lib.decDigits u)=.ok u:=by
 intro u;induction u using Nat.strongRecOn with
 | _ u ih=>
   intro hu;rw[Lib.decDigits];split
   ·rename_i g;simp only[Lib.parseUint10];have e:(UInt8.ofNat (48+u)).toNat=48+u:=by simp;omega
    rw[e,aH (by omega),aC (by omega),aC (by omega)]
    congr 1;omega
   ·have e:(UInt8.ofNat (48+u%10)).toNat=48+u%10:=by simp;omega
    have:=t8 (Lib.decDigits (u / 10)) 0 (u / 10) (UInt8.ofNat (48+u%10)) (ih (u / 10) (by omega) (by omega)) (by rw[e];omega) (by omega) (by rw[e];omega);rw[this,e]
    congr 1;omega
theorem tM {u:Nat} (hu:u<9223372036854775808):Lib.atoiAll (Lib.decDigits u)=.ok (u:Int):=by
 have h1:=jci u hu;have h2:=g9 u;have h3:=jbk u;generalize Lib.decDigits u=l at h1 h2 h3 ⊢
 match l,h3 with
 | c::r,_=>
   have hc:=h2 c bM;unfold Lib.atoiAll;simp only;rw[aC (by omega)];have hp:Lib.parseMag (c::r)=.ok u:=by
    unfold Lib.parseMag;rw[aC (by simp)];exact h1
   rw[hp];simp only;rw[aC (by omega),aC (by omega),aC (by omega)]
theorem lN {u:Nat} (hu:u<9223372036854775808):aX 20 u=(Lib.decDigits u).map UInt8.toNat:=
 nP 20 u (by have:(10:Nat)^20=100000000000000000000:=(by decide);omega) (by decide)
theorem yH {u v:Nat} (hu:u<9223372036854775808) (hv:v<9223372036854775808) (h:aX 20 u=aX 20 v):u=v:=by
 rw[lN hu,lN hv] at h;have h1:=congrArg u8 h;rw[pF,pF] at h1;have h2:=tM hu;rw[h1,tM hv] at h2;injection h2 with h2;omega
theorem kR {u:Nat} (hu:u<9223372036854775808):∀c∈aX 20 u,48<=c/\c<=57:=by
 rw[lN hu];intro c hc;obtain⟨b,hb,rfl⟩:=bH.1 hc;exact g9 u b hb
theorem jbi {u:Nat} (hu:u<9223372036854775808) (h:(aX 20 u).length<=9):u<1000000000:=by
 rw[lN hu,dM,Lib.decDigits_length] at h;have h1:=Lib.lt_pow_nDigits u;have h2:(10:Nat)^Lib.nDigits u<=10^9:=nI (by decide) h;have h3:(10:Nat)^9=1000000000:=by decide
 omega
open Classical in
noncomputable def dZ (s:List Nat):Option Nat:=if h:∃u:Nat,s=aX 20 u/\u<1000000000/\s.length<=9 then some h.choose else none
theorem kV {s:List Nat} {u:Nat}:dZ s=some u↔s=aX 20 u/\u<1000000000/\s.length<=9:=by
 unfold dZ;constructor
 ·intro h;split at h
  ·rename_i g;have:=g.choose_spec;cases h;exact this
  ·cases h
 ·rintro ⟨h1,h2,h3⟩;have g:∃u:Nat,s=aX 20 u/\u<1000000000/\s.length<=9:=⟨u,h1,h2,h3⟩
  rw[dif_pos g];have h4:=g.choose_spec
  congr 1
  exact yH (by omega) (by omega) (h4.1.symm.trans h1)
theorem nU {s:List Nat} (h:∀u,s=aX 20 u->u<1000000000->s.length<=9->False):dZ s=none:=by
 cases e:dZ s with
 | none=>rfl
 | some u=>obtain⟨h1,h2,h3⟩:=kV.1 e;exact absurd (h u h1 h2 h3) id
theorem jcd {s:List Nat} (hl:s.length<=1000000) (hb:∀x∈s,x<256):
  (∃u:Nat,dZ s=some u/\u<1000000000/\kF fuel s=some ((u:Int),true)/\s.length<=9/\fU fuel (u:Int)=some s)\/
  (dZ s=none/\∃r,kF fuel s=some r/\(r.2=false\/r.1<0\/9<s.length\/(0<=r.1/\∃t,fU fuel r.1=some t/\t≠s))):=by
 have ha:kF fuel s=vV s:=rfl;rw[ha];unfold vV;rw[bB,bJ hl,aF];by_cases h9:s.length<=9
 ·cases e:dZ s with
  | some u=>
    obtain⟨h1,h2,h3⟩:=kV.1 e;have e2:u8 s=Lib.decDigits u:=by rw[h1,lN (by omega),pF]
    refine .inl ⟨u,rfl,h2,?_,h9,?_⟩
    ·rw[e2,tM (by omega)]
    ·rw[pB (by omega) (by omega),h1];rfl
  | none=>
    refine .inr ⟨rfl,?_⟩;cases ea:Lib.atoiAll (u8 s) with
    | «syntax»=>exact⟨_,rfl,.inl rfl⟩
    | range=>exact⟨_,rfl,.inl rfl⟩
    | ok v=>
      refine⟨_,rfl,?_⟩;by_cases hv:v<0
      ·exact .inr (.inl hv)
      ·have hb2:=Lib.atoiAll_bounds ea;refine .inr (.inr (.inr ⟨by simp only;omega,_,pB (by simp only;omega) (by simp only;omega),λg=>?_⟩));have h1:s=aX 20 v.toNat:=g.symm;have h2:=jbi (u:=v.toNat) (by omega) (by rw[<-h1];exact h9);rw[kV.2 ⟨h1,h2,h9⟩] at e;cases e
 ·refine .inr ⟨nU λu _ _ h=>absurd h h9,?_⟩;cases ea:Lib.atoiAll (u8 s) with
  | «syntax»=>exact⟨_,rfl,.inl rfl⟩
  | range=>exact⟨_,rfl,.inl rfl⟩
  | ok v=>exact⟨_,rfl,.inr (.inr (.inl (by omega)))⟩
theorem jb4:uB fuel ()=some true:=by kernel_rfl
end X
end Go.Vm
namespace Go.Vm
namespace X
open W Go.RowKit
theorem tW {s:List Nat} {i:Nat} (h:i<s.length):s.getD ((i:Int)).toNat 0=s[i]:=by
 simp[List.getD,dI h]
theorem J0 {s:List Nat} (hl:s.length<=1000000000) (hb:∀x∈s,x<256):rF fuel s=some (cO s):=by
 apply Ret.eq;unfold rF;refine dK (λp:Int×Int=>∃i:Nat,i<=s.length/\(s.take i).foldl (A1 s.length) (17,0)=p/\p.2=i/\0<=p.1/\p.1<65521) (λp=>s.length-p.2.toNat) ?_ fuel (17,0) ⟨0,eJ _,rfl,rfl,by decide,by decide⟩ (by simp only[fuel];omega);rintro ⟨n,i'⟩ rec ⟨i,hi,hf,e,h0,h1⟩ ih;simp only at e h0 h1 ⊢;subst e;refine aD (λhlt=>?_) λhge=>aW ?_
 ·have hlt:i<s.length:=by omega
  rw[tW hlt];have hx:=hb _ (bY hlt);obtain⟨c,hc⟩:∃c:Nat,c=s[i] * (17+s.length-i):=⟨_,rfl⟩
  have e1:((s[i]:Nat):Int)* (17+ (s.length:Int)-(i:Int))=(c:Int):=by
   rw[hc,pM]
   congr 1
   omega
  have hcb:c<=255*1000000017:=by
   rw[hc];exact iK (by omega) (by omega)
  rw[e1];refine aV (eX (aV (aV (aV (aV (aV (aK (by simp;omega) (aV ?_))))))));refine ih _ ⟨i+1,hlt,?_,by simp,by simp only;omega,by simp only;omega⟩ (by simp only;omega);rw[sU,dI hlt,lQ,P8,hf];simp only[Y6,qh8,A1];rw[e1]
 ·have:i=s.length:=by omega
  subst this;rw[iY] at hf;rw[jpa,hf];omega
theorem B6 {s:List Nat} (hl:s.length<=1000000000):vI s=some (cO s):=by
 unfold vI;rw[bB,bJ hl];rfl
theorem N8:Ret ((uB fuel ()).bind λr=>some r) λx=>x=true:=by rw[jb4];exact aW rfl
end X
end Go.Vm
namespace Go.Vm
namespace X
open W Go.Proofs.Un
theorem zU {α:Type} {r:α->α->Bool} (tr:∀x y z,r x y=true->r y z=true->r x z=true):∀ {l:List α},iS r l=true->l.Pairwise λx y=>r x y=true
 | [],_=>List.Pairwise.nil
 | x::l,h=>by
   simp only[iS,aT] at h;have ih:=zU tr h.2;refine jY.2 ⟨λy hy=>?_,ih⟩;cases l with
   | nil=>cases hy
   | cons z l=>
     rcases bK.1 hy with e | hy
     ·rw[e];exact h.1
     ·exact tr _ _ _ h.1 ((jY.1 ih).1 y hy)
theorem zW {x y:aR}:L6 x y=true↔x.1<y.1\/x.1=y.1/\x.2<y.2:=by
 simp[L6]
def Nx (x y:aI):Prop:=x.2.1.1<y.2.1.1\/x.2.1.1=y.2.1.1/\(x.2.1.2<y.2.1.2\/x.2.1.2=y.2.1.2/\x.2.2.2<=y.2.2.1)
theorem s7 {x y:aI}:O3 x y=true↔Nx x y:=by
 simp[O3,Nx]
structure LiOK (w h:Nat) (x:aI):Prop where
 k1:1<=x.2.1.1
 k4:x.2.1.1<=4
 c0: -(w:Int)<=x.2.1.2
 c1:x.2.1.2<=(w:Int)+h
 f0:0<=x.2.2.1
 ft:x.2.2.1<x.2.2.2
 t1:x.2.2.2<=2* ((w:Int)+h)
 u0:0<=x.1.1
 u1:x.1.1<4* (w:Int)*h
 e0:0<=x.1.2
 e2:x.1.2<=2
section
variable {w h:Nat} {T:List aI}
theorem Tab.li (t:Tab w h T) {x:aI} (hx:x∈T):LiOK w h x:=by
 have:=cJ.1 t.ok x hx;simp only[jip,aT,aO] at this;obtain⟨⟨⟨⟨⟨⟨⟨⟨⟨⟨a1,a2⟩,a3⟩,a4⟩,a5⟩,a6⟩,a7⟩,a8⟩,a9⟩,a10⟩,a11⟩:=this;exact⟨a1,a2,a3,a4,a5,a6,a7,a8,a9,a10,a11⟩
theorem Tab.asc (t:Tab w h T):(T.map (·.1)).Pairwise λx y=>x.1<y.1\/x.1=y.1/\x.2<y.2:=
 (zU (λx y z h1 h2=>by rw[zW] at *;omega) t.up).imp λh=>zW.1 h
theorem Tab.ndU (t:Tab w h T):(T.map (·.1)).Nodup:=t.asc.imp λ{a b} h e=>by subst e;omega
theorem rV {α:Type} {l:List α} (h:l.Nodup) {i j:Nat} (hi:i<l.length) (hj:j<l.length) (e:l[i]=l[j]):i=j:=by
 rcases rA i j with g | g | g
 ·exact absurd e (gZ.1 h i j hi hj g)
 ·exact g
 ·exact absurd e.symm (gZ.1 h j i hj hi g)
theorem Tab.unitInj (t:Tab w h T) {x y:aI} (hx:x∈T) (hy:y∈T) (e:x.1=y.1):x=y:=by
 obtain⟨i,hi,rfl⟩:=fZ hx;obtain⟨j,hj,rfl⟩:=fZ hy;have h1:(T.map (·.1))[i]'(by simpa using hi)=(T.map (·.1))[j]'(by simpa using hj):=by simpa using e
 have:=rV t.ndU _ _ h1;subst this;rfl
theorem u6 {α:Type} {r:α->α->Bool}:∀ {l:List α},H8 r l=true->l.Pairwise λx y=>r x y=true
 | [],_=>List.Pairwise.nil
 | x::l,h=>by
   simp only[H8,aT] at h;exact jY.2 ⟨λy hy=>cJ.1 h.1 y hy,u6 h.2⟩
theorem Tab.key (t:Tab w h T):KeyD T:=(u6 t.kd).imp λ{x y} h ⟨h1,h2⟩=>by
 simp[jib,h1,h2] at h
theorem Tab.len (t:Tab w h T) (hw:w<=6) (hh:h<=6):T.length<=1000:=by
 have hn:=t.ndU;have:(T.map (·.1)).length<=1000:=by
  have hsub:∀u∈T.map (·.1),u∈((List.range 144).flatMap fun(i:Nat)=>(List.range 3).map fun(e:Nat)=>(((i:Nat):Int),((e:Nat):Int))):=by
   intro u hu;obtain⟨x,hx,rfl⟩:=bH.1 hu;have:=t.li hx;have h1:=this.u0;have h2:=this.u1;have h3:=this.e0;have h4:=this.e2
   have h5:4* (w:Int)*h<=4*6*6:=by
    have:w*h<=6*6:=iK hw hh;have e:(4* (w:Int)*h)=4* ((w*h:Nat):Int):=by rw[pM,wI]
    omega
   refine kL.2 ⟨x.1.1.toNat,fN.2 (by omega),bH.2 ⟨x.1.2.toNat,fN.2 (by omega),?_⟩⟩;exact jJ (by simp only;omega) (by simp only;omega)
  have:=hn.length_le_of_subset hsub;exact fX this (by decide +kernel)
 simpa using this
theorem ji0 (t:Tab w h T) (hw:1<=w/\w<=6) (hh:1<=h/\h<=6):jae fuel ((w:Int),(h:Int))=some (mO T):=by
 have hlen:=t.len hw.2 hh.2;apply Ret.eq;unfold jae;rw[t.us,aB];refine dK (λs:Int×List (((Int×Int)×Int)×((Int×Int)×Int))=>∃i:Nat,s.1=(i:Int)/\i<=T.length/\s.2=mO (T.take i)) (λs=>T.length-s.1.toNat) ?_ fuel _ ⟨0,rfl,eJ _,rfl⟩ (by simp only[fuel];omega);rintro ⟨s1,s2⟩ rec ⟨i,h1,h2,h3⟩ hrec;simp only at h1 h3 ⊢;subst h1;subst h3;refine aD (λhlt=>?_) λhge=>?_
 ·rw[dM] at hlt;have hi:i<T.length:=by omega
  have hx:(T.map (·.1)).getD ((i:Int).toNat) (0,0)=T[i].1:=by
   rw[cZ,gH,lZ,dI hi];rfl
  rw[hx];have hl:=cJ.1 t.lie _ (bY hi);unfold V1 at hl;refine aK (bG (by omega) (by rw[dM];exact hlt)) ?_;split at hl
  rotate_left
  ·cases hl
  rename_i r hr;rw[hr,aB];simp only[aT,aO] at hl;obtain⟨⟨⟨l1,l2⟩,l3⟩,l4⟩:=hl;refine aV (hrec _ ⟨i+1,by simp,hi,?_⟩ (by simp only;omega));rw[l1,l2,l3,l4,tH T i hi,jnd]
  ·unfold mO;rw[eI];rfl
  ·intro a ha;obtain⟨y,hy,rfl⟩:=bH.1 ha;cases hq:KT.eqb ((T[i].2.1.1,T[i].2.1.2),T[i].2.2.1) (y.2.1,y.2.2.1) with
   | false=>rfl
   | true=>
     have e:=(jg8 _ _).1 hq;simp only[bC] at e;obtain⟨j,hj,hjy⟩:=qfr.1 hy;have hkd:=gZ.1 t.key j i (by omega) hi (by omega);rw[hjy] at hkd;exact absurd (And.intro e.1.symm e.2.symm) hkd
 ·have hi:i=T.length:=by rw[dM] at hge;omega
  subst hi;rw[iY];exact aW rfl
end
end X
end Go.Vm
namespace Go.Vm
namespace X
open W
def TB (T:List aI):Prop:=∀x∈T,0<=x.2.2.1/\x.2.2.1<x.2.2.2/\x.2.2.2<=24
theorem Tab.tb {w h:Nat} {T:List aI} (t:Tab w h T) (hw:w<=6) (hh:h<=6):TB T:=λx hx=>by
 have:=t.li hx;exact⟨this.f0,this.ft,by have:=this.t1;omega⟩
def wk (T:List aI) (l:Int×Int) (tq:Int):Nat->Int->Option (List aR)
 | 0,_=>none
 | n+1,p=>if p=tq then some [] else match dW T l p with
   | none=>none
   | some x=>if tq<x.2.2.2 then none else(wk T l tq n x.2.2.2).map (x.1::·)
def mm (p:Int):Nat:=if 0<=p/\p<=24 then(24-p).toNat+1 else 26
theorem C6 {T:List aI} (hT:TB T) {l:Int×Int} {tq:Int}:∀(n m:Nat) (p:Int),mm p<=n->mm p<=m->wk T l tq n p=wk T l tq m p
 | 0,_,p,h,_=>by unfold mm at h;split at h<;>omega
 | n+1,0,p,_,h=>by unfold mm at h;split at h<;>omega
 | n+1,m+1,p,hn,hm=>by
   simp only[wk];split
   ·rfl
   ·cases hl:dW T l p with
    | none=>rfl
    | some x=>
      obtain⟨h1,h2,h3⟩:=jB hl;obtain⟨b1,b2,b3⟩:=hT x h1;have e:mm x.2.2.2+1<=mm p:=by
       unfold mm;rw[aH (by omega),aH (by omega)];omega
      simp only;rw[C6 hT n m x.2.2.2 (by omega) (by omega)]
def eF (T:List aI) (l:Int×Int) (tq p:Int):Option (List aR):=wk T l tq (mm p) p
theorem mZ {T:List aI} (hT:TB T) (l:Int×Int) (tq p:Int):eF T l tq p=if p=tq then some [] else match dW T l p with
  | none=>none
  | some x=>if tq<x.2.2.2 then none else(eF T l tq x.2.2.2).map (x.1::·):=by
 unfold eF;cases hm:mm p with
 | zero=>unfold mm at hm;split at hm<;>omega
 | succ n=>
   simp only[wk];split
   ·rfl
   ·cases hl:dW T l p with
    | none=>rfl
    | some x=>
      obtain⟨h1,h2,h3⟩:=jB hl;obtain⟨b1,b2,b3⟩:=hT x h1;have e:mm x.2.2.2+1<=mm p:=by
       unfold mm;rw[aH (by omega),aH (by omega)];omega
      simp only;rw[C6 hT n (mm x.2.2.2) x.2.2.2 (by omega) (bQ _)]
abbrev aL:=Int×((Int×Int)×(Int×Int))
structure OrdP (x:aL):Prop where
 k1:1<=x.1
 k3:x.1<=3
 l1:1<=x.2.1.1
 l4:x.2.1.1<=4
 c0: -4096<=x.2.1.2
 c1:x.2.1.2<=4096
 ft:x.2.2.1<x.2.2.2
open Classical in
noncomputable def cU (T:List aI) (x:aL):List aR×Int:=if OrdP x then(match eF T x.2.1 x.2.2.2 x.2.2.1 with
 | none=>([],7)
 | some u=>(u,0)) else([],1)
theorem o9 (l:Int×Int):uC fuel l=some 0/\(1<=l.1/\l.1<=4/\ -4096<=l.2/\l.2<=4096)\/uC fuel l=some 1/\¬(1<=l.1/\l.1<=4/\ -4096<=l.2/\l.2<=4096):=by
 unfold uC;by_cases h1:l.1<1
 ·simp only[h1,aZ,aF];exact .inr ⟨trivial,by omega⟩
 by_cases h2:4<l.1
 ·simp only[h1,h2,aZ,bA,aF,aG];exact .inr ⟨trivial,by omega⟩
 by_cases h3:l.2 < -4096
 ·simp only[h1,h2,h3,aZ,bA,aF,aG];exact .inr ⟨trivial,by omega⟩
 by_cases h4:4096<l.2
 ·simp only[h1,h2,h3,h4,aZ,bA,aF,aG];exact .inr ⟨trivial,by omega⟩
 simp only[h1,h2,h3,h4,bA,aG];exact .inl ⟨trivial,by omega⟩
theorem H4 (x:aL):∃b,A7 fuel x=some b/\(b=true↔OrdP x):=by
 unfold A7;by_cases h1:1<=x.1
 rotate_left
 ·simp only[h1,bA,aG];exact⟨_,rfl,by simp;intro h;exact h1 h.k1⟩
 by_cases h2:x.1<=3
 rotate_left
 ·simp only[h1,h2,aZ,bA,aF,aG];exact⟨_,rfl,by simp;intro h;exact h2 h.k3⟩
 simp only[h1,h2,aZ,aF];rcases o9 (x.2.1.1,x.2.1.2) with⟨e,g⟩ | ⟨e,g⟩
 ·rw[e,aB];simp only[aZ,aF];simp only at g;exact⟨_,rfl,by simp only[aO];exact⟨λh=>⟨h1,h2,g.1,g.2.1,g.2.2.1,g.2.2.2,h⟩,λh=>h.ft⟩⟩
 ·rw[e,aB];simp only[show((1:Int)=0)=False by simp,bA,aG];exact⟨_,rfl,by simp;intro h;exact g ⟨h.l1,h.l4,h.c0,h.c1⟩⟩
section
variable {w h:Nat} {T:List aI}
theorem mX (hw:1<=w/\w<=6) (hh:1<=h/\h<=6):iC fuel ((w:Int),(h:Int))=some 0:=by
 unfold iC;have h5:w*h<=6*6:=iK hw.2 hh.2;have e:((w:Int)*h)=((w*h:Nat):Int):=by rw[pM]
 have n1:¬((w:Int)<1):=by omega
 have n2:¬((h:Int)<1):=by omega
 have n3:¬((256:Int)<w):=by omega
 have n4:¬((256:Int)<h):=by omega
 have n5:¬((256:Int)< (w:Int)*h):=by omega
 simp only[n1,n2,n3,n4,bA,aG];rw[aY (by omega) (by omega)];simp only[aA,aF,n5,bA,aG]
end
theorem ji8 (l:Int×Int):nX fuel l=some 1/\(1<=l.1/\l.1<=4/\ -4096<=l.2/\l.2<=4096)\/nX fuel l=some 0/\¬(1<=l.1/\l.1<=4/\ -4096<=l.2/\l.2<=4096):=by
 by_cases h1:1<=l.1
 rotate_left
 ·exact .inr ⟨by unfold nX;simp only[h1,bA,aG],by omega⟩
 by_cases h2:l.1<=4
 rotate_left
 ·exact .inr ⟨by unfold nX;simp only[h1,h2,aZ,bA,aF,aG],by omega⟩
 by_cases h3: -4096<=l.2
 rotate_left
 ·exact .inr ⟨by unfold nX;simp only[h1,h2,h3,aZ,bA,aF,aG],by omega⟩
 by_cases h4:l.2<=4096
 rotate_left
 ·exact .inr ⟨by unfold nX;simp only[h1,h2,h3,h4,aZ,bA,aF,aG],by omega⟩
 exact .inl ⟨by unfold nX;simp only[h1,h2,h3,h4,aZ,aF],by omega⟩
section
variable {w h:Nat} {T:List aI}
theorem ji6 (t:Tab w h T) (hw:1<=w/\w<=6) (hh:1<=h/\h<=6) (x:aL):Z7 fuel (((w:Int),(h:Int)),x)=some (cU T x):=by
 unfold Z7 cU;simp only;by_cases h1:x.1<1
 ·simp only[h1,aZ,aF];rw[aC λh=>by have:=h.k1;omega]
 by_cases h2:3<x.1
 ·simp only[h1,h2,aZ,bA,aF,aG];rw[aC λh=>by have:=h.k3;omega]
 simp only[h1,h2,bA,aG];rcases ji8 (x.2.1.1,x.2.1.2) with⟨e,g⟩ | ⟨e,g⟩
 rotate_left
 ·rw[e,aB];simp only[aZ,aF];rw[aC λh=>g ⟨h.l1,h.l4,h.c0,h.c1⟩]
 rw[e,aB];simp only at g;simp only[show((1:Int)=0)=False by simp,bA,aG];by_cases h3:x.2.2.2<=x.2.2.1
 ·simp only[h3,aZ,aF];rw[aC λh=>by have:=h.ft;omega]
 simp only[h3,bA,aG];rw[aH ⟨by omega,by omega,g.1,g.2.1,g.2.2.1,g.2.2.2,by omega⟩];rw[t.all,aB];have hT:=t.tb hw.2 hh.2;have hlen:=t.len hw.2 hh.2
 refine(rU (λs:List aR×Int=>(s.1=[]/\s.2<=x.2.2.2\/(0<=s.2/\s.2<=24/\s.1.length<=s.2.toNat))) (λs=>mm s.2) (λs=>some (match (if s.2<=x.2.2.2 then eF T x.2.1 x.2.2.2 s.2 else none) with
  | none=>(([]:List aR),(7:Int))
  | some u=>(s.1++u,0))) ?_ fuel ([],x.2.2.1) (.inl ⟨rfl,by simp only;omega⟩) (by unfold mm;simp only[fuel];split<;>omega)).trans (by simp only[show x.2.2.1<=x.2.2.2 by omega,cK,eP]<;>cases eF T x.2.1 x.2.2.2 x.2.2.1<;>rfl)
 rintro ⟨A,p⟩ rec hI hrec;simp only at hI ⊢;by_cases hp:p<x.2.2.2
 ·simp only[hp,aZ,aF,show p<=x.2.2.2 by omega,cK];rw[jam (by omega),mZ hT,aB,aC (show ¬p=x.2.2.2 by omega)];rw[show(x.2.1.1,x.2.1.2)=x.2.1 from rfl];cases hl:dW T x.2.1 p with
  | none=>rfl
  | some y=>
    obtain⟨g1,g2,g3⟩:=jB hl;obtain⟨b1,b2,b3⟩:=hT y g1;simp only[show((1:Int)=0)=False by simp,bA,aG];have hA:A.length<=p.toNat:=by rcases hI with⟨e,_⟩ | ⟨_,_,e⟩<;>(try subst e)<;>(try simp)<;>omega
    rw[gC (by omega)];simp only[aA,aF];rw[hrec (A++[y.1],y.2.2.2) (.inr ⟨by simp only;omega,by simp only;omega,by simp only[dG,dU];omega⟩) (by
     unfold mm;simp only;rw[aH (by omega),aH (by omega)];omega)]
    simp only;by_cases hq:x.2.2.2<y.2.2.2
    ·rw[aC (by omega),aH hq]
    ·rw[aH (by omega),aC hq];cases eF T x.2.1 x.2.2.2 y.2.2.2 with
     | none=>rfl
     | some u=>simp
 ·simp only[hp,bA,aG];by_cases he:p=x.2.2.2
  ·subst he;simp only[ne_eq,iO,bA,aG,sZ,cK];rw[mZ hT,aH rfl];simp
  ·simp only[he,ne_eq,jU,aZ,aF,show ¬p<=x.2.2.2 by omega,dO]
theorem C3 {T:List aI} (hT:TB T) {l:Int×Int} {tq:Int} (h24:24<tq):∀(n:Nat) (p:Int),p<tq->wk T l tq n p=none
 | 0,_,_=>rfl
 | n+1,p,hp=>by
   simp only[wk];rw[aC (by omega)];cases hl:dW T l p with
   | none=>rfl
   | some x=>
     obtain⟨h1,h2,h3⟩:=jB hl;obtain⟨b1,b2,b3⟩:=hT x h1;simp only;rw[C3 hT h24 n x.2.2.2 (by omega)];split<;>rfl
theorem C4 {T:List aI} (hT:TB T) {l:Int×Int} {tq:Int}:∀(n:Nat) (p:Int) (u:List aR),wk T l tq n p=some u->u=[]\/(0<=p/\p<24/\u.length<=(24-p).toNat)
 | 0,_,_,h=>by cases h
 | n+1,p,u,h=>by
   simp only[wk] at h;split at h
   ·cases h;exact .inl rfl
   ·cases hl:dW T l p with
    | none=>rw[hl] at h;cases h
    | some x=>
      obtain⟨h1,h2,h3⟩:=jB hl;obtain⟨b1,b2,b3⟩:=hT x h1;rw[hl] at h;simp only at h;split at h
      ·cases h
      ·obtain⟨v,hv,rfl⟩:=eW.1 h;right;rcases C4 hT n _ v hv with rfl | ⟨g1,g2,g3⟩
       ·simp only[cM,gV];omega
       ·simp only[cM];omega
theorem jkc {T:List aI} (hT:TB T) (x:aL):(cU T x).1.length<=24:=by
 unfold cU;by_cases ho:OrdP x
 ·rw[aH ho];cases hu:eF T x.2.1 x.2.2.2 x.2.2.1 with
  | none=>simp
  | some u=>
    rcases C4 hT _ _ _ hu with rfl | ⟨g1,g2,g3⟩
    ·simp
    ·simp only;omega
 ·rw[aC ho];simp
theorem jdi (hT:TB T) {x:aL} (hx:64<x.2.2.2\/x.2.2.1 < -64):(cU T x).2≠0:=by
 unfold cU;split
 ·rename_i ho;have:eF T x.2.1 x.2.2.2 x.2.2.1=none:=by
   rcases hx with hx | hx
   ·exact C3 hT (by omega) _ _ ho.ft
   ·rw[mZ hT,aC (by have:=ho.ft;omega)];cases hl:dW T x.2.1 x.2.2.1 with
    | none=>rfl
    | some y=>
      obtain⟨g1,g2,g3⟩:=jB hl;have:=(hT y g1).1;omega
  rw[this];simp
 ·simp
end
theorem cA {a:Int} {m:Nat} (h:((List.range m).all λk=>gK ((k:Int)+a))=true) {n:Int} (h1:a<=n) (h2:n<a+m):gK n=true:=by
 have:=cJ.1 h (n-a).toNat (fN.2 (by omega));rw[show(((n-a).toNat:Nat):Int)+a=n by omega] at this;exact this
theorem jcc {n:Int} (h1: -4096<=n) (h2:n<=4096):gK n=true:=by
 by_cases g1_0:n < -3840
 ·exact cA jni (by omega) (by omega)
 by_cases g1_1:n < -3584
 ·exact cA jnj (by omega) (by omega)
 by_cases g1_2:n < -3328
 ·exact cA jnk (by omega) (by omega)
 by_cases g1_3:n < -3072
 ·exact cA jnl (by omega) (by omega)
 by_cases g1_4:n < -2816
 ·exact cA jnm (by omega) (by omega)
 by_cases g1_5:n < -2560
 ·exact cA jnn (by omega) (by omega)
 by_cases g1_6:n < -2304
 ·exact cA jno (by omega) (by omega)
 by_cases g1_7:n < -2047
 ·exact cA jnp (by omega) (by omega)
 by_cases g2_0:n < -1791
 ·exact cA jnq (by omega) (by omega)
 by_cases g2_1:n < -1535
 ·exact cA jnr (by omega) (by omega)
 by_cases g2_2:n < -1279
 ·exact cA jns (by omega) (by omega)
 by_cases g2_3:n < -1023
 ·exact cA jnt (by omega) (by omega)
 by_cases g2_4:n < -767
 ·exact cA jnu (by omega) (by omega)
 by_cases g2_5:n < -511
 ·exact cA jnv (by omega) (by omega)
 by_cases g2_6:n < -255
 ·exact cA jnw (by omega) (by omega)
 by_cases g2_7:n<1
 ·exact cA jnx (by omega) (by omega)
 by_cases g3_0:n<257
 ·exact cA jny (by omega) (by omega)
 by_cases g3_1:n<513
 ·exact cA jnz (by omega) (by omega)
 by_cases g3_2:n<769
 ·exact cA jn0 (by omega) (by omega)
 by_cases g3_3:n<1025
 ·exact cA jn1 (by omega) (by omega)
 by_cases g3_4:n<1281
 ·exact cA jn2 (by omega) (by omega)
 by_cases g3_5:n<1537
 ·exact cA jn3 (by omega) (by omega)
 by_cases g3_6:n<1793
 ·exact cA jn4 (by omega) (by omega)
 by_cases g3_7:n<2049
 ·exact cA jn5 (by omega) (by omega)
 by_cases g4_0:n<2305
 ·exact cA jn6 (by omega) (by omega)
 by_cases g4_1:n<2561
 ·exact cA jn7 (by omega) (by omega)
 by_cases g4_2:n<2817
 ·exact cA jn8 (by omega) (by omega)
 by_cases g4_3:n<3073
 ·exact cA jn9 (by omega) (by omega)
 by_cases g4_4:n<3329
 ·exact cA joa (by omega) (by omega)
 by_cases g4_5:n<3585
 ·exact cA job (by omega) (by omega)
 by_cases g4_6:n<3841
 ·exact cA joc (by omega) (by omega)
 exact cA jod (by omega) (by omega)
end X
end Go.Vm
namespace Go.Vm
namespace X
open W Go.RowKit
theorem i7:∀ {a b:List Nat},E8 a b=true->a=b
 | [],[],_=>rfl
 | [],b::m,h=>by cases h
 | a::l,[],h=>by cases h
 | a::l,b::m,h=>by
   simp only[E8,aT] at h;rw[uO h.1,i7 h.2]
def nm (n:Int):List Nat:=(fU fuel n).getD []
structure NumOK (n:Int):Prop where
 it:fU fuel n=some (nm n)
 de:mV fuel n=some (nm n)
 at':kF fuel (nm n)=some (n,true)
 ch:∀y∈nm n,45<=y/\y<=57
 ne:1<=(nm n).length
 le:(nm n).length<=5
 l1:Go.Proofs.S07.lpFin (120::32::nm n)=(1,n)
 l2:Go.Proofs.S07.lpFin (121::32::nm n)=(2,n)
 l3:Go.Proofs.S07.lpFin (117::32::nm n)=(3,n)
 l4:Go.Proofs.S07.lpFin (100::32::nm n)=(4,n)
theorem qC {k:Int} {b:Nat} {n:Int} {s:List Nat} (h:yS k b n s=true):Go.Proofs.S07.lpFin (b::32::s)=(k,n):=by
 unfold yS at h;split at h;rename_i a c e;simp only[aT,vY,aO] at h;rw[e,h.1,h.2]
theorem eA {n:Int} (h1: -4096<=n) (h2:n<=4096):NumOK n:=by
 have h:=jcc h1 h2;unfold gK at h;cases hs:fU fuel n with
 | none=>rw[hs] at h;cases h
 | some s=>
   have en:nm n=s:=by unfold nm;rw[hs];rfl
   rw[hs] at h;simp only[aT] at h;obtain⟨⟨⟨⟨⟨⟨a1,a2⟩,a3⟩,a4⟩,a5⟩,a6⟩,a7⟩:=h;unfold jho at a3;simp only[aT,cJ,bB,aO] at a3;obtain⟨⟨b1,b2⟩,b3⟩:=a3;refine⟨by rw[en];exact hs,?_,?_,λy hy=>?_,by rw[en];exact b2,by rw[en];exact b3,by rw[en];exact qC a4,by rw[en];exact qC a5,by rw[en];exact qC a6,by rw[en];exact qC a7⟩
   ·rw[en];cases hd:mV fuel n with
    | none=>rw[hd] at a1;cases a1
    | some t=>rw[hd] at a1;rw[i7 a1]
   ·rw[en];cases hd:kF fuel s with
    | none=>rw[hd] at a2;cases a2
    | some r=>
      obtain⟨a,b⟩:=r;rw[hd] at a2;simp only[aT,vY,aO] at a2;rw[a2.1,a2.2]
   ·rw[en] at hy;have:=b1 y hy;omega
def VL (l:Int×Int):Prop:=1<=l.1/\l.1<=4/\ -4096<=l.2/\l.2<=4096
def fM (k:Int):Nat:=([32,120,121,117,100]:List Nat).getD k.toNat 0
def eY (l:Int×Int):List Nat:=fM l.1::32::nm l.2
theorem C8 {k:Int} (h:0<=k) (h2:k<=254):IntKind.u8.wrap (k+1)=k+1:=by
 unfold IntKind.wrap;simp[IntKind.bits,IntKind.signed];omega
theorem yR (l:Int×Int):VL l/\lX fuel l=some (eY l)\/¬VL l/\lX fuel l=some []:=by
 rcases o9 l with⟨e,h⟩ | ⟨e,h⟩
 ·left;refine⟨h,?_⟩;obtain⟨h1,h2,h3,h4⟩:=h;have hn:=eA h3 h4;have hle:=hn.le;unfold lX;rw[show((l.1,l.2):Int×Int)=l from rfl,e,aB];have hw:=C8 (k:=l.1) (by omega) (by omega);rw[hw,hn.it,aB];have hk:l.1=1\/l.1=2\/l.1=3\/l.1=4:=by omega
  unfold eY fM;generalize nm l.2=s at hle;rcases hk with e | e | e | e<;>(rw[e];simp[aA,cY,sX];try omega)
 ·right;refine⟨h,?_⟩;unfold lX;rw[show((l.1,l.2):Int×Int)=l from rfl,e,aB];rfl
theorem jcq {l:Int×Int} (h:VL l):I8 fuel l=some (eY l):=by
 obtain⟨h1,h2,h3,h4⟩:=h;have hn:=eA h3 h4;have hle:=hn.le;unfold I8;rw[hn.de,aB];have hk:l.1=1\/l.1=2\/l.1=3\/l.1=4:=by omega
 unfold eY fM;generalize nm l.2=s at hle;rcases hk with e | e | e | e<;>(rw[e];simp[aA,aU,sX];try omega)
def gG (k:Int):Nat:=([32,109,118,97]:List Nat).getD k.toNat 0
def cN (x:aL):List Nat:=((((([gG x.1]++[32])++eY x.2.1)++[32])++nm x.2.2.1)++[32])++nm x.2.2.2
structure OkX (x:aL):Prop where
 o:OrdP x
 f0: -4096<=x.2.2.1
 t1:x.2.2.2<=4096
theorem uE {l:Int×Int} (h:VL l):(eY l).length<=7:=by
 have:=(eA h.2.2.1 h.2.2.2).le;unfold eY;simp only[cM];omega
theorem OkX.vl {x:aL} (h:OkX x):VL x.2.1:=⟨h.o.l1,h.o.l4,h.o.c0,h.o.c1⟩
theorem sD (x:aL):OkX x/\gA fuel x=some (cN x)\/¬OkX x/\gA fuel x=some []:=by
 obtain⟨b,hb,hb2⟩:=H4 x;by_cases ho:OrdP x
 rotate_left
 ·refine .inr ⟨λh=>ho h.o,?_⟩;unfold gA;rw[show(x.1,((x.2.1.1,x.2.1.2),(x.2.2.1,x.2.2.2)))=x from rfl,hb,aB];cases b with
  | true=>exact absurd (hb2.1 rfl) ho
  | false=>rfl
 have eb:b=true:=hb2.2 ho;subst eb;by_cases h1:x.2.2.1 < -4096
 ·refine .inr ⟨λh=>by have:=h.f0;omega,?_⟩;unfold gA;rw[show(x.1,((x.2.1.1,x.2.1.2),(x.2.2.1,x.2.2.2)))=x from rfl,hb,aB];simp only[fQ,aG,h1,aZ,aF]
 by_cases h2:4096<x.2.2.2
 ·refine .inr ⟨λh=>by have:=h.t1;omega,?_⟩;unfold gA;rw[show(x.1,((x.2.1.1,x.2.1.2),(x.2.2.1,x.2.2.2)))=x from rfl,hb,aB];simp only[fQ,aG,h1,h2,bA,aZ,aF]
 have hx:OkX x:=⟨ho,by omega,by omega⟩
 have hv:=hx.vl;have hft:=ho.ft;have n1:=eA (n:=x.2.2.1) (by omega) (by omega);have n2:=eA (n:=x.2.2.2) (by omega) (by omega);have hl:=uE hv;have le1:=n1.le;have le2:=n2.le;have hk:x.1=1\/x.1=2\/x.1=3:=by have:=ho.k1;have:=ho.k3;omega
 have hL:lX fuel (x.2.1.1,x.2.1.2)=some (eY x.2.1):=by
  rcases yR x.2.1 with⟨_,e⟩ | ⟨h,_⟩
  ·exact e
  ·exact absurd hv h
 refine .inl ⟨hx,?_⟩;unfold gA;rw[show(x.1,((x.2.1.1,x.2.1.2),(x.2.2.1,x.2.2.2)))=x from rfl,hb,aB];simp only[fQ,aG,h1,h2,bA];rw[C8 (k:=x.1) (by omega) (by omega),hL,aB,n1.it,aB,n2.it,aB];unfold cN gG;generalize nm x.2.2.1=s1 at le1;generalize nm x.2.2.2=s2 at le2;generalize eY x.2.1=s3 at hl;rcases hk with e | e | e<;>(rw[e];simp[aA,cY,sX];try omega)
theorem Z9 {x:aL} (hx:OkX x):z8 fuel x=some (cN x):=by
 have hv:=hx.vl;have hft:=hx.o.ft;have f0:=hx.f0;have t1:=hx.t1;have n1:=eA (n:=x.2.2.1) (by omega) (by omega);have n2:=eA (n:=x.2.2.2) (by omega) (by omega);have hl:=uE hv;have le1:=n1.le;have le2:=n2.le;have hk:x.1=1\/x.1=2\/x.1=3:=by have:=hx.o.k1;have:=hx.o.k3;omega
 unfold z8;rw[show(x.2.1.1,x.2.1.2)=x.2.1 from rfl,jcq hv,aB,n1.de,aB,n2.de,aB];unfold cN gG;generalize nm x.2.2.1=s1 at le1;generalize nm x.2.2.2=s2 at le2;generalize eY x.2.1=s3 at hl;rcases hk with e | e | e<;>(rw[e];simp[aA,aU,sX];try omega)
theorem wB {w:List Nat} (h:∀y∈w,y<256):iV [w] [32]=w:=by
 simp only[iV,dE,lD,Lib.join_one];exact nZ h
theorem pJ {w0:List Nat} {ws:List (List Nat)} {w:List Nat} (h:∀y∈w,y<256):iV ((w0::ws)++[w]) [32]=iV (w0::ws) [32]++32::w:=by
 have e:(u8 w).map UInt8.toNat=w:=nZ h;simp only[iV,fB,dE,eI,lD,Lib.join_cons];simp only[Lib.joinTail,eI,zB,dE,lD,kE,qf9,jW,dL,e]
 congr 2
theorem jb7 (s:List Nat):∃r,yQ fuel s=some r:=by
 have htx:∀l:Int×Int,∃t,lX fuel l=some t/\asc t=true:=λl=>by
  rcases yR l with⟨hv,e⟩ | ⟨_,e⟩
  ·refine⟨_,e,?_⟩;have hn:=eA hv.2.2.1 hv.2.2.2;unfold eY asc;rw[cJ];intro y hy;have hl:fM l.1<128:=by
    unfold fM;have hk:l.1=1\/l.1=2\/l.1=3\/l.1=4:=by have:=hv.1;have:=hv.2.1;omega
    rcases hk with e | e | e | e<;>(rw[e];decide)
   simp only[Nat.blt,bB,aO];rcases bK.1 hy with rfl | hy
   ·omega
   ·rcases bK.1 hy with rfl | hy
    ·omega
    ·have:=hn.ch y hy;omega
  ·exact⟨_,e,rfl⟩
 unfold yQ N9;cases asc s with
 | true=>
   obtain⟨t,ht,_⟩:=htx (Go.Proofs.S07.lpFin s);rw[aF,ht];exact⟨_,rfl⟩
 | false=>
   rw[aG];unfold jey;rw[aH λk c _=>htx (k,c)];exact⟨_,rfl⟩
theorem zY {s:List Nat} (h:s.length<=1000000):∃r,kF fuel s=some r:=by
 unfold kF vV;rw[bB,bJ h,aF];split<;>exact⟨_,rfl⟩
theorem jai {t:List Nat} (h:t.length<=1000):strings_Split fuel (t,[32])=some (cD t [32]):=by
 unfold strings_Split wL;simp only;rw[bB,bJ (by omega)];rfl
theorem jbw {w:List Nat} (h:w.length=1):∃r,B4 fuel ([32,109,118,97],w)=some r:=by
 unfold B4 U8
 match w,h with
 | [c],_=>exact⟨_,rfl⟩
abbrev C9:aL:=(0,((0,0),(0,0)))
theorem H6 {s:List Nat} (h:s.length<=1000):∃r,lL fuel s=some r/\(r=(C9,4)\/(r.2=0/\gA fuel r.1=some s/\s≠[])):=by
 suffices hs:Ret (lL fuel s) λr=>(r=(C9,4)\/(r.2=0/\gA fuel r.1=some s/\s≠[])) from hs
 obtain⟨hw1,hw2⟩:=C7 s;have hlen:∀i,i< (cD s [32]).length->((cD s [32]).getD i []).length<=1000:=λi hi=>by
  rw[gH,dI hi,pK];exact fX (hw2 _ (bY hi)) h
 unfold lL;rw[jai h,aB];refine aD (λ_=>aW (.inl rfl)) λh5=>?_
 have h5:(cD s [32]).length=5:=by have:=iQ.1 h5;omega
 have hin:∀i:Nat,i<5->aU (i:Int) (cD s [32]).length=true:=λi hi=>bG (by omega) (by rw[h5];omega)
 have hne:s≠[]:=λe=>by rw[e] at h5;exact absurd h5 (by decide)
 refine aK (hin 0 (by omega)) (aD (λ_=>aW (.inl rfl)) λh1=>?_);have h1:((cD s [32]).getD 0 []).length=1:=by have:=iQ.1 h1;omega
 have l1:=hlen 1 (by omega);have l2:=hlen 2 (by omega);have l3:=hlen 3 (by omega);have l4:=hlen 4 (by omega);obtain⟨r2,e2⟩:=jb7 (((cD s [32]).getD 1 []++[32])++(cD s [32]).getD 2 []);obtain⟨r3,e3⟩:=zY (s:=(cD s [32]).getD 3 []) (by omega);obtain⟨r4,e4⟩:=zY (s:=(cD s [32]).getD 4 []) (by omega);obtain⟨r5,e5⟩:=jbw h1;refine aK (hin 1 (by omega)) (aK (by rw[aO];omega) (aK (hin 2 (by omega)) (aK (by rw[aO,dG,dU];omega) ?_)));rw[e2,aB];refine aK (hin 3 (by omega)) ?_;rw[e3,aB];refine aK (hin 4 (by omega)) ?_;rw[e4,aB];refine aK (hin 0 (by omega)) ?_;rw[e5,aB];refine aD (λ_=>aW (.inl rfl)) λ_=>dN (λ_=>aW (.inl rfl)) λ_=>dN (λ_=>aW (.inl rfl)) λ_=>?_
 have hT:∃t,gA fuel (IntKind.u8.wrap (max r5 0),((r2.1.1,r2.1.2),(r3.1,r4.1)))=some t:=by
  rcases sD (IntKind.u8.wrap (max r5 0),((r2.1.1,r2.1.2),(r3.1,r4.1))) with⟨_,e⟩ | ⟨_,e⟩<;>exact⟨_,e⟩
 obtain⟨t,et⟩:=hT;rw[et,aB];refine aD (λ_=>aW (.inl rfl)) λhr=>aW (.inr ⟨rfl,?_,hne⟩)
 have hr:t=s:=iQ.1 hr;rw[<-hr];exact et
theorem V0 {k:Int} (h:1<=k/\k<=3):gG k<256/\gG k≠32:=by
 have hk:k=1\/k=2\/k=3:=by omega
 unfold gG;rcases hk with rfl | rfl | rfl<;>decide
theorem V4 {k:Int} (h:1<=k/\k<=4):fM k<256/\fM k≠32:=by
 have hk:k=1\/k=2\/k=3\/k=4:=by omega
 unfold fM;rcases hk with rfl | rfl | rfl | rfl<;>decide
theorem oQ {x:aL} (hx:OkX x):(cN x).length<=40:=by
 have hv:=hx.vl;have hft:=hx.o.ft;have f0:=hx.f0;have t1:=hx.t1;have n1:=(eA (n:=x.2.2.1) (by omega) (by omega)).le;have n2:=(eA (n:=x.2.2.2) (by omega) (by omega)).le;have n0:=uE hv;unfold cN;simp only[dG,dU];omega
end X
end Go.Vm
namespace Go.Vm
namespace X
open W
def gF (l:List Nat):Nat:=l.foldl (λa b=>10*a+ (b-48)) 0
theorem vM (l:List Nat) (b:Nat):gF (l++[b])=10*gF l+ (b-48):=by unfold gF;rw[P8];rfl
theorem jdj:∀u:Nat,gF ((Lib.decDigits u).map UInt8.toNat)=u:=by
 intro u;induction u using Nat.strongRecOn with
 | _ u ih=>
   rw[Lib.decDigits];split
   ·simp[gF];omega
   ·rw[eI,dE,lD,vM,ih (u / 10) (by omega)];have e:(UInt8.ofNat (48+u%10)).toNat=48+u%10:=by simp;omega
    rw[e];omega
theorem s6 {s:List Nat} (hl:s.length<=1000000) (hb:∀x∈s,x<256):kC fuel s=some (match dZ s with
  | some u=>(u:Int)
  | none=> -1):=by
 have bad:dZ s=none->Ret (some (-1:Int)) (λx=>x=(match dZ s with
  | some u=>(u:Int)
  | none=> -1)):=λh=>aW (by rw[h])
 apply Ret.eq;unfold kC;refine dK (λp:Int×Int=>∃i:Nat,p=(((gF (s.take i):Nat):Int),(i:Int))/\i<=s.length/\(i≠0->s.length<=9)/\gF (s.take i)<10^i) (λp=>s.length-p.2.toNat) ?_ fuel (0,0) ⟨0,rfl,eJ _,λh=>absurd rfl h,by simp[gF]⟩ (by simp only[fuel];omega);rintro _ rec ⟨i,rfl,hi,h9,hv⟩ ih;simp only at ih ⊢;refine aD (λhlt=>?_) λhge=>?_
 ·have hlt:i<s.length:=by omega
  have hx:=hb _ (bY hlt);rw[tW hlt];have dig:∀u,s=aX 20 u->u<1000000000->48<=s[i]/\s[i]<=57:=λu h1 h2=>kR (u:=u) (by omega) _ (h1▸bY hlt)
  refine eX (aD (λg=>bad (nU λu h1 h2 _=>by have:=dig u h1 h2;omega)) λg1=>eX (aD (λg=>bad (nU λu h1 h2 _=>by have:=dig u h1 h2;omega)) λg2=>aD (λg=>bad (nU λu h1 h2 h3=>by omega)) λg3=>?_));have hp:10^i<=10^9:=nI (by decide) (by omega);have hp9:(10:Nat)^9=1000000000:=by decide
  rw[oA,show(((s[i]:Nat):Int)-48)%256=((s[i] - 48:Nat):Int) by omega];refine aV (eX (aV (aV (aV ?_))));have e:s.take (i+1)=s.take i++[s[i]]:=by rw[sU,dI hlt];rfl
  refine ih _ ⟨i+1,?_,hlt,λ_=>by omega,?_⟩ (by simp only;omega)
  ·rw[e,vM];exact jJ (by simp only;omega) (by simp only;omega)
  ·rw[e,vM,pL];omega
 ·have:i=s.length:=by omega
  subst this;rw[iY] at hv ⊢;have hlt:gF s<1000000000:=by
   by_cases h0:s.length=0
   ·rw[h0] at hv;simp at hv;omega
   ·have hp:10^s.length<=10^9:=nI (by decide) (h9 h0);have hp9:(10:Nat)^9=1000000000:=by decide
    omega
  rw[pA (by omega) (by omega),aB];refine aD (λg=>bad (nU λu h1 h2 _=>g ?_)) λg=>aW ?_
  ·have hvu:gF s=u:=by rw[h1,lN (by omega),jdj]
   show aX 20 ((gF s:Nat):Int).toNat=s;rw[cZ,hvu];exact h1.symm
  ·have g:aX 20 (gF s)=s:=iQ.1 g;have h8:s.length<=9:=by
    by_cases h0:s.length=0
    ·omega
    ·exact h9 h0
   rw[kV.2 ⟨g.symm,hlt,h8⟩]
noncomputable def dQ:List (List Nat)->Option (List Int)
 | []=>some []
 | s::t=>match dZ s with
   | none=>none
   | some u=>(dQ t).map λl=>(u:Int)::l
theorem m6:∀ {T:List (List Nat)} {l:List Int},dQ T=some l->l.length=T.length
 | [],l,h=>by cases h;rfl
 | s::t,l,h=>by
   unfold dQ at h;split at h
   ·cases h
   ·obtain⟨r,hr,rfl⟩:=eW.1 h;simp[m6 hr]
noncomputable def cI (line word:List Nat) (many:Nat):Option (List Int):=match cD line [32] with
 | w::T=>if w=word/\T.length=many then dQ T else none
 | []=>none
theorem wN (s:List Nat):∀w∈cD s [32],∀x∈w,x<256:=by
 intro w hw x hx;unfold cD at hw;obtain⟨v,_,rfl⟩:=bH.1 hw;obtain⟨b,_,rfl⟩:=bH.1 hx;exact b.toNat_lt
theorem jc1 {t:List Nat} (h:t.length<=1000000):strings_Split fuel (t,[32])=some (cD t [32]):=by
 show wL (t,[32])=_;unfold wL;simp only;have:(t.length.ble 1000000&& !(([32]:List Nat).length.beq 0))=true:=by rw[bB,bJ h];rfl
 first | rw[this,aF] | simp[bB,h]
theorem yU {line word:List Nat} {many:Nat} (hl:line.length<=1000000) (hm:many<=1000):wZ fuel (line,(word,(many:Int)))=some (match cI line word many with
  | some l=>(l,true)
  | none=>([],false)):=by
 have hws:=C7 line;have hwb:=wN line;have hne:cD line [32]≠[]:=jdp;apply Ret.eq;unfold wZ cI;rw[jc1 hl,aB];generalize cD line [32]=ws at hws hwb hne ⊢
 match ws,hne with
 | w::T,_=>
   have hT:T.length<=1000000:=by have:=hws.1;simp only[cM] at this;omega
   simp only;refine aK (bG (by omega) (by simp)) (aD (λg=>aW ?_) λg=>?_)
   ·rw[aC λh=>g h.1]
   ·have g:w=word:=iQ.1 g;refine aV (aD (λg2=>aW ?_) λg2=>?_)
    ·rw[aC λh=>g2 (by rw[cM,h.2];omega)]
    ·have g2:T.length=many:=by
      have:=iQ.1 g2;rw[cM] at this;omega
     rw[aH ⟨g,g2⟩];refine aK (dA.2 ⟨by omega,by rw[cM];omega,by omega⟩) ?_;refine dK (λp:List Int×Int=>∃i:Nat,p.2=i/\i<=T.length/\p.1.length=i/\dQ T=(dQ (T.drop i)).map (p.1++·)) (λp=>T.length-p.2.toNat) ?_ fuel ([],0) ⟨0,rfl,eJ _,rfl,by simp⟩ (by simp only[fuel];omega);rintro ⟨out,i'⟩ rec ⟨i,e,hi,ho,hg⟩ ih;simp only at e ho hg ih ⊢;subst e;have hlen:(w::T).length-1=T.length:=by simp
     rw[hlen];refine aD (λhlt=>?_) λhge=>?_
     ·have hlt:i<T.length:=by omega
      have hget:(w::T).getD (1+ ((i:Int)).toNat) []=T[i]:=by
       rw[cZ,I3,P6,gH,dI hlt];rfl
      have hmem:T[i]∈w::T:=bN _ (bY hlt);have hdrop:T.drop i=T[i]::T.drop (i+1):=hZ hlt;rw[hget];refine eX ?_;rcases jcd (s:=T[i]) (fX (hws.2 _ hmem) hl) (hwb _ hmem) with⟨u,n1,n2,n3,n4,n5⟩ | ⟨n1,r,n2,n3⟩
      ·rw[n3,aB];refine dN (λh=>by cases h) λ_=>aD (λh=>absurd h (by simp only;omega)) λ_=>aD (λh=>absurd h (by omega)) λ_=>?_
       rw[n5,aB];refine aD (λh=>absurd rfl h) λ_=>qR (aV (ih _ ⟨i+1,by simp only;omega,hlt,by simp;omega,?_⟩ (by simp only;omega)))
       rw[hg,hdrop,dQ,n1];simp only;rw[qhi]
       congr 1
       funext l
       simp
      ·have hno:dQ T=none:=by rw[hg,hdrop,dQ,n1];rfl
       have bad:Ret (some (([]:List Int),false)) λx=>x=(match dQ T with
        | some l=>(l,true)
        | none=>([],false)):=aW (by rw[hno])
       rw[n2,aB];refine dN (λh=>bad) λh1=>aD (λh=>bad) λh2=>aD (λh=>bad) λh3=>?_
       rcases n3 with h | h | h | ⟨_,t,h4,h5⟩
       ·rw[h] at h1;cases h1
       ·exact absurd h h2
       ·exact absurd (by omega) h3
       ·rw[h4,aB];exact aD (λ_=>bad) λh=>absurd h5 h
     ·have:i=T.length:=by omega
      subst this;rw[kM] at hg;have hg:dQ T=some out:=by rw[hg,dQ];simp
      exact aW (by rw[hg])
def aJ (c:Nat):List Nat->List (List Nat)
 | []=>[[]]
 | b::l=>if b=c then []::aJ c l else match aJ c l with
   | w::ws=>(b::w)::ws
   | []=>[[b]]
theorem jH (c:Nat):∀l:List Nat,aJ c l≠[]
 | []=>by simp[aJ]
 | b::l=>by
   unfold aJ;split
   ·simp
   ·split<;>simp
def kQ (b:Nat):List (List Nat)->List (List Nat)
 | []=>[]
 | [w]=>[w++[b]]
 | w::v::ws=>w::kQ b (v::ws)
theorem ja8 {b:Nat} {w:List Nat} {ws:List (List Nat)} (h:ws≠[]):kQ b (w::ws)=w::kQ b ws:=by
 match ws,h with
 | v::ws,_=>rfl
theorem tR (c b:Nat):∀l:List Nat,aJ c (l++[b])=if b=c then aJ c l++[[]] else kQ b (aJ c l)
 | []=>by
   simp only[eP,aJ];split<;>simp[kQ]
 | x::l=>by
   rw[fB,aJ,tR c b l];have hn:=jH c l;rw[aJ];by_cases hx:x=c
   ·rw[aH hx,aH hx];by_cases hb:b=c
    ·rw[aH hb,aH hb];rfl
    ·rw[aC hb,aC hb,ja8 hn]
   ·rw[aC hx,aC hx]
    match aJ c l,hn with
    | w::ws,_=>
      by_cases hb:b=c
      ·rw[aH hb,aH hb];rfl
      ·rw[aC hb,aC hb];cases ws with
       | nil=>rfl
       | cons v ws=>rfl
theorem b9 {b:Nat}:∀ {L:List (List Nat)},L≠[]->kQ b L=L.set (L.length-1) (L.getD (L.length-1) []++[b])
 | [],h=>absurd rfl h
 | [w],_=>rfl
 | w::v::ws,_=>by
   rw[kQ,b9 (L:=v::ws) (by simp)];have e:(w::v::ws).length-1=((v::ws).length-1)+1:=by simp
   rw[e,qgb,P6]
theorem kA (c:Nat):∀l:List Nat,(aJ c l).length<=l.length+1/\∀w∈aJ c l,w.length<=l.length
 | []=>by simp[aJ]
 | b::l=>by
   obtain⟨h1,h2⟩:=kA c l;unfold aJ;split
   ·refine⟨by simp;omega,λw hw=>?_⟩;rcases bK.1 hw with rfl | hw
    ·simp
    ·have:=h2 w hw;simp;omega
   ·split
    ·rename_i w ws e;rw[e] at h1 h2;refine⟨by simp at h1 ⊢;omega,λv hv=>?_⟩;rcases bK.1 hv with rfl | hv
     ·have:=h2 w bM;simp;omega
     ·have:=h2 v (bN _ hv);simp;omega
    ·exact⟨by simp,λv hv=>by simp at hv;subst hv;simp⟩
theorem sO {s:List Nat} {c:Nat} (hl:s.length<=1000000):lW fuel (s,(c:Int))=some (aJ c s):=by
 apply Ret.eq;unfold lW;refine dK (λp:List (List Nat)×Int=>∃i:Nat,p=(aJ c (s.take i),(i:Int))/\i<=s.length) (λp=>s.length-p.2.toNat) ?_ fuel ([[]],0) ⟨0,rfl,eJ _⟩ (by simp only[fuel];omega);rintro _ rec ⟨i,rfl,hi⟩ ih;simp only at ih ⊢;have hn:=jH c (s.take i);obtain⟨l1,l2⟩:=kA c (s.take i);have htk:(s.take i).length=i:=by simp;omega
 rw[htk] at l1 l2;refine aD (λhlt=>?_) λhge=>?_
 ·have hlt:i<s.length:=by omega
  have e:s.take (i+1)=s.take i++[s[i]]:=by rw[sU,dI hlt];rfl
  have hL:0< (aJ c (s.take i)).length:=H9.2 hn;rw[tW hlt];refine eX (aD (λg=>?_) λg=>?_)
  ·refine qR (aV (ih _ ⟨i+1,?_,hlt⟩ (by simp only;omega)));rw[e,tR,aH (by omega)];exact jJ rfl (by simp)
  ·have e3:((((aJ c (s.take i)).length:Nat):Int)-1).toNat=(aJ c (s.take i)).length-1:=by omega
   have e4:(s.drop ((i:Int)).toNat).take (((i:Int)+1).toNat-((i:Int)).toNat)=[s[i]]:=by
    rw[show((i:Int)+1).toNat-((i:Int)).toNat=1 by omega,cZ,hZ hlt];rfl
   have e5:((aJ c (s.take i)).getD ((aJ c (s.take i)).length-1) []).length<=i:=by
    rw[gH,dI (by omega)];exact l2 _ (bY _)
   rw[e3,e4];refine aV (eX (aV (aK (dA.2 ⟨by omega,by omega,by omega⟩) (aK (bJ (by rw[dU];omega)) (eX (aV (ih _ ⟨i+1,?_,hlt⟩ (by simp only;omega))))))));rw[e,tR,aC (by omega),b9 hn];exact jJ rfl (by simp)
 ·have:i=s.length:=by omega
  subst this;rw[iY];exact aW rfl
theorem yF {w:List Nat} (h:w.length<=1000000000):iZ fuel (w++[10],[10])=some (w,true):=by
 apply Ret.eq;unfold iZ;have e1:((w++[10]).length:Int)-(([10]:List Nat).length:Int)=(w.length:Int):=by simp
 simp only;rw[e1];refine aD (λ_=>?_) λg=>absurd (by simp;omega) g
 refine aV (aK (dA.2 ⟨by omega,by simp;omega,by simp⟩) (dN (λg=>?_) λ_=>aV (aK (dA.2 ⟨by omega,by omega,by simp;omega⟩) (aW ?_))))
 ·simp at g
 ·simp
theorem d9 {e:List Nat} (h:e.length<=1000000000) (hn:10∉e):iZ fuel (e,[10])=some (e,false):=by
 apply Ret.eq;unfold iZ;simp only;refine aD (λg=>?_) λ_=>aW rfl
 have g:1<=e.length:=by simp at g;omega
 refine aK (aY (by simp;omega) (by simp;omega)) (aK (dA.2 ⟨by simp;omega,by simp;omega,by omega⟩) (dN (λ_=>aW rfl) λg2=>?_));exfalso;have g3:((e.drop (((e.length:Int)-(([10]:List Nat).length:Int))).toNat).take (e.length-(((e.length:Int)-(([10]:List Nat).length:Int))).toNat))=[10]:=by simpa using g2
 have:(10:Nat)∈([10]:List Nat):=by simp
 rw[<-g3] at this;exact hn (uR (yZ this))
def fJ:List (List Nat)->List (List Nat)
 | []=>[]
 | [e]=>if e=[] then [] else [e]
 | w::v::ws=>(w++[10])::fJ (v::ws)
theorem nO {c:Nat} {b:List Nat}:∀ {a:List Nat},c∉a->aJ c (a++c::b)=a::aJ c b
 | [],_=>by simp[aJ]
 | x::a,h=>by
   have hx:x≠c:=λe=>h (e▸bM)
   rw[fB,aJ,aC hx,nO λg=>h (bN _ g)]
theorem d6 {c:Nat}:∀ {a:List Nat},c∉a->aJ c a=[a]
 | [],_=>rfl
 | x::a,h=>by
   have hx:x≠c:=λe=>h (e▸bM)
   rw[aJ,aC hx,d6 λg=>h (bN _ g)]
theorem l9 (c:Nat):∀s:List Nat,c∉s\/∃a b,s=a++c::b/\c∉a
 | []=>.inl (by simp)
 | x::s=>by
   by_cases h:x=c
   ·exact .inr ⟨[],s,by rw[h];rfl,by simp⟩
   ·rcases l9 c s with g | ⟨a,b,e,g⟩
    ·exact .inl λq=>(bK.1 q).elim (λq=>h q.symm) λq=>g q
    ·exact .inr ⟨x::a,b,by rw[e];rfl,λq=>(bK.1 q).elim (λq=>h q.symm) λq=>g q⟩
theorem uD:∀(n:Nat) (s:List Nat),s.length<=n->iX s=fJ (aJ 10 s)
 | 0,s,h=>by
   have:s=[]:=rW (by omega);subst this;rw[(o8).2 rfl];rfl
 | n+1,s,h=>by
   rcases l9 10 s with g | ⟨a,b,rfl,g⟩
   ·rw[d6 g];by_cases h0:s=[]
    ·subst h0;rw[(o8).2 rfl];rfl
    ·rw[jev h0 g,fJ,aC h0]
   ·rw[jeu g,nO g,uD n b (by simp at h;omega)];have:=jH 10 b
    match aJ 10 b,this with
    | v::ws,_=>rfl
set_option maxRecDepth 100000
abbrev bP:=Int×((Int×Int)×(Int×Int))
def bF:List Nat:=[101,110,100]
def bX:List Nat:=[99,114,101,97,115,101]
noncomputable def gU (w:List Nat):Option bP:=match lL fuel w with
 | some r=>if r.2=0 then some r.1 else none
 | none=>none
theorem t7 {w:List Nat} (h:w.length<=1000):(∃x,gU w=some x/\lL fuel w=some (x,0))\/(gU w=none/\∃r,lL fuel w=some r/\r.2≠0):=by
 obtain⟨r,h1,_⟩:=H6 h;unfold gU;rw[h1];by_cases h0:r.2=0
 ·exact .inl ⟨r.1,by simp[h0],by rw[<-h0]⟩
 ·exact .inr ⟨by simp[h0],r,rfl,h0⟩
noncomputable def bL (i:Nat) (sh:Int×Int) (l:List bP) (body:List Nat):List (List Nat)->Int ⊕ ((Int×Int)×(List bP×(Int×List Nat)))
 | []=>.inl (i+1)
 | [_]=>.inl (i+1)
 | w::v::ws=>match (if i=0 then none else cI w bF 1) with
   | some ns=>if v=[]/\ws=[] then .inr (sh,(l,(ns.getD 0 0,body))) else .inl (i+2)
   | none=>if i=0 then(match cI w bX 2 with
      | none=>.inl 1
      | some ns=>bL 1 (ns.getD 0 0,ns.getD 1 0) l (body++(w++[10])) (v::ws))
     else(match gU w with
      | none=>.inl (i+1)
      | some x=>bL (i+1) sh (l++[x]) (body++(w++[10])) (v::ws))
def kD (r:Int ⊕ ((Int×Int)×(List bP×(Int×List Nat)))):(Int×(Int×(List bP×(Int×Int))))×Int:=match r with
 | .inl n=>((0,(0,([],(0,0)))),n)
 | .inr a=>((a.1.1,(a.1.2,(a.2.1,(a.2.2.1,(a.2.2.2.length:Int))))),0)
theorem uJ {w word:List Nat} {m:Nat} {l:List Int} (h:cI w word m=some l):l.length=m:=by
 unfold cI at h;split at h
 ·split at h
  ·rename_i g;rw[m6 h];exact g.2
  ·cases h
 ·cases h
theorem jbh {y:List Nat} (h:y.length<=1000000000) (hy:(∃v,y=v++[10])\/10∉y):∃r,iZ fuel (y,[10])=some r:=by
 rcases hy with⟨v,rfl⟩ | hy
 ·exact⟨_,yF (by simp at h;omega)⟩
 ·exact⟨_,d9 h hy⟩
theorem jbo {v:List Nat} {ws:List (List Nat)} (h:¬(v=[]/\ws=[])) (hv:10∉v):∃y r,fJ (v::ws)=y::r/\((∃u,y=u++[10])\/10∉y)/\y.length<=v.length+1:=by
 cases ws with
 | nil=>
   have h0:v≠[]:=λe=>h ⟨e,rfl⟩
   exact⟨v,[],by rw[fJ,aC h0],.inr hv,by omega⟩
 | cons w ws=>exact⟨v++[10],fJ (w::ws),rfl,.inl ⟨v,rfl⟩,by simp⟩
abbrev kO:=(Int×Unit)×((Int×(Int×(List bP×(Int×Int))))×((Bool×Unit)×(Int×Unit)))
def fK (i:Int) (sh:Int×Int) (l:List bP) (sum b:Int) (over:Bool) (at_:Int):kO:=((i,()),((sh.1,(sh.2,(l,(sum,b)))),((over,()),(at_,()))))
abbrev mB:=(Int×(Int×(List bP×(Int×Int))))×Int
structure StepD (D:kO->Option mB) (S:List Nat->(kO->Option mB)->kO->Option mB):Prop where
 d0:∀(i:Nat) sh l sum b at_,i<=3000000->D (fK i sh l sum b false at_)=some ((0,(0,([],(0,0)))),(i:Int)+1)
 d1:∀(i:Nat) sh l sum b at_,i<=3000000->D (fK i sh l sum b true at_)=some ((sh.1,(sh.2,(l,(sum,b)))),0)
 cut:∀y rec (i:Nat) sh l sum b over at_ w,i<=3000000->iZ fuel (y,[10])=some (w,false)->S y rec (fK i sh l sum b over at_)=some ((0,(0,([],(0,0)))),(i:Int)+1)
 late:∀y rec (i:Nat) sh l sum b at_ w,i<=3000000->iZ fuel (y,[10])=some (w,true)->S y rec (fK i sh l sum b true at_)=some ((0,(0,([],(0,0)))),(i:Int)+1)
 line:∀y rec (i:Nat) sh l (n:Nat) w,i<=3000000->l.length<=3000000->n<=3000000000->w.length<=1000->y.length<=1001->iZ fuel (y,[10])=some (w,true)->
  S y rec (fK i sh l 0 0 false n)=(match (if i=0 then none else cI w bF 1) with
    | some ns=>rec (fK ((i:Int)+1) sh l (ns.getD 0 0) n true ((n:Int)+y.length))
    | none=>if i=0 then(match cI w bX 2 with
       | none=>some ((0,(0,([],(0,0)))),1)
       | some ns=>rec (fK ((i:Int)+1) (ns.getD 0 0,ns.getD 1 0) l 0 0 false ((n:Int)+y.length)))
      else(match gU w with
       | none=>some ((0,(0,([],(0,0)))),(i:Int)+1)
       | some x=>rec (fK ((i:Int)+1) sh (l++[x]) 0 0 false ((n:Int)+y.length))))
theorem p9 {D:kO->Option mB} {S:List Nat->(kO->Option mB)->kO->Option mB} (h:StepD D S):∀(P:List (List Nat)),P≠[]->(∀w∈P,10∉w)->(∀w∈P,w.length<=1000)->∀(i:Nat) (sh:Int×Int) (l:List bP) (body:List Nat),i+P.length<=2000000->l.length<=i->body.length<=1001*i->
  gD D S (fJ P) (fK i sh l 0 0 false body.length)=some (kD (bL i sh l body P))
 | [],h0,_,_,_,_,_,_,_,_,_=>absurd rfl h0
 | [e],_,h10,hl,i,sh,l,body,hi,hll,hbl=>by
   simp only[cM,gV] at hi;have e10:=h10 e (by simp);have el:=hl e (by simp);rw[fJ,bL];by_cases h0:e=[]
   ·rw[aH h0,gD,h.d0 i _ _ _ _ _ (by omega)];rfl
   ·rw[aC h0,gD,h.cut _ _ i _ _ _ _ _ _ _ (by omega) (d9 (by omega) e10)];rfl
 | w::v::ws,_,h10,hl,i,sh,l,body,hi,hll,hbl=>by
   simp only[cM] at hi;have wl:=hl w (by simp);have hv10:=h10 v (by simp);have vl:=hl v (by simp);have ih:=p9 h (v::ws) (by simp) (λx hx=>h10 x (bN _ hx)) (λx hx=>hl x (bN _ hx));have hlen:(((w++[10]).length:Nat):Int)=(w.length:Int)+1:=by simp
   rw[fJ,gD,h.line _ _ i _ _ body.length w (by omega) (by omega) (by omega) wl (by simp;omega) (yF (by omega))];rw[bL];cases e1:(if i=0 then none else cI w bF 1) with
   | some ns=>
     simp only;by_cases hv:v=[]/\ws=[]
     ·rw[aH hv,hv.1,hv.2,fJ,aH rfl,gD];have:=h.d1 (i+1) sh l (ns.getD 0 0) body.length ((body.length:Int)+ ((w++[10]).length:Nat)) (by omega);rw[show(((i+1:Nat):Int))=(i:Int)+1 by omega] at this;rw[this];rfl
     ·rw[aC hv];obtain⟨y,r,ey,hy,yl⟩:=jbo hv hv10;rw[ey,gD];obtain⟨c,hc⟩:=jbh (by omega) hy;have e2:(((i+1:Nat):Int))=(i:Int)+1:=by omega
      obtain⟨cw,cb⟩:=c;cases cb with
      | false=>
        have:=h.cut y (gD D S r) (i+1) sh l (ns.getD 0 0) body.length true ((body.length:Int)+ ((w++[10]).length:Nat)) cw (by omega) hc;rw[e2] at this;rw[this];simp only[kD]
        congr 2
      | true=>
        have:=h.late y (gD D S r) (i+1) sh l (ns.getD 0 0) body.length ((body.length:Int)+ ((w++[10]).length:Nat)) cw (by omega) hc;rw[e2] at this;rw[this];simp only[kD]
        congr 2
   | none=>
     simp only;have eb:(((body++(w++[10])).length:Nat):Int)=(body.length:Int)+ (((w++[10]).length:Nat):Int):=by rw[dG];omega
     by_cases h0:i=0
     ·rw[aH h0,aH h0];subst h0;cases e2:cI w bX 2 with
      | none=>rfl
      | some ns=>
        simp only;have:=ih 1 (ns.getD 0 0,ns.getD 1 0) l (body++(w++[10])) (by simp only[cM];omega) (by omega) (by simp;omega);rw[eb] at this;exact this
     ·rw[aC h0,aC h0];cases e2:gU w with
      | none=>rfl
      | some x=>
        simp only;have:=ih (i+1) sh (l++[x]) (body++(w++[10])) (by simp only[cM];omega) (by simp;omega) (by simp;omega);rw[eb,show(((i+1:Nat):Int))=(i:Int)+1 by omega] at this;exact this
theorem d5:∀s:List Nat,∀w∈aJ 10 s,10∉w
 | [],w,hw=>by simp[aJ] at hw;subst hw;simp
 | b::s,w,hw=>by
   have ih:=d5 s;unfold aJ at hw;split at hw
   ·rcases bK.1 hw with rfl | hw
    ·simp
    ·exact ih w hw
   ·rename_i hb;split at hw
    ·rename_i v vs e;rw[e] at ih;rcases bK.1 hw with rfl | hw
     ·intro g;rcases bK.1 g with g | g
      ·exact hb g.symm
      ·exact ih v bM g
     ·exact ih w (bN _ hw)
    ·simp at hw;subst hw;intro g;simp at g;exact hb g.symm
theorem aQ {α:Type} {c:Bool} {x:Option α} (h:c=true):aA c x=x:=by rw[h];rfl
theorem dD {α:Type} {p:Prop} {inst:Decidable p} {x y:α} (h:¬p):(bif @decide p inst then x else y)=y:=by rw[lF h];rfl
theorem cC {α:Type} {p:Prop} {inst:Decidable p} {x y:α} (h:p):(bif @decide p inst then x else y)=x:=by rw[bJ h];rfl
theorem E6 {s:List Nat} (hs:s.length<=1000000) (hp:∀w∈aJ 10 s,w.length<=1000):k9 fuel s=some (kD (bL 0 (0,0) [] [] (aJ 10 s))):=by
 have hlen:(aJ 10 s).length<=1000001:=by have:=(kA 10 s).1;omega
 unfold k9 V2;simp only;rw[bB,bJ (by omega),aF,aB,uD s.length s (bQ _)];refine p9 ?_ (aJ 10 s) (jH 10 s) (d5 s) hp 0 (0,0) [] [] (by omega) (bQ _) (bQ _);have endE:([101,110,100]:List Nat)=bF:=rfl;have creE:([99,114,101,97,115,101]:List Nat)=bX:=rfl;refine⟨λi sh l sum b at_ hi=>?_,λi sh l sum b at_ hi=>?_,λy rec i sh l sum b over at_ w hi hc=>?_,λy rec i sh l sum b at_ w hi hc=>?_,λy rec i sh l n w hi hl hn hw hy hc=>?_⟩
 ·apply Ret.eq;simp only[fK];exact dN (λ_=>aV (aW rfl)) λg=>by cases g
 ·apply Ret.eq;simp only[fK];exact dN (λg=>by cases g) λ_=>aW rfl
 ·apply Ret.eq;simp only[fK];refine aV ?_;rw[hc,aB];exact dN (λ_=>aW rfl) λg=>by cases g
 ·apply Ret.eq;simp only[fK];refine aV ?_;rw[hc,aB];exact dN (λg=>by cases g) λ_=>dN (λ_=>aW rfl) λg=>by cases g
 ·have hy':(y.length:Int)<=1001:=by omega
  simp only[fK];rw[aQ (aY (by omega) (by omega)),hc,aB];simp only[fQ,aG];have n1:=yU (line:=w) (word:=bF) (many:=1) (by omega) (by omega);have n2:=yU (line:=w) (word:=bX) (many:=2) (by omega) (by omega);rw[show(((1:Nat)):Int)=1 from rfl] at n1;rw[show(((2:Nat)):Int)=2 from rfl] at n2;rw[endE,creE,n1,n2];simp only[aB];by_cases h0:i=0
  ·have q1:¬((1:Int)< (i:Int)+1):=by omega
   have q2:(i:Int)+1=1:=by omega
   rw[aH h0];simp only;rw[aH h0];cases e2:cI w bX 2 with
   | none=>
     cases cI w bF 1 with
     | none=>simp only[aG];(refine(cC q2).trans ?_;rw[q2];rfl)
     | some ms=>simp only[aF];(refine(dD q1).trans ((cC q2).trans ?_);rw[q2];rfl)
   | some ns=>
     have l2:=uJ e2;cases cI w bF 1 with
     | none=>
       simp only[fQ,aG];refine(cC q2).trans ?_;rw[aQ (bG (by omega) (by omega)),aQ (bG (by omega) (by omega)),aQ (aY (by omega) (by omega))]
     | some ms=>
       simp only[fQ,aG,aF];refine(dD q1).trans ((cC q2).trans ?_);rw[aQ (bG (by omega) (by omega)),aQ (bG (by omega) (by omega)),aQ (aY (by omega) (by omega))]
  ·have q1:(1:Int)< (i:Int)+1:=by omega
   have q2:¬((i:Int)+1=1):=by omega
   rw[aC h0];cases e1:cI w bF 1 with
   | some ns=>
     have l1:=uJ e1;simp only[aF];refine(cC q1).trans ?_;rw[aQ (bG (by omega) (by omega)),aQ (aY (by omega) (by omega))]
   | none=>
     simp only[aG];refine(dD q2).trans ?_;rw[aC h0];rcases t7 hw with⟨x,p1,p2⟩ | ⟨p1,r,p2,p3⟩
     ·rw[p1,p2,aB];simp only;refine(dD (λg=>g rfl)).trans ?_;rw[aQ (gC (by omega)),aQ (aY (by omega) (by omega))]
     ·rw[p1,p2,aB];simp only;exact cC p3
abbrev iR:=List bP×(List Nat×(Int×(Int×(Int×((Int×(Int×Unit))×(Int×Int))))))
def tD (l:List bP) (body:List Nat) (sum e i:Int) (sh:Int×Int):iR:=(l,(body,(sum,(e,(i,((0,(0,())),sh))))))
structure StepT {β:Type} (P:List (List Nat)) (S:(iR->Option β)->iR->Option β) (T:iR->Option β) (bad:Int->β):Prop where
 stop:∀rec l body sum e sh,S rec (tD l body sum e (P.length:Int) sh)=T (tD l body sum e (P.length:Int) sh)
 last:∀rec (i:Nat) (h:i+1=P.length) l body sum (e:Nat) sh,body.length<=3000000000->S rec (tD l body sum e (i:Int) sh)=if P[i]=[]/\0<e then rec (tD l body sum e ((i:Int)+1) sh) else some (bad ((i:Int)+1))
 late:∀rec (i:Nat),i+1<P.length->∀l body sum (e:Nat) sh,0<e->S rec (tD l body sum e (i:Int) sh)=some (bad ((i:Int)+1))
 line:∀rec (i:Nat) (h:i+1<P.length) l body sum sh,l.length<=2000000->body.length<=3000000000->S rec (tD l body sum 0 (i:Int) sh)=
  (if i=0 then(match cI P[i] bX 2 with
      | none=>some (bad 1)
      | some ns=>rec (tD l (body++(P[i]++[10])) sum 0 ((i:Int)+1) (ns.getD 0 0,ns.getD 1 0)))
    else(match cI P[i] bF 1 with
     | some ns=>rec (tD l body (ns.getD 0 0) ((i:Int)+1) ((i:Int)+1) sh)
     | none=>(match gU P[i] with
       | none=>some (bad ((i:Int)+1))
       | some x=>rec (tD (l++[x]) (body++(P[i]++[10])) sum 0 ((i:Int)+1) sh))))
def nY {β:Type} (T:iR->Option β) (bad:Int->β) (n:Nat) (r:Int ⊕ ((Int×Int)×(List bP×(Int×List Nat)))):Option β:=match r with
 | .inl m=>some (bad m)
 | .inr a=>T (tD a.2.1 a.2.2.2 a.2.2.1 ((a.2.1.length:Int)+2) (n:Int) a.1)
theorem uF {β:Type} {P:List (List Nat)} {S:(iR->Option β)->iR->Option β} {T:iR->Option β} {bad:Int->β} (h:StepT P S T bad) (hP:P.length<=1000001) (hp:∀w∈P,w.length<=1000):
  ∀(k n i:Nat) (sh:Int×Int) (l:List bP) (body:List Nat),P.length=i+ (k+1)->k+4<=n->l.length=i-1->body.length<=1001*i->
   dF S n (tD l body (-1) 0 (i:Int) sh)=nY T bad P.length (bL i sh l body (P.drop i))
 | 0,n+1,i,sh,l,body,hi,hn,hl,hb=>by
   rw[hZ (show i<P.length by omega),mF (by omega),bL,dF];have:=h.last (dF S n) i (by omega) l body (-1) 0 sh (by omega);rw[aC (by simp)] at this;exact this
 | k+1,n+1,i,sh,l,body,hi,hn,hl,hb=>by
   have hd:=hZ (show i<P.length by omega);have hd2:=hZ (show i+1<P.length by omega);have hw:=hp _ (bY (show i<P.length by omega));have hs:=h.line (dF S n) i (by omega) l body (-1) sh (by omega) (by omega);have e1:((i:Int)+1)=((i+1:Nat):Int):=by omega
   rw[dF,hs,hd,hd2,bL];by_cases h0:i=0
   ·rw[aH h0,aH h0,aH h0];subst h0;simp only;cases cI P[0] bX 2 with
    | none=>rfl
    | some ns=>
      simp only;have ih:=uF h hP hp k n 1 (ns.getD 0 0,ns.getD 1 0) l (body++(P[0]++[10])) (by omega) (by omega) (by omega) (by simp;omega);rw[hd2] at ih;exact ih
   ·rw[aC h0,aC h0,aC h0];cases cI P[i] bF 1 with
    | none=>
      simp only;cases gU P[i] with
      | none=>rfl
      | some x=>
        simp only;have ih:=uF h hP hp k n (i+1) sh (l++[x]) (body++(P[i]++[10])) (by omega) (by omega) (by simp;omega) (by simp;omega);rw[hd2] at ih;rw[e1];exact ih
    | some ns=>
      simp only;obtain⟨n,rfl⟩:∃m,n=m+1:=⟨n-1,by omega⟩
      rw[dF,e1];by_cases hk:k=0
      ·have hlast:=h.last (dF S n) (i+1) (by omega) l body (ns.getD 0 0) (i+1) sh (by omega);rw[hlast];have hd3:P.drop (i+1+1)=[]:=mF (by omega);rw[hd3];by_cases hv:P[i+1]=[]
       ·rw[aH ⟨hv,by omega⟩,aH ⟨hv,rfl⟩];obtain⟨n,rfl⟩:∃m,n=m+1:=⟨n-1,by omega⟩
        rw[dF,show(((i+1:Nat):Int)+1)=(P.length:Int) by omega,h.stop];simp only[nY];rw[show((i+1:Nat):Int)=(l.length:Int)+2 by omega]
       ·rw[aC λg=>hv g.1,aC λg=>hv g.1];simp only[nY];rw[show(((i+1:Nat):Int)+1)=(i:Int)+2 by omega]
      ·have hlate:=h.late (dF S n) (i+1) (by omega) l body (ns.getD 0 0) (i+1) sh (by omega);rw[hlate,aC λg=>by
        have:=qe9.1 g.2;omega]
       simp only[nY];rw[show(((i+1:Nat):Int)+1)=(i:Int)+2 by omega]
abbrev mL:=(Int×(Int×(List (Int×(Int×Int)))))×(Int×Int)
def mY (N:Nat) (x2:iR):Option mL:=((rF N x2.2.1).bind λr15=>bif(decide (x2.2.2.1≠r15)) then(some ((0,(0,[])),(x2.2.2.2.1,10))) else((gJ N (x2.2.2.2.2.2.2.1,x2.2.2.2.2.2.2.2)).bind λr16=>bif(decide (r16=0)) then(some ((0,(0,[])),(1,1))) else((zF N ((x2.2.2.2.2.2.2.1,x2.2.2.2.2.2.2.2),x2.1)).bind λr17=>bif(decide (r17.2.2≠0)) then(aA (aM (r17.2.1+2)) (some ((0,(0,[])),((r17.2.1+2),r17.2.2)))) else((uW N (r17.1.1,(r17.1.2.1,r17.1.2.2))).bind λr18=>dF (λrec19 (x19:(Int×(Int×(Int×Unit))))=>bif(decide (x19.1< ((x2.1.length:Nat):Int))) then(bif(decide (((r18.length:Nat):Int)<=x19.1)) then(aA (aM (x19.1+2)) (some ((0,(0,[])),((x19.1+2),6)))) else(aA (aU x19.1 x2.1.length) (aA (aU x19.1 r18.length) (bif(!(decide ((x2.1.getD x19.1.toNat (0,((0,0),(0,0)))).1=(r18.getD x19.1.toNat (0,((0,0),(0,0)))).1)&&(decide ((x2.1.getD x19.1.toNat (0,((0,0),(0,0)))).2.1.1=(r18.getD x19.1.toNat (0,((0,0),(0,0)))).2.1.1)&&(decide ((x2.1.getD x19.1.toNat (0,((0,0),(0,0)))).2.1.2=(r18.getD x19.1.toNat (0,((0,0),(0,0)))).2.1.2)&&(decide ((x2.1.getD x19.1.toNat (0,((0,0),(0,0)))).2.2.1=(r18.getD x19.1.toNat (0,((0,0),(0,0)))).2.2.1)&&decide ((x2.1.getD x19.1.toNat (0,((0,0),(0,0)))).2.2.2=(r18.getD x19.1.toNat (0,((0,0),(0,0)))).2.2.2)))))) then(aA (aM (x19.1+2)) (some ((0,(0,[])),((x19.1+2),6)))) else(aA (aM (x19.1+1)) (rec19 ((x19.1+1),(x19.2.1,(x19.2.2.1,()))))))))) else(some ((r17.1.1,(r17.1.2.1,r17.1.2.2)),(0,0)))) N (0,(x2.2.2.2.2.2.1.1,(x2.2.2.2.2.2.1.2.1,())))))))
def kP (m:Int):mL:=((0,(0,[])),(m,4))
theorem iI {σ β:Type} {k:σ->Option β} {f:(σ->Option β)->Option β}:jn k f=f k:=rfl
theorem gN {α:Type} {c:Bool} {x y:α} (h:c=true):(bif c then x else y)=x:=by rw[h];rfl
theorem iE {α:Type} {c:Bool} {x y:α} (h:c=false):(bif c then x else y)=y:=by rw[h];rfl
theorem d8:∀l:List UInt8,aJ 32 (l.map UInt8.toNat)=(dJ 32 l).map (·.map UInt8.toNat)
 | []=>rfl
 | b::l=>by
   have ih:=d8 l;have hn:=vF (c:=32) l;simp only[dE,aJ,dJ];rw[ih];by_cases h:b=32
   ·subst h;rfl
   ·have h':¬b.toNat=32:=λg=>h (I1.1 g)
    simp only[h,h',dO]
    match dJ 32 l,hn with
    | w::ws,_=>rfl
theorem jdo {w:List Nat} (h:∀x∈w,x<256):cD w [32]=aJ 32 w:=by
 have e:aJ 32 w=(dJ 32 (u8 w)).map (·.map UInt8.toNat):=by rw[<-d8,nZ h]
 rw[e];unfold cD;rw[show u8 [32]=[32] from rfl,nL]
theorem oH (c:Nat):∀(s w:List Nat),w∈aJ c s->∀x∈w,x∈s
 | [],w,h,x,hx=>by simp[aJ] at h;subst h;cases hx
 | b::s,w,h,x,hx=>by
   have ih:=oH c s;unfold aJ at h;split at h
   ·rcases bK.1 h with rfl | h
    ·cases hx
    ·exact bN _ (ih w h x hx)
   ·split at h
    ·rename_i v vs e;rw[e] at ih;rcases bK.1 h with rfl | h
     ·rcases bK.1 hx with rfl | hx
      ·exact bM
      ·exact bN _ (ih v bM x hx)
     ·exact bN _ (ih w (bN _ h) x hx)
    ·simp at h;subst h;simp at hx;subst hx;exact bM
def jcb (w:Option Nat):Int:=match w with
 | some u=>(u:Int)
 | none=> -1
theorem jdh {s:List Nat} (hs:s.length<=1000000) (hB:∀x∈s,x<256) (hp:∀w∈aJ 10 s,w.length<=1000):qB fuel s=nY (mY fuel) kP (aJ 10 s).length (bL 0 (0,0) [] [] (aJ 10 s)):=by
 have hlen:(aJ 10 s).length<=1000001:=by have:=(kA 10 s).1;omega
 have hne:=H9.2 (jH 10 s);unfold qB;rw[show((10:Int))=((10:Nat):Int) from rfl,sO hs,aB];have hPB:∀w∈aJ 10 s,∀x∈w,x<256:=λw hw x hx=>hB x (oH 10 s w hw x hx)
 generalize aJ 10 s=P at hlen hne hp hPB ⊢;refine uF (T:=mY fuel) (bad:=kP) ?_ hlen hp (P.length-1) fuel 0 (0,0) [] [] (by omega) (by simp only[fuel];omega) rfl (by simp);have get:∀i:Nat,(h:i<P.length)->P.getD ((i:Int)).toNat []=P[i]:=λi h=>by
  rw[cZ,gH,dI h];rfl
 have cutw:∀i:Nat,(h:i<P.length)->lW fuel (P[i],32)=some (aJ 32 P[i]):=λi h=>sO (c:=32) (by have:=hp _ (bY h);omega)
 have cutG:∀i:Nat,(h:i<P.length)->lW fuel (P.getD ((i:Int)).toNat [],32)=some (aJ 32 P[i]):=λi h=>by rw[get i h];exact cutw i h
 refine⟨λrec l body sum e sh=>?_,λrec i h l body sum e sh hb=>?_,λrec i h l body sum e sh he=>?_,λrec i h l body sum sh hl hb=>?_⟩
 ·simp only[tD];exact dD (by omega)
 ·have hi:i<P.length:=by omega
  simp only[tD];refine(cC (by omega)).trans ((aQ (bG (by omega) (by omega))).trans ?_);rw[cutG i hi,aB];refine iI.trans ((aQ (aY (by omega) (by omega))).trans ((cC (by omega)).trans ((aQ (bG (by omega) (by omega))).trans ?_)));have no:∀c:Bool,c=false->True:=λ_ _=>trivial
  by_cases h1:P[i]=[]
  ·have h1':P.getD ((i:Int)).toNat []=[]:=by rw[get i hi];exact h1
   refine(cC h1').trans ?_;by_cases h2:0<e
   ·rw[aH ⟨h1,h2⟩];refine(gN (bJ (by omega))).trans ((dD (by omega)).trans ((aQ (aY (by omega) (by omega))).trans rfl))
   ·rw[aC λg=>h2 g.2];refine(iE (lF (by omega))).trans (iI.trans ((aQ (aY (by omega) (by omega))).trans ((cC (by omega)).trans ?_)));exact(gN rfl).trans ((aQ (aY (by omega) (by omega))).trans rfl)
  ·rw[aC λg=>h1 g.1];have h1':¬P.getD ((i:Int)).toNat []=[]:=by rw[get i hi];exact h1
   refine(dD h1').trans ((iE rfl).trans (iI.trans ((aQ (aY (by omega) (by omega))).trans ((cC (by omega)).trans ?_))));exact(gN rfl).trans ((aQ (aY (by omega) (by omega))).trans rfl)
 ·have hi:i<P.length:=by omega
  simp only[tD];refine(cC (by omega)).trans ((aQ (bG (by omega) (by omega))).trans ?_);rw[cutG i hi,aB];refine iI.trans ((aQ (aY (by omega) (by omega))).trans ((dD (by omega)).trans ((iE rfl).trans (iI.trans ((aQ (aY (by omega) (by omega))).trans ((dD (by omega)).trans ?_))))));exact(gN (bJ (by omega))).trans ((aQ (aY (by omega) (by omega))).trans rfl)
 ·have hi:i<P.length:=by omega
  have hwl:=hp _ (bY hi);have hwb:=hPB _ (bY hi)
  have hnum:∀(word:List Nat) (m:Nat),cI P[i] word m=(match aJ 32 P[i] with
   | w::T=>if w=word/\T.length=m then dQ T else none
   | []=>none):=λword m=>by unfold cI;rw[jdo hwb];try rfl
  have hz:∀v∈aJ 32 P[i],kC fuel v=some (jcb (dZ v)):=λv hv=>by
   have hl1:=(kA 32 P[i]).2 v hv;rw[s6 (by omega) λx hx=>hwb x (oH 32 _ v hv x hx)];rfl
  rw[hnum,hnum];have hG:=get i hi;have hcl:(P[i]).length+1<=4000000000:=by omega
  have hbl:body.length+ (P[i]++[10]).length<=4000000000:=by simp;omega
  have hpc:=t7 hwl;have hcg:=cutG i hi;have hrn:=jH 32 P[i];generalize aJ 32 P[i]=r3 at hz hrn hcg ⊢;rw[<-hG] at hcl hbl hpc ⊢;simp only[tD];refine(cC (by omega)).trans ((aQ (bG (by omega) (by omega))).trans ?_);rw[hcg,aB];refine iI.trans ((aQ (aY (by omega) (by omega))).trans ((dD (by omega)).trans ((iE rfl).trans (iI.trans ((aQ (aY (by omega) (by omega))).trans ((dD (by omega)).trans ((iE (by first | rfl | decide)).trans ?_)))))));by_cases h0:i=0
  ·rw[aH h0];refine(cC (by omega)).trans (iI.trans ?_)
   match r3,hrn with
   | [a,b,c],_=>
     have z1:=hz b (by simp);have z2:=hz c (by simp);refine(dD (λg=>g rfl)).trans ((aQ rfl).trans ?_);by_cases ha:a=bX
     ·refine(dD (λg=>g ha)).trans ((aQ rfl).trans ?_);simp only[ha,cM,gV,xP,cK,dQ];refine(congrArg (λo=>Option.bind o _) z1).trans ((aB ..).trans ?_);cases e1:dZ b with
      | none=>exact(cC (by show(-1:Int)<0;decide)).trans ((gN rfl).trans rfl)
      | some u=>
        refine(dD (by show ¬((u:Int)<0);omega)).trans ((aQ rfl).trans ((congrArg (λo=>Option.bind o _) z2).trans ((aB ..).trans ?_)));cases e2:dZ c with
        | none=>exact(gN (by show decide ((-1:Int)<0)=true;decide)).trans rfl
        | some v=>
          rw[e1] at z1;rw[e2] at z2;refine(iE (lF (by show ¬((v:Int)<0);omega))).trans ((aQ rfl).trans ((congrArg (λo=>Option.bind o _) z1).trans ((aB ..).trans ((aQ rfl).trans ((congrArg (λo=>Option.bind o _) z2).trans ((aB ..).trans ?_))))));exact(cC (by first | trivial | rfl)).trans ((aQ (bG (by omega) (by omega))).trans ((aQ (bJ hcl)).trans ((aQ (bJ hbl)).trans ((aQ (aY (by omega) (by omega))).trans rfl))))
     ·have hN:(if a=bX/\([b,c]:List (List Nat)).length=2 then dQ [b,c] else none)=none:=aC λg=>ha g.1
      exact(cC ha).trans ((gN rfl).trans (by simp only[hN];rfl))
   | [a],_=>exact(cC (by simp)).trans ((gN rfl).trans (by simp;rfl))
   | [a,b],_=>exact(cC (by simp)).trans ((gN rfl).trans (by simp;rfl))
   | a::b::c::d::T,_=>exact(cC (by simp;omega)).trans ((gN rfl).trans (by simp;rfl))
  ·have hi0:¬((i:Int)=0):=by omega
   rw[aC h0];refine(dD hi0).trans (iI.trans ?_);have tailP:∀(X:Option mL),True:=λ_=>trivial
   match r3,hrn with
   | [a,b],_=>
     have z1:=hz b (by simp);refine(cC rfl).trans ((aQ rfl).trans ?_);by_cases ha:a=bF
     ·refine(cC ha).trans ((aQ rfl).trans ((congrArg (λo=>Option.bind o _) z1).trans ((aB ..).trans ?_)));simp only[ha,cM,gV,xP,cK,dQ];cases e1:dZ b with
      | some u=>
        rw[e1] at z1;refine(gN (bJ (by show(0:Int)<=(u:Int);omega))).trans ((aQ (aY (by omega) (by omega))).trans ((aQ rfl).trans ((congrArg (λo=>Option.bind o _) z1).trans ((aB ..).trans ?_))));exact(dD (by omega)).trans ((aQ (aY (by omega) (by omega))).trans rfl)
      | none=>
        refine(iE (by show decide ((0:Int)<= -1)=false;decide)).trans ?_;refine(aQ (bG (by omega) (by omega))).trans ?_;rcases hpc with⟨x,p1,p2⟩ | ⟨p1,r,p2,p3⟩
        ·exact(congrArg (λo=>Option.bind o _) p2).trans ((aB ..).trans ((dD (λg=>g rfl)).trans ((aQ (gC (by omega))).trans ((cC (by first | trivial | rfl)).trans ((aQ (bG (by omega) (by omega))).trans ((aQ (bJ hcl)).trans ((aQ (bJ hbl)).trans ((aQ (aY (by omega) (by omega))).trans (by simp only[p1])))))))))
        ·exact(congrArg (λo=>Option.bind o _) p2).trans ((aB ..).trans ((cC p3).trans ((aQ (aY (by omega) (by omega))).trans (by simp only[p1];rfl))))
     ·have hN:(if a=bF/\([b]:List (List Nat)).length=1 then dQ [b] else none)=none:=aC λg=>ha g.1
      refine(dD ha).trans ((iE rfl).trans ?_);refine(aQ (bG (by omega) (by omega))).trans ?_;rcases hpc with⟨x,p1,p2⟩ | ⟨p1,r,p2,p3⟩
      ·exact(congrArg (λo=>Option.bind o _) p2).trans ((aB ..).trans ((dD (λg=>g rfl)).trans ((aQ (gC (by omega))).trans ((cC (by first | trivial | rfl)).trans ((aQ (bG (by omega) (by omega))).trans ((aQ (bJ hcl)).trans ((aQ (bJ hbl)).trans ((aQ (aY (by omega) (by omega))).trans (by simp only[hN,p1])))))))))
      ·exact(congrArg (λo=>Option.bind o _) p2).trans ((aB ..).trans ((cC p3).trans ((aQ (aY (by omega) (by omega))).trans (by simp only[hN,p1];rfl))))
   | [a],_=>
     have hN:(if a=bF/\([]:List (List Nat)).length=1 then dQ [] else none)=none:=aC λg=>by have:=g.2;simp at this
     refine(dD (by simp)).trans ((iE rfl).trans ?_);refine(aQ (bG (by omega) (by omega))).trans ?_;rcases hpc with⟨x,p1,p2⟩ | ⟨p1,r,p2,p3⟩
     ·exact(congrArg (λo=>Option.bind o _) p2).trans ((aB ..).trans ((dD (λg=>g rfl)).trans ((aQ (gC (by omega))).trans ((cC (by first | trivial | rfl)).trans ((aQ (bG (by omega) (by omega))).trans ((aQ (bJ hcl)).trans ((aQ (bJ hbl)).trans ((aQ (aY (by omega) (by omega))).trans (by simp only[hN,p1])))))))))
     ·exact(congrArg (λo=>Option.bind o _) p2).trans ((aB ..).trans ((cC p3).trans ((aQ (aY (by omega) (by omega))).trans (by simp only[hN,p1];rfl))))
   | a::b::c::T,_=>
     have hN:(if a=bF/\(b::c::T).length=1 then dQ (b::c::T) else none)=none:=aC λg=>by have:=g.2;simp at this
     refine(dD (by simp;omega)).trans ((iE rfl).trans ?_);refine(aQ (bG (by omega) (by omega))).trans ?_;rcases hpc with⟨x,p1,p2⟩ | ⟨p1,r,p2,p3⟩
     ·exact(congrArg (λo=>Option.bind o _) p2).trans ((aB ..).trans ((dD (λg=>g rfl)).trans ((aQ (gC (by omega))).trans ((cC (by first | trivial | rfl)).trans ((aQ (bG (by omega) (by omega))).trans ((aQ (bJ hcl)).trans ((aQ (bJ hbl)).trans ((aQ (aY (by omega) (by omega))).trans (by simp only[hN,p1])))))))))
     ·exact(congrArg (λo=>Option.bind o _) p2).trans ((aB ..).trans ((cC p3).trans ((aQ (aY (by omega) (by omega))).trans (by simp only[hN,p1];rfl))))
theorem tB:∀(P:List (List Nat)) (i:Nat) (sh:Int×Int) (l:List bP) (body:List Nat) (n:Int),bL i sh l body P=.inl n->(i:Int)+1<=n
 | [],i,sh,l,body,n,h=>by rw[bL] at h;cases h;omega
 | [e],i,sh,l,body,n,h=>by rw[bL] at h;cases h;omega
 | w::v::ws,i,sh,l,body,n,h=>by
   rw[bL] at h;split at h
   ·split at h
    ·cases h
    ·cases h;omega
   ·split at h
    ·rename_i h0;split at h
     ·cases h;omega
     ·have:=tB _ _ _ _ _ _ h;omega
    ·split at h
     ·cases h;omega
     ·have:=tB _ _ _ _ _ _ h;omega
theorem y8:∀(P:List (List Nat)) (i:Nat) (sh sh':Int×Int) (l l':List bP) (body body':List Nat) (sum:Int),bL i sh l body P=.inr (sh',(l',(sum,body')))->
  ∃w,cI w bF 1=some [sum]/\body++(fJ P).flatten=body'++(w++[10])
 | [],i,sh,sh',l,l',body,body',sum,h=>by rw[bL] at h;cases h
 | [e],i,sh,sh',l,l',body,body',sum,h=>by rw[bL] at h;cases h
 | w::v::ws,i,sh,sh',l,l',body,body',sum,h=>by
   rw[bL] at h;rw[fJ,kE];split at h
   ·rename_i ns hns;split at h
    ·rename_i hv;have h1:cI w bF 1=some ns:=by
      split at hns
      ·cases hns
      ·exact hns
     have hl:=uJ h1;simp only[v8,bC] at h;obtain⟨_,_,e3,e4⟩:=h
     match ns,hl with
     | [u],_=>
       have e3:u=sum:=e3;subst e3;subst e4;refine⟨w,h1,?_⟩;rw[hv.1,hv.2,fJ,aH rfl];simp
    ·cases h
   ·have step:∀ {j sh2 l2},bL j sh2 l2 (body++(w++[10])) (v::ws)=.inr (sh',(l',(sum,body')))->∃w',cI w' bF 1=some [sum]/\body++(w++[10]++(fJ (v::ws)).flatten)=body'++(w'++[10]):=λhh=>by
     obtain⟨w',h1,h2⟩:=y8 _ _ _ _ _ _ _ _ _ hh;exact⟨w',h1,by rw[<-h2];simp⟩
    split at h
    ·split at h
     ·cases h
     ·exact step h
    ·split at h
     ·cases h
     ·exact step h
theorem z6 {s:List Nat} {sh:Int×Int} {l:List bP} {sum:Int} {body:List Nat} (h:bL 0 (0,0) [] [] (aJ 10 s)=.inr (sh,(l,(sum,body)))):∃w,cI w bF 1=some [sum]/\s=body++(w++[10]):=by
 obtain⟨w,h1,h2⟩:=y8 _ _ _ _ _ _ _ _ _ h;rw[eP,<-uD s.length s (bQ _),jie] at h2;exact⟨w,h1,h2⟩
def fA (u:aR) (c:aP):Bool:=decide (c.1=u.1)&&decide (c.2.1=u.2)
theorem mE {u:aR} {c:aP}:fA u c=true↔(c.1,c.2.1)=u:=by
 simp[fA,qh1]
def aN (out:List aP) (u:aR):Int:=match out.find? (fA u) with
 | some c=>c.2.2
 | none=>0
def bI (c:aP):aR:=(c.1,c.2.1)
abbrev UT:Ty:=.prod (.int .i64) (.int .u8)
abbrev K8:Ty:=.int .u8
theorem jP (a b:aR):UT.eqb a b=true↔a=b:=by
 obtain⟨a1,a2⟩:=a;obtain⟨b1,b2⟩:=b;simp only[Ty.eqb];by_cases h1:a1=b1
 ·simp[h1]
 ·simp[h1]
theorem s5 (u v:aR) (k:Int):∀L:List (aR×Int),fG UT K8 u (lO UT K8 v k L)=if u=v then some k else fG UT K8 u L
 | []=>by
   show(bif UT.eqb u v then some k else none)=_;by_cases h:u=v
   ·rw[aH h,(jP u v).2 h];rfl
   ·rw[aC h];cases hq:UT.eqb u v with
    | true=>exact absurd ((jP u v).1 hq) h
    | false=>rfl
 | a::L=>by
   show fG UT K8 u (bif UT.eqb v a.1 then(v,k)::L else a::lO UT K8 v k L)=if u=v then some k else(bif UT.eqb u a.1 then some a.2 else fG UT K8 u L)
   cases hv:UT.eqb v a.1 with
   | true=>
     have hva:=(jP _ _).1 hv;show(bif UT.eqb u v then some k else fG UT K8 u L)=_;by_cases h:u=v
     ·rw[aH h,(jP u v).2 h];rfl
     ·rw[aC h];cases hq:UT.eqb u v with
      | true=>exact absurd ((jP u v).1 hq) h
      | false=>
        cases hq2:UT.eqb u a.1 with
        | true=>exact absurd (((jP u a.1).1 hq2).trans hva.symm) h
        | false=>rfl
   | false=>
     show(bif UT.eqb u a.1 then some a.2 else fG UT K8 u (lO UT K8 v k L))=_;cases hq2:UT.eqb u a.1 with
     | true=>
       have e:=(jP u a.1).1 hq2;have:u≠v:=λe2=>by
        have h1:=(jP v a.1).2 (e2▸e);rw[hv] at h1;cases h1
       rw[aC this];rfl
     | false=>
       rw[aG,aG,s5 u v k L]
structure OutOK (T:List aI) (out:List aP):Prop where
 nd:(out.map bI).Nodup
 sub:∀c∈out,bI c∈T.map (·.1)
 k1:∀c∈out,1<=c.2.2/\c.2.2<=3
theorem oL {out:List aP} (hn:(out.map bI).Nodup) {c:aP} (hc:c∈out):aN out (bI c)=c.2.2:=by
 unfold aN;cases h:out.find? (fA (bI c)) with
 | none=>exact absurd (mE.2 rfl) (oP.1 h c hc)
 | some d=>
   have h1:=xL h;have h2:=mE.1 (xN h);obtain⟨i,hi,rfl⟩:=fZ hc;obtain⟨j,hj,rfl⟩:=fZ h1;have:=rV hn (i:=i) (j:=j) (by simpa using hi) (by simpa using hj) (by simpa[bI] using h2.symm);subst this;rfl
theorem lB {T:List aI} {out:List aP} (ho:OutOK T out) {u:aR}:aN out u=0↔u∉out.map bI:=by
 unfold aN;cases h:out.find? (fA u) with
 | none=>
   refine⟨λ_ hm=>?_,λ_=>rfl⟩;obtain⟨c,hc,e⟩:=bH.1 hm;exact absurd (mE.2 e) (oP.1 h c hc)
 | some c=>
   have h1:=xL h;have h2:=mE.1 (xN h);have:=ho.k1 c h1;refine⟨λe=>by simp only at e;omega,λhn=>absurd (bH.2 ⟨c,h1,h2⟩) hn⟩
theorem G4 {T:List aI} {out:List aP} (ho:OutOK T out) {v:aR} {k:Int} (hv:aN out v=0) (u:aR):aN (out++[(v.1,(v.2,k))]) u=if u=v then k else aN out u:=by
 have hnot:=(lB ho).1 hv;unfold aN;rw[qhd];by_cases h:u=v
 ·subst h;have:out.find? (fA u)=none:=oP.2 λc hc hq=>hnot (bH.2 ⟨c,hc,mE.1 hq⟩)
  rw[this,aH rfl];simp[fA]
 ·rw[aC h];cases hf:out.find? (fA u) with
  | some c=>rfl
  | none=>
    have:fA u (v.1,(v.2,k))=false:=by
     cases hq:fA u (v.1,(v.2,k)) with
     | false=>rfl
     | true=>exact absurd (mE.1 hq).symm h
    simp[this]
theorem OutOK.add {T:List aI} {out:List aP} (ho:OutOK T out) {v:aR} {k:Int} (hv:aN out v=0) (hT:v∈T.map (·.1)) (hk:1<=k/\k<=3):OutOK T (out++[(v.1,(v.2,k))]):=by
 have hnot:=(lB ho).1 hv;refine⟨?_,λc hc=>?_,λc hc=>?_⟩
 ·rw[eI,sA];refine⟨ho.nd,by simp,λa ha b hb e=>?_⟩;have:b=v:=by simpa[bI] using hb
  subst this;subst e;exact hnot ha
 ·rcases bO.1 hc with hc | hc
  ·exact ho.sub c hc
  ·rw[bW.1 hc];exact hT
 ·rcases bO.1 hc with hc | hc
  ·exact ho.k1 c hc
  ·rw[bW.1 hc];exact hk
theorem OutOK.len {w h:Nat} {T:List aI} (t:Tab w h T) (hw:w<=6) (hh:h<=6) {out:List aP} (ho:OutOK T out):out.length<=1000:=by
 have:=ho.nd.length_le_of_subset (l₂:=T.map (·.1)) (λu hu=>by
  obtain⟨c,hc,rfl⟩:=bH.1 hu;exact ho.sub c hc)
 have:=t.len hw hh;simp only[dM] at *;omega
def eZ (k:Int):List aP->List aR->Option (List aP)
 | out,[]=>some out
 | out,v::us=>if aN out v=0 then eZ k (out++[(v.1,(v.2,k))]) us else none
noncomputable def dT (T:List aI):Int->List aP->List aL->(List aP) ⊕ (Int×Int)
 | _,out,[]=>.inl out
 | i,out,x::l=>if(cU T x).2=0 then(match eZ x.1 out (cU T x).1 with
   | none=>.inr (i,8)
   | some out'=>dT T (i+1) out' l) else .inr (i,(cU T x).2)
theorem C5 {T:List aI} {l:Int×Int} {tq:Int}:∀(n:Nat) (p:Int) (u:List aR),wk T l tq n p=some u->∀v∈u,v∈T.map (·.1)
 | 0,_,_,h=>by cases h
 | n+1,p,u,h=>by
   simp only[wk] at h;split at h
   ·cases h;intro v hv;cases hv
   ·cases hl:dW T l p with
    | none=>rw[hl] at h;cases h
    | some x=>
      rw[hl] at h;simp only at h;split at h
      ·cases h
      ·obtain⟨v,hv,rfl⟩:=eW.1 h;intro a ha;rcases bK.1 ha with rfl | ha
       ·exact bH.2 ⟨x,(jB hl).1,rfl⟩
       ·exact C5 n _ v hv a ha
theorem xU {T:List aI} {x:aL}:∀v∈(cU T x).1,v∈T.map (·.1):=by
 unfold cU;by_cases ho:OrdP x
 ·rw[aH ho];cases hu:eF T x.2.1 x.2.2.2 x.2.2.1 with
  | none=>intro v hv;cases hv
  | some u=>exact C5 _ _ _ hu
 ·rw[aC ho];intro v hv;cases hv
theorem K3 {T:List aI} {x:aL} (h:(cU T x).2=0):1<=x.1/\x.1<=3:=by
 unfold cU at h;by_cases ho:OrdP x
 ·exact⟨ho.k1,ho.k3⟩
 ·rw[aC ho] at h;cases h
theorem tL {T:List aI} {k:Int} (hk:1<=k/\k<=3):∀(us:List aR) (out out':List aP),OutOK T out->(∀v∈us,v∈T.map (·.1))->eZ k out us=some out'->OutOK T out'
 | [],out,out',ho,_,e=>by cases e;exact ho
 | v::us,out,out',ho,hu,e=>by
   simp only[eZ] at e;split at e
   ·rename_i h0;exact tL hk us _ _ (ho.add h0 (hu v (bM ..)) hk) (λa ha=>hu a (bN _ ha)) e
   ·cases e
theorem sQ {T:List aI}:∀(l:List aL) (i:Int) (out out':List aP),OutOK T out->dT T i out l=.inl out'->OutOK T out'
 | [],i,out,out',ho,e=>by cases e;exact ho
 | x::l,i,out,out',ho,e=>by
   simp only[dT] at e;split at e
   ·rename_i h0;cases ha:eZ x.1 out (cU T x).1 with
    | none=>rw[ha] at e;cases e
    | some o2=>
      rw[ha] at e;exact sQ l _ _ _ (tL (K3 h0) _ _ _ ho xU ha) e
   ·cases e
theorem mQ {T:List aI}:OutOK T []:=⟨qgo,(λc hc=>by cases hc),(λc hc=>by cases hc)⟩
def dY (T:List aI) (out:List aP):List aP:=T.filterMap λx=>if aN out x.1=0 then none else some (x.1.1,(x.1.2,aN out x.1))
theorem jbq {T:List aI} {out:List aP} (ho:OutOK T out) (c:aP):c∈dY T out↔c∈out:=by
 unfold dY;rw[rX];constructor
 ·rintro ⟨x,hx,e⟩;split at e
  ·cases e
  ·rename_i h0;have:∃d∈out,bI d=x.1:=by
    have:x.1∈out.map bI:=by
     apply nV;intro hn;exact h0 ((lB ho).2 hn)
    exact bH.1 this
   obtain⟨d,hd,ed⟩:=this;have hk:=oL ho.nd hd;rw[ed] at hk;rw[hk] at e;cases e;rw[<-ed];exact hd
 ·intro hc;obtain⟨x,hx,ex⟩:=bH.1 (ho.sub c hc);refine⟨x,hx,?_⟩;have hk:=oL ho.nd hc;have:=ho.k1 c hc;rw[ex,hk,aC (by omega)];rfl
theorem mK {n:Int} (h:0<=n) (h2:n<=1000):RowKit.wrap64 n=n:=by unfold RowKit.wrap64;omega
theorem rR {w h:Nat} {T:List aI} (t:Tab w h T) (out:List aP):(dY T out).Pairwise λa b=>kG a b<0:=by
 have hp:T.Pairwise λx y=>x∈T/\y∈T/\(x.1.1<y.1.1\/x.1.1=y.1.1/\x.1.2<y.1.2):=by
  have:=sW.1 t.asc;rw[gZ] at this ⊢;intro i j hi hj hij;exact⟨bY _,bY _,this i j hi hj hij⟩
 refine qf4 _ (λx y hxy a ha b hb=>?_) hp;obtain⟨hx,hy,hlt⟩:=hxy;have lx:=t.li hx;have ly:=t.li hy;split at ha<;>simp only[Y9,reduceCtorEq,aS] at ha
 split at hb<;>simp only[Y9,reduceCtorEq,aS] at hb
 subst ha hb;rw[oG];simp only;rw[mK lx.e0 (by have:=lx.e2;omega),mK ly.e0 (by have:=ly.e2;omega)];exact hlt
theorem sK {w h:Nat} {T:List aI} (t:Tab w h T) {out:List aP} (ho:OutOK T out):out.Perm (dY T out):=by
 have n1:out.Nodup:=Y5 _ (λa b h e=>h (by rw[e])) ho.nd;have n2:(dY T out).Nodup:=(rR t out).imp λ{a b} h e=>by subst e;rw[oG] at h;omega
 exact(X7 n1 n2).2 λc=>(jbq ho c).symm
theorem jah {w h:Nat} {T:List aI} (t:Tab w h T) {out:List aP} (ho:OutOK T out):sortC kG out=dY T out:=by
 have hs:=rR t out;have hp:=(tG kG out).trans (sK t ho);refine xR kG (λx hx y hy h1 h2=>?_) (Q8 kG jjl out) (hs.imp λ{a b} h c=>by rw[oG] at *;omega) hp;have hx:=hp.subset hx;have hy:=hp.subset hy;obtain⟨i,hi,rfl⟩:=fZ hx;obtain⟨j,hj,rfl⟩:=fZ hy;rw[gZ] at hs;rcases rA i j with g | g | g
 ·exact absurd (hs i j hi hj g) h1
 ·subst g;rfl
 ·exact absurd (hs j i hj hi g) h2
theorem jio {w h:Nat} {T:List aI} (t:Tab w h T) {out:List aP} (ho:OutOK T out):G9 out=true:=by
 unfold G9;rw[jah t ho];exact X6 (rR t out)
section
variable {w h:Nat} {T:List aI}
theorem jkg (hT:TB T) {l:Int×Int} {tq:Int} {β:Type} (bad:β) (K:List aR->Option β)
  {step:((List aR×Int)->Option β)->(List aR×Int)->Option β}
  (hs:∀rec s,step rec s=bif(decide (s.2≠tq)) then(bif(!(fG KT VT ((l.1,l.2),s.2) (mO T)).isSome) then(some bad) else(bif(decide (tq< ((fG KT VT ((l.1,l.2),s.2) (mO T)).getD ((0,0),0)).2)) then(some bad) else(aA (fS (s.1.length+1)) (rec ((s.1++[(((fG KT VT ((l.1,l.2),s.2) (mO T)).getD ((0,0),0)).1.1,((fG KT VT ((l.1,l.2),s.2) (mO T)).getD ((0,0),0)).1.2)]),((fG KT VT ((l.1,l.2),s.2) (mO T)).getD ((0,0),0)).2))))) else K s.1) (p:Int):
  dF step fuel ([],p)=(match eF T l tq p with
   | none=>some bad
   | some u=>K u):=by
 refine(rU (λs:List aR×Int=>(s.1=[]\/(0<=s.2/\s.2<=24/\s.1.length<=s.2.toNat))) (λs=>mm s.2) (λs=>(match eF T l tq s.2 with
  | none=>some bad
  | some u=>K (s.1++u))) ?_ fuel ([],p) (.inl rfl) (by unfold mm;simp only[fuel];split<;>omega)).trans (by simp)
 rintro ⟨A,p⟩ rec hI hrec;simp only at hI;rw[hs,mZ hT];simp only;by_cases hp:p=tq
 ·simp only[hp,ne_eq,iO,bA,aG,cK];rw[jW]
 ·simp only[hp,ne_eq,jU,aZ,aF,dO];rw[show(l.1,l.2)=l from rfl,jnc];cases hl:dW T l p with
  | none=>rfl
  | some x=>
    obtain⟨h1,h2,h3⟩:=jB hl;obtain⟨b1,b2,b3⟩:=hT x h1;simp only[iF,qg7,fQ,aG,pK];by_cases hq:tq<x.2.2.2
    ·simp only[hq,aZ,aF,cK]
    ·simp only[hq,bA,aG,dO];have hA:A.length<=p.toNat:=by rcases hI with e | ⟨_,_,e⟩<;>(try subst e)<;>(try simp)<;>omega
     rw[gC (by omega)];simp only[aA,aF];rw[hrec (A++[x.1],x.2.2.2) (.inr ⟨by simp only;omega,by simp only;omega,by simp only[dG,dU];omega⟩) (by
      unfold mm;simp only;rw[aH (by omega),aH (by omega)];omega)]
     simp only;cases eF T l tq x.2.2.2 with
     | none=>rfl
     | some u=>simp
theorem K1 {x:aL} (h:¬OrdP x):cU T x=([],1):=by unfold cU;rw[aC h]
theorem K2 {x:aL} (h:OrdP x):cU T x=(match eF T x.2.1 x.2.2.2 x.2.2.1 with
 | none=>([],7)
 | some u=>(u,0)):=by
 unfold cU;rw[aH h];try (cases eF T x.2.1 x.2.2.2 x.2.2.1<;>rfl)
theorem jkf (hT:TB T) {l:Int×Int} {tq p:Int} {u:List aR} (h:eF T l tq p=some u):u.length<=24:=by
 rcases C4 hT _ _ _ h with rfl | ⟨g1,g2,g3⟩
 ·simp
 ·omega
abbrev jN:=Int×(Int×List aP)
noncomputable def iJ (T:List aI) (w h:Nat) (l:List aL):jN×(Int×Int):=match dT T 0 [] l with
 | .inl out=>(((w:Int),((h:Int),dY T out)),(0,0))
 | .inr e=>((0,(0,[])),e)
noncomputable def jC (T:List aI) (w h:Nat) (l:List aL) (i:Nat) (out:List aP):jN×(Int×Int):=match dT T (i:Int) out (l.drop i) with
 | .inl out=>(((w:Int),((h:Int),dY T out)),(0,0))
 | .inr e=>((0,(0,[])),e)
def MapOK (out:List aP) (M:List (aR×Int)):Prop:=∀u,(fG UT K8 u M).getD 0=aN out u
theorem MapOK.add {out:List aP} (ho:OutOK T out) {M:List (aR×Int)} (hM:MapOK out M) {v:aR} {k:Int} (hv:aN out v=0):MapOK (out++[(v.1,(v.2,k))]) (lO UT K8 v k M):=λu=>by
 rw[s5,G4 ho hv];by_cases e:u=v
 ·rw[aH e,aH e];rfl
 ·rw[aC e,aC e,hM u]
theorem kS {α:Type} {l:List α} {i:Nat} (hi:i<l.length):l.drop i=l[i]::l.drop (i+1):=hZ hi
theorem eK {α:Type} {l:List α} {i:Nat} {d:α} (hi:i<l.length):l.getD ((i:Int).toNat) d=l[i]:=by
 rw[cZ,gH,dI hi];rfl
theorem jdv (t:Tab w h T) (hw:1<=w/\w<=6) (hh:1<=h/\h<=6) {l:List aL} (hl:l.length<=1000000):Q7 fuel (((w:Int),(h:Int)),l)=some (iJ T w h l):=by
 have hT:=t.tb hw.2 hh.2;unfold Q7;simp only;rw[mX hw hh,aB];simp only[ne_eq,iO,bA,aG];rw[ji0 t hw hh,aB];refine(rU (λs:List aP×(Int×((Int×(Int×Unit))×List (aR×Int)))=>∃i:Nat,s.2.1=(i:Int)/\i<=l.length/\OutOK T s.1/\MapOK s.1 s.2.2.2) (λs=>l.length-s.2.1.toNat) (λs=>some (jC T w h l s.2.1.toNat s.1)) ?_ fuel _ ⟨0,rfl,eJ _,mQ,λu=>rfl⟩ (by simp only[fuel];omega)).trans rfl;rintro ⟨out,i',vv,M⟩ rec ⟨i,hi',hi,ho,hM⟩ hrec;simp only at hi' ho hM;subst hi';simp only;have hob:=ho.len t hw.2 hh.2;by_cases hlt:(i:Int)< ((l.length:Nat):Int)
 ·have hi2:i<l.length:=by omega
  simp only[hlt,aZ,aF];rw[bG (by omega) hlt];simp only[aA,aF];rw[eK hi2];generalize hx:l[i]=x;rw[show(x.1,((x.2.1.1,x.2.1.2),(x.2.2.1,x.2.2.2)))=x from rfl];obtain⟨b,eb,hb⟩:=H4 x;rw[eb,aB];have hdrop:l.drop i=x::l.drop (i+1):=by rw[kS hi2,hx]
  cases b with
  | false=>
    have hno:¬OrdP x:=λh=>by have:=hb.2 h;cases this
    simp only[xO,aF];unfold jC;rw[cZ,hdrop];simp only[dT];rw[K1 hno];rfl
  | true=>
    have hyes:=hb.1 rfl;simp only[fQ,aG];refine(jkg hT (l:=x.2.1) (tq:=x.2.2.2) (((0,(0,[])),((i:Int),7)):jN×(Int×Int)) (λA=>(aA (cY 0 ((A.length:Nat):Int) A.length&&decide (((A.length:Nat):Int)<=((A.length:Nat):Int))&&decide (((A.length:Nat):Int)<=((A.length:Nat):Int))) (dF (λrec6 (x6:((List (Int×(Int×Int)))×(Int×((Int×(Int×Unit))×(List ((Int×Int)×Int))))))=>bif(decide (x6.2.1< ((A.length:Nat):Int))) then(aA (aU x6.2.1 A.length) (bif(decide (((fG (.prod (.int .i64) (.int .u8)) (.int .u8) ((A.getD (0+x6.2.1.toNat) (0,0)).1,(A.getD (0+x6.2.1.toNat) (0,0)).2) x6.2.2.2).getD 0)≠0)) then(some ((0,(0,[])),((i:Int),8))) else(aA (fS (x6.1.length+1)) (aA (aM (x6.2.1+1)) (rec6 ((x6.1++[((A.getD (0+x6.2.1.toNat) (0,0)).1,((A.getD (0+x6.2.1.toNat) (0,0)).2,x.1))]),((x6.2.1+1),((x6.2.2.1.1,(x6.2.2.1.2.1,())),(lO (.prod (.int .i64) (.int .u8)) (.int .u8) ((A.getD (0+x6.2.1.toNat) (0,0)).1,(A.getD (0+x6.2.1.toNat) (0,0)).2) x.1 x6.2.2.2))))))))) else(aA (aM ((i:Int)+1)) (rec (x6.1,(((i:Int)+1),((x6.2.2.1.1,(x6.2.2.1.2.1,())),x6.2.2.2)))))) fuel (out,(0,((vv.1,(vv.2.1,())),M)))))) (λrec s=>rfl) x.2.2.1).trans ?_;have hU:=K2 (T:=T) hyes;have hW:∀u,eF T x.2.1 x.2.2.2 x.2.2.1=some u->cU T x=(u,0):=λu hu=>by rw[hU,hu]
    cases hu:eF T x.2.1 x.2.2.2 x.2.2.1 with
    | none=>
      rw[hu] at hU;simp only at hU ⊢;unfold jC;rw[cZ,hdrop];simp only[dT];rw[hU];rfl
    | some A=>
      have hUA:=hW A hu;have hA24:=jkf hT hu;have hAm:∀v∈A,v∈T.map (·.1):=by have:=xU (T:=T) (x:=x);rw[hUA] at this;exact this
      simp only;have e1:cY 0 ((A.length:Nat):Int) A.length=true:=dA.2 ⟨by omega,by omega,by omega⟩;simp only[e1,sZ,aZ,lG,aA,aF]
      have hpat:some (jC T w h l i out)=(match eZ x.1 out A with
        | none=>some (((0,(0,[])),((i:Int),8)):jN×(Int×Int))
        | some out'=>some (jC T w h l (i+1) out')):=by
       unfold jC;rw[hdrop];simp only[dT];rw[hUA];simp only[cK];cases eZ x.1 out A with
       | none=>rfl
       | some o=>rw[show((i+1:Nat):Int)=(i:Int)+1 by omega]
      rw[cZ,hpat]
      refine(rU (λs:List aP×(Int×((Int×(Int×Unit))×List (aR×Int)))=>∃j:Nat,s.2.1=(j:Int)/\j<=A.length/\OutOK T s.1/\MapOK s.1 s.2.2.2) (λs=>A.length-s.2.1.toNat) (λs=>(match eZ x.1 s.1 (A.drop s.2.1.toNat) with
       | none=>some (((0,(0,[])),((i:Int),8)):jN×(Int×Int))
       | some out'=>some (jC T w h l (i+1) out'))) ?_ fuel _ ⟨0,rfl,eJ _,ho,hM⟩ (by simp only[fuel];omega)).trans (by simp)
      rintro ⟨o6,j',v6,M6⟩ rec6 ⟨j,hj',hj,ho6,hM6⟩ hrec6;simp only at hj' ho6 hM6;subst hj';simp only;have ho6b:=ho6.len t hw.2 hh.2;by_cases hjl:(j:Int)< ((A.length:Nat):Int)
      ·have hj2:j<A.length:=by omega
       simp only[hjl,aZ,aF];rw[bG (by omega) hjl];simp only[aA,aF];rw[lH,eK hj2,cZ,kS hj2];generalize hv:A[j]=v;have hvT:v∈T.map (·.1):=hAm v (by rw[<-hv];exact bY _);rw[show(v.1,v.2)=v from rfl,hM6 v];simp only[eZ];by_cases h0:aN o6 v=0
       ·simp only[h0,ne_eq,iO,bA,aG,cK];rw[gC (by omega),aY (by omega) (by omega)];simp only[aA,aF];rw[hrec6 _ ⟨j+1,by simp,hj2,ho6.add h0 hvT ⟨hyes.k1,hyes.k3⟩,hM6.add ho6 h0⟩ (by simp only;omega)];simp only;rw[show((j:Int)+1).toNat=j+1 by omega]
       ·simp only[h0,ne_eq,jU,aZ,aF,dO]
      ·have hj2:j=A.length:=by omega
       subst hj2;simp only[hjl,bA,aG];rw[aY (by omega) (by omega)];simp only[aA,aF];rw[cZ,kM];simp only[eZ];rw[hrec _ ⟨i+1,by simp,hi2,ho6,hM6⟩ (by simp only;omega)];simp only;rw[show((i:Int)+1).toNat=i+1 by omega]
 ·have hi2:i=l.length:=by omega
  subst hi2;simp only[hlt,bA,aG];unfold jfp jC;simp only;rw[show(List.length (α:=aP) out).ble 1000000=true by rw[bB];exact bJ (by omega),jio t ho,jah t ho];simp only[lG,aF,iF,aB];have e1:cY 0 (((dY T out).length:Nat):Int) (dY T out).length=true:=dA.2 ⟨by omega,by omega,by omega⟩;simp only[e1,sZ,aZ,lG,aA,aF,iY,lM,gW];rw[cZ,kM];simp only[dT]
end
def eE:List aR->List Int->List aP
 | u::U,k::A=>if k=0 then eE U A else(u.1,(u.2,k))::eE U A
 | _,_=>[]
section
variable {w h:Nat} {T:List aI}
theorem L5 (t:Tab w h T) (hw:1<=w/\w<=6) (hh:1<=h/\h<=6) {A:List Int} (hA:A.length<=1000000):uV fuel (((w:Int),(h:Int)),A)=some ((w:Int),((h:Int),eE (T.map (·.1)) A)):=by
 have hlen:=t.len hw.2 hh.2;unfold uV;simp only;rw[t.un,aB];have hUl:(T.map (·.1)).length<=1000:=by simpa using hlen
 generalize T.map (·.1)=U at hUl;refine(rU (λs:Int×(Int×(Int×List aP))=>∃i:Nat,s.1=(i:Int)/\i<=U.length/\s.2.2.2.length<=i/\s.2.1=(w:Int)/\s.2.2.1=(h:Int)) (λs=>U.length-s.1.toNat) (λs=>some ((w:Int),((h:Int),s.2.2.2++eE (U.drop s.1.toNat) (A.drop s.1.toNat)))) ?_ fuel _ ⟨0,rfl,eJ _,bQ _,rfl,rfl⟩ (by simp only[fuel];omega)).trans (by simp);rintro ⟨i',w',h',acc⟩ rec ⟨i,hi',hi,hacc,hw',hh'⟩ hrec;simp only at hi' hacc hw' hh';subst hi' hw' hh';simp only;by_cases hlt:(i:Int)< ((U.length:Nat):Int)
 rotate_left
 ·have:i=U.length:=by omega
  subst this;simp only[hlt,bA,aG];rw[cZ,kM];simp[eE]
 have hi2:i<U.length:=by omega
 simp only[hlt,aZ,aF];by_cases hla:(i:Int)< ((A.length:Nat):Int)
 rotate_left
 ·simp only[hla,bA,aG];rw[cZ,show A.drop i=[] from Y3 (by omega)];cases U.drop i<;>simp[eE]
 have hi3:i<A.length:=by omega
 simp only[hla,aZ,aF];rw[bG (by omega) hla,bG (by omega) hlt];simp only[aA,aF];rw[eK hi3,eK hi2,cZ,kS hi2,kS hi3];simp only[eE];by_cases h0:A[i]=0
 ·simp only[h0,ne_eq,iO,bA,aG,cK];rw[aY (by omega) (by omega)];simp only[aF];rw[hrec _ ⟨i+1,by simp,hi2,by simp only;omega,rfl,rfl⟩ (by simp only;omega)];simp only;rw[show((i:Int)+1).toNat=i+1 by omega]
 ·simp only[h0,ne_eq,jU,aZ,aF,dO];rw[gC (by omega),aY (by omega) (by omega)];simp only[aF];rw[hrec _ ⟨i+1,by simp,hi2,by simp only[dG,dU];omega,rfl,rfl⟩ (by simp only;omega)];simp only;rw[show((i:Int)+1).toNat=i+1 by omega,dL];rfl
theorem C2 (f:aR->Int):∀T:List aI,eE (T.map (·.1)) (T.map λx=>f x.1)=T.filterMap λx=>if f x.1=0 then none else some (x.1.1,(x.1.2,f x.1))
 | []=>rfl
 | x::T=>by
   simp only[dE,eE,uS];rw[C2 f T];by_cases h:f x.1=0
   ·simp[h]
   ·simp[h]
theorem ji5 (t:Tab w h T) (hw:1<=w/\w<=6) (hh:1<=h/\h<=6) {j:Nat} (hj:j<T.length):Z6 fuel (((w:Int),(h:Int)),T[j].1)=some (j:Int):=by
 have hlen:=t.len hw.2 hh.2;have hx:=bY hj;have li:=t.li hx;have l1:=li.u0;have l2:=li.u1;have l3:=li.e0;have l4:=li.e2
 have hrn:=cJ.1 t.rn _ hx;unfold jov at hrn;have hwh:4* (w:Int)*h<=4*6*6:=by
  have:w*h<=6*6:=iK hw.2 hh.2;have e:(4* (w:Int)*h)=4* ((w*h:Nat):Int):=by rw[pM,wI]
  omega
 unfold Z6;simp only;have n1:¬(T[j].1.1<0):=by omega
 have n2:¬(4* (w:Int)*h<=T[j].1.1):=by omega
 have n3:¬(T[j].1.2<0):=by omega
 have n4:¬((2:Int)<T[j].1.2):=by omega
 have hw2:(0:Int)<=4* (w:Int)*h:=by omega
 simp only[n1,bA,aG];rw[aY (by omega) (by omega),aY (by omega) (by omega)];simp only[aA,aF,n2,n3,n4,bA,aG];split at hrn<;>try (cases hrn;done)
 rename_i n hn;rw[hn,aB,t.un,aB];have hgt:T[j].1.1<n:=by simpa using hrn
 apply Ret.eq;refine dK (λi:Int=>0<=i/\i<=j) (λi=>j+1-i.toNat) ?_ fuel 0 ⟨by omega,by omega⟩ (by simp only[fuel];omega);rintro i' rec ⟨i0,i1⟩ hrec;obtain⟨i,rfl⟩:∃i:Nat,i'=(i:Int):=⟨i'.toNat,by omega⟩
 have hi:i<T.length:=by omega
 have hg:(T.map (·.1)).getD ((i:Int).toNat) (0,0)=T[i].1:=by
  rw[cZ,gH,lZ,dI hi];rfl
 rw[hg];have hin:aU (i:Int) (T.map (·.1)).length=true:=bG (by omega) (by rw[dM];omega);refine aD (λ_=>?_) λg=>absurd (show(i:Int)< (((T.map (·.1)).length:Nat):Int) by rw[dM];omega) g
 refine aD (λ_=>aK hin ?_) λg=>absurd (show(0:Int)<=n by omega) g
 have hmin:min T[j].1.1 n=T[j].1.1:=by omega
 rw[hmin];have next:T[i].1≠T[j].1->Ret (aA (aM ((i:Int)+1)) (rec ((i:Int)+1))) λx=>x=(j:Int):=λhne=>by
  have:i≠j:=λe=>by subst e;exact hne rfl
  exact aV (hrec _ ⟨by omega,by omega⟩ (by omega))
 have lii:=t.li (bY hi);have:=lii.e0;have:=lii.e2
 refine aD (λg1=>aK hin (aV (aD (λg2=>aW ?_) λg2=>next λe=>g2 (by rw[e])))) λg1=>next λe=>g1 (by rw[e])
 have:=t.unitInj (bY hi) hx (jJ g1 g2);have hij:i=j:=by
  have hnd:=t.ndU;exact rV hnd (i:=i) (j:=j) (by simpa using hi) (by simpa using hj) (by simp[this])
 rw[hij]
theorem ji4 (t:Tab w h T) (hw:1<=w/\w<=6) (hh:1<=h/\h<=6) {l:List aL} (hl:l.length<=1000000):zF fuel (((w:Int),(h:Int)),l)=some (iJ T w h l):=by
 have hT:=t.tb hw.2 hh.2;have hlen:=t.len hw.2 hh.2;unfold zF;simp only;rw[t.un,aB];have hUl:(T.map (·.1)).length=T.length:=by simp
 have e1:(decide (0<=(((T.map (·.1)).length:Nat):Int))&&decide ((((T.map (·.1)).length:Nat):Int)<=(((T.map (·.1)).length:Nat):Int))&&decide ((((T.map (·.1)).length:Nat):Int)<=1000000))=true:=by
  rw[hUl];simp only[aT,aO];omega
 apply Ret.eq;refine aK e1 ?_;refine dK (λs:Int×((Int×(Int×Unit))×(List Int×Option Nat))=>∃(i:Nat) (out:List aP),s.1=(i:Int)/\i<=l.length/\OutOK T out/\s.2.2.1=(T.map λx=>aN out x.1)/\jC T w h l i out=iJ T w h l) (λs=>l.length-s.1.toNat) ?_ fuel _ ⟨0,[],rfl,eJ _,mQ,?_,rfl⟩ (by simp only[fuel];omega)
 rotate_left
 ·simp only[dM];clear e1 hT hlen hUl t;induction T with
  | nil=>rfl
  | cons x T ih=>simp only[cM,qfg,dE,ih];rfl
 rintro ⟨i',vv,A,cp⟩ rec ⟨i,out,hi',hi,ho,hA,hF⟩ hrec;simp only at hi' hA;subst hi' hA;simp only;refine aD (λhlt=>?_) λhge=>?_
 ·have hi2:i<l.length:=by omega
  refine aK (bG (by omega) hlt) ?_;rw[eK hi2];generalize hx:l[i]=x;rw[show(x.1,((x.2.1.1,x.2.1.2),(x.2.2.1,x.2.2.2)))=x from rfl,ji6 t hw hh,aB];have hdrop:l.drop i=x::l.drop (i+1):=by rw[kS hi2,hx]
  have hF':(match dT T (i:Int) out (l.drop i) with
   | .inl out=>((((w:Int),((h:Int),dY T out)),(0,0)):jN×(Int×Int))
   | .inr e=>((0,(0,[])),e))=iJ T w h l:=hF
  rw[hdrop] at hF';simp only[dT] at hF';refine aD (λhne=>?_) λh0=>?_
  ·rw[aC hne] at hF';exact aW hF'
  ·have h0:(cU T x).2=0:=by simpa using h0
   rw[aH h0] at hF';have hk:=K3 h0;have hm:=xU (T:=T) (x:=x);have hle:=jkc hT x;generalize (cU T x).1=us at hF' hm hle
   refine dK (λs:Int×((Int×(Int×Unit))×(List Int×Option Nat))=>∃(j:Nat) (o6:List aP),s.1=(j:Int)/\j<=us.length/\OutOK T o6/\s.2.2.1=(T.map λx=>aN o6 x.1)/\(match eZ x.1 o6 (us.drop j) with
    | none=>(((0,(0,[])),((i:Int),8)):jN×(Int×Int))
    | some out'=>jC T w h l (i+1) out')=iJ T w h l) (λs=>us.length-s.1.toNat) ?_ fuel _ ⟨0,out,rfl,eJ _,ho,rfl,?_⟩ (by simp only[fuel];omega)
   rotate_left
   ·rw[fY,<-hF'];cases eZ x.1 out us with
    | none=>rfl
    | some o=>
      simp only;unfold jC;rw[show((i+1:Nat):Int)=(i:Int)+1 by omega];try (cases dT T ((i:Int)+1) o (l.drop (i+1))<;>rfl)
   rintro ⟨j',v6,A6,c6⟩ rec6 ⟨j,o6,hj',hj,ho6,hA6,hF6⟩ hrec6;simp only at hj' hA6;subst hj' hA6;simp only;refine aD (λhjl=>?_) λhjg=>?_
   ·have hj2:j<us.length:=by omega
    have hin:aU (j:Int) us.length=true:=bG (by omega) hjl;rw[kS hj2] at hF6;rw[eK hj2];obtain⟨y,hy,ey⟩:=bH.1 (hm us[j] (bY hj2));obtain⟨q,hq,rfl⟩:=fZ hy;have ey:T[q].1=us[j]:=ey;generalize us[j]=v at hF6 ey ⊢;subst ey;have liq:=t.li hy;have:=liq.e0;have:=liq.e2
    simp only[eZ] at hF6;refine aK hin (aK hin (aV ?_));rw[show((T[q].1.1,T[q].1.2):Int×Int)=T[q].1 from rfl,ji5 t hw hh hq,aB];have hqi:aU (q:Int) (T.map λx=>aN o6 x.1).length=true:=bG (by omega) (by rw[dM];omega);have hgq:(T.map λx=>aN o6 x.1).getD ((q:Int).toNat) 0=aN o6 T[q].1:=by
     rw[cZ,gH,lZ,dI hq];rfl
    refine aK hqi ?_;rw[hgq];refine aD (λhne=>?_) λh00=>?_
    ·rw[aC hne] at hF6;exact aW hF6
    ·have h00:aN o6 T[q].1=0:=by simpa using h00
     rw[aH h00] at hF6;refine aK (bG (by omega) hlt) (aK hqi (aV (hrec6 _ ⟨j+1,o6++[(T[q].1.1,(T[q].1.2,x.1))],by simp,hj2,ho6.add h00 (bH.2 ⟨_,hy,rfl⟩) hk,?_,hF6⟩ (by simp only;omega))));simp only;rw[cZ];refine X9 (by simp) λp hp1 hp2=>?_
     rw[qik];simp only[Y0];have hp:p<T.length:=by simpa using hp2
     have ek:=G4 ho6 (v:=T[q].1) (k:=x.1) h00 T[p].1;refine Eq.trans ?_ ek.symm;by_cases e:q=p
     ·subst e;rw[aH rfl,aH rfl]
     ·rw[aC e,aC];intro e2;have:=t.unitInj (bY hp) hy e2;exact e (rV t.ndU (i:=q) (j:=p) (by simpa using hq) (by simpa using hp) (by simp[this]))
   ·have hj2:j=us.length:=by omega
    subst hj2;rw[kM] at hF6;exact aV (hrec _ ⟨i+1,o6,by simp,hi2,ho6,rfl,hF6⟩ (by simp only;omega))
 ·have hi2:i=l.length:=by omega
  subst hi2;rw[L5 t hw hh (by simp;omega),aB];refine aW ?_;rw[<-hF];unfold jC;rw[kM];simp only[dT];have:=C2 (aN out) T;rw[this];rfl
end
end X
end Go.Vm
namespace Go.Vm
namespace X
open W Go.RowKit
section
variable {w h:Nat} {T:List aI}
theorem jb5 (T:List aI) (l:Int×Int) (p:Int):dW (T.filter λx=>decide (x.2.1.1=l.1)&&decide (x.2.1.2=l.2)) l p=dW T l p:=by
 unfold dW;rw[qhe]
 congr 1
 funext x
 unfold vZ;cases decide (x.2.1.1=l.1)<;>cases decide (x.2.1.2=l.2)<;>simp
def iT (T:List aI) (l:Int×Int):Nat->Option aI:=λp=>dW T l (p:Int)
theorem jb1 (T:List aI) (n:Nat) (l:Int×Int):N7 T n l=(List.range n).filterMap (iT T l):=by
 unfold N7
 congr 1
 funext p
 exact jb5 T l p
def kT (T:List aI) (w h:Nat) (k c:Nat):List aI:=(List.range (2* (w+h)+1)).filterMap (iT T ((k:Int)+1,(c:Int)-(w:Int)))
def jQ (T:List aI) (w h:Nat) (k:Nat):List aI:=(List.range (w+ (w+h)+1)).flatMap (kT T w h k)
theorem vN (T:List aI) (w h:Nat):fH T w h=(List.range 4).flatMap (jQ T w h):=by
 unfold fH jQ kT;simp only[jb1]
theorem zX {l:Int×Int} {p:Nat} {x:aI} (e:iT T l p=some x):x∈T/\x.2.1=l/\x.2.2.1=p:=jB e
theorem q9 {k c:Nat} {x:aI} (e:x∈kT T w h k c):x∈T/\x.2.1=((k:Int)+1,(c:Int)-(w:Int)):=by
 obtain⟨p,_,hp⟩:=rX.1 e;exact⟨(zX hp).1,(zX hp).2.1⟩
theorem o7 {k:Nat} {x:aI} (e:x∈jQ T w h k):x∈T/\x.2.1.1=(k:Int)+1:=by
 obtain⟨c,_,hc⟩:=kL.1 e;have:=q9 hc;exact⟨this.1,by rw[this.2]⟩
theorem oB (t:Tab w h T) {x:aI}:x∈fH T w h↔x∈T:=by
 rw[vN];constructor
 ·intro e;obtain⟨k,_,hk⟩:=kL.1 e;exact(o7 hk).1
 ·intro hx;have li:=t.li hx;have a1:=li.k1;have a2:=li.k4;have a3:=li.c0;have a4:=li.c1;have a5:=li.f0;have a6:=li.ft;have a7:=li.t1
  refine kL.2 ⟨(x.2.1.1-1).toNat,fN.2 (by omega),kL.2 ⟨(x.2.1.2+w).toNat,fN.2 (by omega),rX.2 ⟨x.2.2.1.toNat,fN.2 (by omega),?_⟩⟩⟩;unfold iT;have e1:(((x.2.1.1-1).toNat:Nat):Int)+1=x.2.1.1:=by omega
  have e2:(((x.2.1.2+w).toNat:Nat):Int)-(w:Int)=x.2.1.2:=by omega
  have e3:((x.2.2.1.toNat:Nat):Int)=x.2.2.1:=by omega
  rw[e1,e2,e3];exact V3 t.key hx
def gL (p q:(Int×Int)×(Int×Int)):Prop:=p.1.1<q.1.1\/p.1.1=q.1.1/\(p.1.2<q.1.2\/p.1.2=q.1.2/\p.2.2<=q.2.1)
theorem zV {α:Type} {r:α->α->Bool} {P:α->Prop} (tr:∀x y z,P y->r x y=true->r y z=true->r x z=true):∀ {l:List α},(∀x∈l,P x)->iS r l=true->l.Pairwise λx y=>r x y=true
 | [],_,_=>List.Pairwise.nil
 | x::l,hP,h=>by
   simp only[iS,aT] at h;have ih:=zV tr (λy hy=>hP y (bN _ hy)) h.2;refine jY.2 ⟨λy hy=>?_,ih⟩;cases l with
   | nil=>cases hy
   | cons z l=>
     rcases bK.1 hy with e | hy
     ·rw[e];exact h.1
     ·exact tr _ _ _ (hP z (bN _ bM)) h.1 ((jY.1 ih).1 y hy)
theorem C1 (t:Tab w h T):(fH T w h).Pairwise λx y=>gL x.2 y.2:=by
 refine(zV (P:=λx=>x.2.2.1<x.2.2.2) (λx y z hy h1 h2=>?_) (λx hx=>(t.li ((oB t).1 hx)).ft) t.wk).imp λh=>s7.1 h
 rw[s7] at *;unfold Nx at *;omega
theorem jdm (t:Tab w h T):(fH T w h).Nodup:=by
 have hp:=C1 t;have:(fH T w h).Pairwise λx y=>x∈fH T w h/\gL x.2 y.2:=by
  rw[gZ] at hp ⊢;exact λi j hi hj hij=>⟨bY _,hp i j hi hj hij⟩
 refine this.imp λ{a b} ⟨hm,h⟩ e=>?_
 subst e;have:=(t.li ((oB t).1 hm)).ft;unfold gL at h;omega
theorem vO (t:Tab w h T):(fH T w h).Perm T:=by
 have n2:T.Nodup:=Y5 _ (λa b h e=>h (by rw[e])) t.ndU;exact(X7 (jdm t) n2).2 λc=>oB t
end
def eM (c e:aL):Prop:=c.1=e.1/\c.2.1=e.2.1/\c.2.2.2=e.2.2.1
instance (c e:aL):Decidable (eM c e):=by unfold eM;exact inferInstance
def stepG (s:List aL×Option aL) (e:aL):List aL×Option aL:=
 match s.2 with
 | none=>(s.1,if e.1≠0 then some e else none)
 | some c=>if e.1≠0/\eM c e then(s.1,some (c.1,(c.2.1,(c.2.2.1,e.2.2.2)))) else(s.1++[c],if e.1≠0 then some e else none)
def bU:List aL×Option aL->List aL->List aL
 | s,[]=>s.1++s.2.toList
 | s,e::l=>bU (stepG s e) l
theorem uZ {out:List aL} {c:aL}:∀ {l:List aL},(∀e,l.head?=some e->¬eM c e)->bU (out,some c) l=bU (out++[c],none) l
 | [],_=>by simp[bU]
 | e::l,h=>by
   have:=h e rfl;simp only[bU,stepG,this,and_false,dO]
theorem qH:∀(l:List aL) (out:List aL) (cur:Option aL),(∀e∈l,e.2.2.1<e.2.2.2)->l.Pairwise (λx y=>gL x.2 y.2)->(∀c,cur=some c->∀e∈l,gL c.2 e.2)->
  bU (out,cur) l=bU (out,cur) (l.filter λe=>decide (e.1≠0))
 | [],_,_,_,_,_=>rfl
 | e::l,out,cur,hf,hp,hc=>by
   obtain⟨hp1,hp2⟩:=jY.1 hp;have hf2:∀e∈l,e.2.2.1<e.2.2.2:=λx hx=>hf x (bN _ hx)
   have fe:=hf e bM;by_cases h0:e.1=0
   ·rw[qf5 (by simp[h0])];cases cur with
    | none=>
      have es:stepG (out,none) e=(out,none):=by simp[stepG,h0]
      rw[bU,es];exact qH l out none hf2 hp2 (λc h=>by cases h)
    | some c=>
      have es:stepG (out,some c) e=(out++[c],none):=by simp[stepG,h0]
      rw[bU,es,qH l _ none hf2 hp2 (λc h=>by cases h)];refine(uZ λv hv=>?_).symm;have hm:=Y4 (by rw[hv];rfl:v∈(l.filter λe=>decide (e.1≠0)).head?);have hm:=(kN.1 hm).1;rintro ⟨g1,g2,g3⟩;have n1:=hc c rfl e bM;have n2:=hp1 v hm;have e1:c.2.1.1=v.2.1.1:=by rw[g2]
      have e2:c.2.1.2=v.2.1.2:=by rw[g2]
      unfold gL at n1 n2;omega
   ·rw[qf6 (by simp[h0])];simp only[bU];rcases hs:stepG (out,cur) e with⟨o2,c2⟩
    refine qH l o2 c2 hf2 hp2 λd hd v hv=>?_
    have n2:=hp1 v hv;have:d.2.1=e.2.1/\d.2.2.2=e.2.2.2:=by
     unfold stepG at hs;cases cur with
     | none=>
       simp only[ne_eq,h0,jU,cK,bC] at hs;rw[hd] at hs;cases hs.2;exact⟨rfl,rfl⟩
     | some c=>
       simp only[ne_eq,h0,jU,cK,true_and] at hs;split at hs
       ·rename_i g;simp only[bC] at hs;rw[hd] at hs;cases hs.2;exact⟨g.2.1,rfl⟩
       ·simp only[bC] at hs;rw[hd] at hs;cases hs.2;exact⟨rfl,rfl⟩
    have e1:d.2.1.1=e.2.1.1:=by rw[this.1]
    have e2:d.2.1.2=e.2.1.2:=by rw[this.1]
    unfold gL at n2 ⊢;omega
def kW (K:aR->Int) (l:List aI):List aL:=l.map λx=>(K x.1,x.2)
def cG (T:List aI) (w h:Nat) (K:aR->Int):List aL:=bU ([],none) (kW K (fH T w h))
theorem jcp {a:jN} (ha:a.2.2.length<=1000000) (u:aR):I9 fuel (a,u)=some (aN a.2.2 u):=by
 apply Ret.eq;unfold I9;refine dK (λi:Int=>0<=i/\i<=a.2.2.length/\∀c∈a.2.2.take i.toNat,fA u c=false) (λi=>a.2.2.length-i.toNat) ?_ fuel 0 ⟨by omega,by omega,by simp⟩ (by simp only[fuel];omega);rintro i' rec ⟨i0,i1,hno⟩ hrec;obtain⟨i,rfl⟩:∃i:Nat,i'=(i:Int):=⟨i'.toNat,by omega⟩
 rw[cZ] at hno;refine aD (λhlt=>?_) λhge=>?_
 ·have hlt:(i:Int)< (a.2.2.length:Int):=hlt;have hi:i<a.2.2.length:=by omega
  have hin:=bG i0 hlt;rw[eK hi];have nx:fA u a.2.2[i]=false->Ret (aA (aM ((i:Int)+1)) (rec ((i:Int)+1))) λx=>x=aN a.2.2 u:=λhu=>by
   refine aV (hrec _ ⟨by omega,by omega,?_⟩ (by omega));rw[show((i:Int)+1).toNat=i+1 by omega,tH _ _ hi];intro c hc;rcases bO.1 hc with hc | hc
   ·exact hno c hc
   ·rw[bW.1 hc];exact hu
  refine aK hin (aD (λg1=>aK hin (aD (λg2=>aK hin (aW ?_)) λg2=>nx (by simp only[fA];simp[g2]))) λg1=>nx (by simp only[fA];simp[g1]));unfold aN;rw[jhd hi hno (by simp only[fA];simp[g1,g2])]
 ·refine aW ?_;have hge:¬(i:Int)< (a.2.2.length:Int):=hge;rw[jD (by omega)] at hno;unfold aN;rw[oP.2 λc hc hq=>by rw[hno c hc] at hq;cases hq]
def enc:Option aL->Int×(Int×(Int×(Int×Int)))
 | none=>(0,(0,(0,(0,0))))
 | some c=>(c.1,(c.2.1.1,(c.2.1.2,(c.2.2.1,c.2.2.2))))
theorem vH {out:List aL} {c e:aL} (h0:e.1≠0) (hg:eM c e):stepG (out,some c) e=(out,some (c.1,(c.2.1,(c.2.2.1,e.2.2.2)))):=by simp only[stepG];rw[aH ⟨h0,hg⟩]
theorem B3 {out:List aL} {c e:aL} (h0:e.1≠0) (hg:¬eM c e):stepG (out,some c) e=(out++[c],some e):=by simp only[stepG];rw[aC λh=>hg h.2,aH h0]
theorem jc3 {out:List aL} {c e:aL} (h0:e.1=0):stepG (out,some c) e=(out++[c],none):=by simp only[stepG];rw[aC λh=>h.1 h0,aC λh=>h h0]
theorem qO {out:List aL} {e:aL} (h0:e.1≠0):stepG (out,none) e=(out,some e):=by simp only[stepG];rw[aH h0]
theorem jc2 {out:List aL} {e:aL} (h0:e.1=0):stepG (out,none) e=(out,none):=by simp only[stepG];rw[aC λh=>h h0]
theorem uU {n i:Nat} (h:i<n):(List.range n).drop i=i::(List.range n).drop (i+1):=by
 rw[kS (by simpa using h),sS]
section
variable {w h:Nat} {T:List aI}
theorem J2 (t:Tab w h T) (hw:1<=w/\w<=6) (hh:1<=h/\h<=6) {cr:List aP} (hcr:cr.length<=1000000):
  uW fuel ((w:Int),((h:Int),cr))=some (cG T w h (aN cr)):=by
 have hlen:=t.len hw.2 hh.2;have hwl:(fH T w h).length<=1000:=by rw[(vO t).length_eq];exact hlen
 apply Ret.eq;unfold uW;rw[t.all,aB];have hX0:bU ([],none) (kW (aN cr) (((List.range 4).drop 0).flatMap (jQ T w h)))=cG T w h (aN cr):=by
  rw[fY,<-vN];rfl
 have hL0:(((List.range 4).drop 0).flatMap (jQ T w h)).length<=1000:=by
  rw[fY,<-vN];exact hwl
 generalize cG T w h (aN cr)=X at hX0 ⊢;generalize hK:aN cr=K at hX0;refine dK (λs:List aL×Int=>∃i:Nat,s.2=(i:Int)+1/\i<=4/\bU (s.1,none) (kW K (((List.range 4).drop i).flatMap (jQ T w h)))=X/\s.1.length+ (((List.range 4).drop i).flatMap (jQ T w h)).length<=1000) (λs=>5-s.2.toNat) ?_ fuel ([],1) ⟨0,rfl,by omega,hX0,by simpa using hL0⟩ (by simp only[fuel];omega);clear hX0 hL0;rintro ⟨out,k'⟩ rec ⟨i,hk,hi4,hX,hL⟩ hrec;simp only at hk hX hL;subst hk;refine aD (λhk4=>?_) λhk4=>?_
 rotate_left
 ·have:i=4:=by simp only at hk4;omega
  subst this;refine aW ?_;rw[<-hX,show(List.range 4).drop 4=[] from rfl];simp[bU,kW]
 have hi:i<4:=by simp only at hk4;omega
 rw[uU hi,jV] at hX hL;generalize hRk:((List.range 4).drop (i+1)).flatMap (jQ T w h)=Rk at hX hL;have hRkl:∀e∈Rk,e.2.1.1≠(i:Int)+1:=by
  intro e he;rw[<-hRk] at he;obtain⟨k,hk,he⟩:=kL.1 he;have:=(o7 he).2;obtain⟨q,hq,e2⟩:=fZ hk;rw[sV,sS] at e2;omega
 refine aV ?_;refine dK (λs:List aL×Int=>∃j:Nat,s.2=(j:Int)-(w:Int)/\j<=w+ (w+h)+1/\bU (s.1,none) (kW K (((List.range (w+ (w+h)+1)).drop j).flatMap (kT T w h i)++Rk))=X/\s.1.length+ (((List.range (w+ (w+h)+1)).drop j).flatMap (kT T w h i)++Rk).length<=1000) (λs=>w+ (w+h)+1-(s.2+w).toNat) ?_ fuel (out, -(w:Int)) ⟨0,by simp,by omega,by rw[fY];exact hX,by rw[fY];exact hL⟩ (by simp only[fuel];omega);clear hX hL;rintro ⟨out,c'⟩ rec3 ⟨j,hc,hjm,hX,hL⟩ hrec3;simp only at hc hX hL;subst hc;have hz1:aM ((w:Int)+ (h:Int))=true:=aY (by omega) (by omega);have hz2:aM (2* ((w:Int)+ (h:Int)))=true:=aY (by omega) (by omega);refine aK hz1 (aD (λhjc=>?_) λhjc=>?_)
 rotate_left
 ·have:j=w+ (w+h)+1:=by simp only at hjc;omega
  subst this;have ed:(List.range (w+ (w+h)+1)).drop (w+ (w+h)+1)=[]:=mF (by simp);rw[ed,qhk,eP] at hX hL;have e1:IntKind.u8.wrap ((i:Int)+1+1)=((i+1:Nat):Int)+1:=by
   have:i=0\/i=1\/i=2\/i=3:=by omega
   rcases this with rfl | rfl | rfl | rfl<;>rfl
  simp only;rw[e1];exact hrec _ ⟨i+1,rfl,by omega,by rw[hRk];exact hX,by rw[hRk];exact hL⟩ (by simp only;omega)
 have hj:j<w+ (w+h)+1:=by simp only at hjc;omega
 rw[uU hj,jV,dL] at hX hL;generalize hRc:((List.range (w+ (w+h)+1)).drop (j+1)).flatMap (kT T w h i)++Rk=Rc at hX hL;have hRcl:∀e∈Rc,e.2.1≠((i:Int)+1,(j:Int)-(w:Int)):=by
  intro e he e0;rw[<-hRc] at he;rcases bO.1 he with he | he
  ·obtain⟨k,hk,he⟩:=kL.1 he;have:=(q9 he).2;obtain⟨q,hq,e2⟩:=fZ hk;rw[sV,sS] at e2;rw[e0] at this;have:=congrArg Prod.snd this;simp only at this;omega
  ·exact hRkl e he (by rw[e0])
 have hl:kT T w h i j=(List.range (2* (w+h)+1)).filterMap (iT T ((i:Int)+1,(j:Int)-(w:Int))):=rfl;rw[hl] at hX hL;generalize hN:2* (w+h)+1=N at hX hL;generalize hline:((i:Int)+1,(j:Int)-(w:Int))=l at hX hL hRcl;refine dK (λs:List aL×(Int×(Int×(Int×(Int×(Int×Int)))))=>∃(p:Nat) (cur:Option aL),s.2.1=(p:Int)/\p<=N/\s.2.2=enc cur/\(∀c,cur=some c->c.1≠0/\c.2.1=l)/\bU (s.1,cur) (kW K (((List.range N).drop p).filterMap (iT T l)++Rc))=X/\s.1.length+cur.toList.length+ (((List.range N).drop p).filterMap (iT T l)++Rc).length<=1000) (λs=>N-s.2.1.toNat) ?_ fuel _ ⟨0,none,rfl,by omega,rfl,(λc h=>by cases h),by rw[fY];exact hX,by rw[fY];simpa using hL⟩ (by simp only[fuel];omega);clear hX hL;rintro ⟨out,p',x⟩ rec4 ⟨p,cur,hp,hpN,hx,hcur,hX,hL⟩ hrec4;simp only at hp hx hX hL;subst hp hx;refine aK hz1 (aK hz2 (aD (λhat=>?_) λhat=>?_))
 rotate_left
 ·have:p=N:=by simp only at hat;omega
  subst this;have ed:(List.range p).drop p=[]:=mF (by simp);rw[ed,qg3,eP] at hX hL;have nx:∀out2:List aL,bU (out2,none) (kW K Rc)=X->out2.length+Rc.length<=1000->Ret (aA (aM ((j:Int)-(w:Int)+1)) (rec3 (out2,(j:Int)-(w:Int)+1))) λx=>x=X:=λout2 h1 h2=>by
   refine aV (hrec3 _ ⟨j+1,by simp only;omega,by omega,?_,?_⟩ (by simp only;omega))
   ·rw[hRc];exact h1
   ·rw[hRc];exact h2
  cases cur with
  | none=>exact aD (λg=>absurd rfl g) λ_=>nx _ hX (by simpa using hL)
  | some c=>
    have hc:=hcur c rfl;have hfl:bU (out++[c],none) (kW K Rc)=X:=by
     rw[<-hX];refine(uZ λe he hg=>?_).symm;have hm:=Y4 (by rw[he];rfl:e∈(kW K Rc).head?);obtain⟨y,hy,rfl⟩:=bH.1 hm;exact hRcl y hy (by rw[<-hc.2];exact hg.2.1.symm)
    refine aD (λ_=>aK (gC ?_) (nx _ hfl ?_)) λg=>absurd hc.1 g
    ·simp only[lQ,dU] at hL;simp only;omega
    ·simp only[lQ,dU,dG] at hL ⊢;omega
 have hp:p<N:=by simp only at hat;omega
 rw[uU hp,uS] at hX hL;generalize hR:((List.range N).drop (p+1)).filterMap (iT T l)=R at hX hL;rw[jam (by omega),aB]
 have next:∀(out2:List aL) (cur2:Option aL),(∀c,cur2=some c->c.1≠0/\c.2.1=l)->bU (out2,cur2) (kW K (R++Rc))=X->out2.length+cur2.toList.length+ (R++Rc).length<=1000->
   Ret (aA (aM ((p:Int)+1)) (rec4 (out2,((p:Int)+1,enc cur2)))) λx=>x=X:=λout2 cur2 h1 h2 h3=>
  aV (hrec4 _ ⟨p+1,cur2,by simp,by omega,rfl,h1,by rw[hR];exact h2,by rw[hR];exact h3⟩ (by simp only;omega))
 have ea:iT T l p=dW T l (p:Int):=rfl;rw[ea] at hX hL;cases hlk:dW T l (p:Int) with
 | none=>
   rw[hlk] at hX hL;simp only at hX hL ⊢;exact aD (λ_=>next out cur hcur hX hL) λg=>absurd trivial g
 | some y=>
   obtain⟨hy,hyl,hyp⟩:=jB hlk;rw[hlk] at hX hL;simp only[fB,cM] at hX hL ⊢;refine aD (λg=>absurd g (by decide)) λ_=>?_
   rw[show((y.1.1,y.1.2):aR)=y.1 from rfl,jcp (a:=((w:Int),((h:Int),cr))) hcr,aB,hK];have hX2:bU (stepG (out,cur) (K y.1,y.2)) (kW K (R++Rc))=X:=hX;have hnew:∀c:aL,some ((K y.1,(l,((p:Int),y.2.2.2))):aL)=some c->K y.1≠0->c.1≠0/\c.2.1=l:=λc e h0=>by cases e;exact⟨h0,rfl⟩
   have ey:((K y.1,y.2):aL)=(K y.1,(l,((p:Int),y.2.2.2))):=by rw[<-hyl,<-hyp]
   rw[ey] at hX2;subst hline;cases cur with
   | none=>
     simp only[sT,gV] at hL;refine aD (λhn=>?_) λhn=>?_
     ·rw[qO hn] at hX2;refine aD (λg=>absurd g.symm hn) λ_=>aD (λg=>absurd rfl g) λ_=>aD (λ_=>?_) λg=>absurd hn g
      exact next out (some _) (λc e=>hnew c e hn) hX2 (by simp only[lQ,dU];omega)
     ·have hn:K y.1=0:=by simpa using hn
      rw[jc2 hn] at hX2;refine aD (λg=>absurd rfl g) λ_=>aD (λg=>absurd hn g) λ_=>?_
      exact next out none (λc e=>by cases e) hX2 (by simp only[sT,gV];omega)
   | some c=>
     obtain⟨hc1,hc2⟩:=hcur c rfl;simp only[lQ,dU] at hL;have hlk1:fS (out.length+1)=true:=gC (by omega);have hl1:(out++[c]).length=out.length+1:=by simp
     have flush1:K y.1≠0->¬eM c (K y.1,(((i:Int)+1,(j:Int)-(w:Int)),((p:Int),y.2.2.2)))->Ret (aA (aM ((p:Int)+1)) (rec4 (out++[c],((p:Int)+1,enc (some (K y.1,(((i:Int)+1,(j:Int)-(w:Int)),((p:Int),y.2.2.2)))))))) λx=>x=X:=λhn hg=>by
      rw[B3 hn hg] at hX2;exact next _ (some _) (λc e=>hnew c e hn) hX2 (by simp only[lQ,dU];omega)
     refine aD (λhn=>?_) λhn=>?_
     ·refine aD (λg1=>?_) λg1=>?_
      ·refine aD (λg2=>?_) λg2=>?_
       ·rw[vH hn ⟨g1,hc2,g2⟩] at hX2;exact next out (some _) (λd e=>by cases e;exact⟨hc1,hc2⟩) hX2 (by simp only[lQ,dU];omega)
       ·refine aD (λ_=>aK hlk1 (aD (λ_=>?_) λg=>absurd hn g)) λg=>absurd hc1 g
        exact flush1 hn λg=>g2 g.2.2
      ·refine aD (λ_=>aK hlk1 (aD (λ_=>?_) λg=>absurd hn g)) λg=>absurd hc1 g
       exact flush1 hn λg=>g1 g.1
     ·have hn:K y.1=0:=by simpa using hn
      refine aD (λ_=>aK hlk1 (aD (λg=>absurd hn g) λ_=>?_)) λg=>absurd hc1 g
      rw[jc3 hn] at hX2;exact next (out++[c]) none (λc e=>by cases e) hX2 (by simp only[sT,gV];omega)
end
section
variable {w h:Nat} {T:List aI}
theorem jb0 (t:Tab w h T) {x:aI} (hx:x∈T):jad fuel (((w:Int),(h:Int)),x.1)=some ((x.2.1,x.2.2.1),x.2.2.2):=by
 have:=cJ.1 t.lie x hx;unfold V1 at this;split at this
 ·rename_i r hr;rw[show((x.1.1,x.1.2):aR)=x.1 from rfl] at hr;rw[hr];simp only[aT,aO] at this;obtain⟨⟨⟨a1,a2⟩,a3⟩,a4⟩:=this;rw[show r=((r.1.1,r.1.2),r.2) from rfl,show r.1.1=x.2.1 from jJ a1 a2,a3,a4]
 ·cases this
def gE (T:List aI) (c:aP):aL:=(c.2.2,((T.find? λx=>decide (x.1=bI c)).map (·.2)).getD ((0,0),(0,0)))
theorem A4 (t:Tab w h T) {c:aP} {x:aI} (hx:x∈T) (e:x.1=bI c):gE T c=(c.2.2,x.2):=by
 unfold gE;have:T.find? (λx=>decide (x.1=bI c))=some x:=by
  cases hf:T.find? (λx=>decide (x.1=bI c)) with
  | none=>exact absurd (by simpa using e) (oP.1 hf x hx)
  | some y=>
    have h1:=xL hf;have h2:=xN hf;rw[t.unitInj h1 hx (by rw[e];simpa using h2)]
 rw[this];rfl
def eT (T:List aI) (w h:Nat) (K:aR->Int):List aL:=(kW K (fH T w h)).filter λe=>decide (e.1≠0)
theorem o5 (t:Tab w h T) (K:aR->Int):(kW K (fH T w h)).Pairwise λx y=>gL x.2 y.2:=sW.2 (C1 t)
theorem uA (t:Tab w h T) {K:aR->Int} {e:aL} (he:e∈kW K (fH T w h)):∃x∈T,e=(K x.1,x.2):=by
 obtain⟨x,hx,rfl⟩:=bH.1 he;exact⟨x,(oB t).1 hx,rfl⟩
theorem vC (t:Tab w h T) (K:aR->Int):cG T w h K=bU ([],none) (eT T w h K):=
 qH _ _ _ (λe he=>by obtain⟨x,hx,rfl⟩:=uA t he;exact(t.li hx).ft) (o5 t K) (λc h=>by cases h)
theorem A5 (t:Tab w h T) (K:aR->Int):(eT T w h K).Pairwise λa b=>jO a b<0:=by
 have hp:(eT T w h K).Pairwise λx y=>gL x.2 y.2:=(o5 t K).filter _
 have:(eT T w h K).Pairwise λx y=>(x∈eT T w h K/\y∈eT T w h K)/\gL x.2 y.2:=by
  rw[gZ] at hp ⊢;exact λi j hi hj hij=>⟨⟨bY _,bY _⟩,hp i j hi hj hij⟩
 refine this.imp λ{a b} ⟨⟨ha,hb⟩,hn⟩=>?_
 obtain⟨x,hx,rfl⟩:=uA t (kN.1 ha).1;obtain⟨y,hy,rfl⟩:=uA t (kN.1 hb).1;have lx:=t.li hx;have ly:=t.li hy;have b1:=lx.ft;rw[d4];simp only;rw[mK (by have:=lx.k1;omega) (by have:=lx.k4;omega),mK (by have:=ly.k1;omega) (by have:=ly.k4;omega)];unfold gL at hn;simp only at hn;omega
theorem tV {α β:Type} {f g:α->Option β}:∀ {l:List α},(∀x∈l,f x=g x)->l.filterMap f=l.filterMap g
 | [],_=>rfl
 | x::l,h=>by
   rw[uS,uS,h x bM,tV λy hy=>h y (bN _ hy)]
theorem vB (t:Tab w h T) {cr:List aP} (ho:OutOK T cr):(cr.map (gE T)).Perm (eT T w h (aN cr)):=by
 have h1:((dY T cr).map (gE T)).Perm (eT T w h (aN cr)):=by
  have e:(dY T cr).map (gE T)=(kW (aN cr) T).filter λe=>decide (e.1≠0):=by
   unfold dY kW;rw[qg4,Y7,<-qgf,<-qfy,qfz];refine tV λx hx=>?_
   by_cases h0:aN cr x.1=0
   ·simp[h0,Option.guard]
   ·simp only[h0,dO,iF,Option.guard,zC,ne_eq,jU,aZ,cK,aB];rw[A4 t hx rfl];try rfl
  rw[e];exact((vO t).symm.map _).filter _
 exact((sK t ho).map _).trans h1
theorem A9 (t:Tab w h T) {cr:List aP} (ho:OutOK T cr):sortC jO (cr.map (gE T))=eT T w h (aN cr):=by
 have hs:=A5 t (aN cr);have hp:=(tG jO (cr.map (gE T))).trans (vB t ho);refine xR jO (λx hx y hy h1 h2=>?_) (Q8 jO jfv _) (hs.imp λ{a b} h c=>by rw[d4] at *;omega) hp;have hx:=hp.subset hx;have hy:=hp.subset hy;obtain⟨i,hi,rfl⟩:=fZ hx;obtain⟨j,hj,rfl⟩:=fZ hy;rw[gZ] at hs;rcases rA i j with g | g | g
 ·exact absurd (hs i j hi hj g) h1
 ·subst g;rfl
 ·exact absurd (hs j i hj hi g) h2
theorem jcf (t:Tab w h T) {cr:List aP} (ho:OutOK T cr):qY (cr.map (gE T))=true:=by
 unfold qY;rw[A9 t ho];exact X6 (A5 t _)
theorem jcs {K:aR->Int} {e:aL} (he:e∈eT T w h K):e.1≠0:=by
 have:=(kN.1 he).2;simpa using this
theorem nQ {α:Type} (l:List α) (n:Nat):(l.drop n).take (l.length-n)=l.drop n:=jD (by simp)
theorem jax (t:Tab w h T) (hw:1<=w/\w<=6) (hh:1<=h/\h<=6) {cr:List aP} (hck:uM fuel ((w:Int),((h:Int),cr))=some 0) (ho:OutOK T cr):
  qJ fuel ((w:Int),((h:Int),cr))=some (cG T w h (aN cr),0):=by
 have hlen:=ho.len t hw.2 hh.2;apply Ret.eq;unfold qJ;rw[show(((w:Int),((h:Int),cr)).1,(((w:Int),((h:Int),cr)).2.1,((w:Int),((h:Int),cr)).2.2))=((w:Int),((h:Int),cr)) from rfl,hck,aB];refine aD (λg=>absurd rfl g) λ_=>?_
 refine aK (by simp only[aT,aO];omega) ?_;refine dK (λs:List aL×Int=>∃n:Nat,s.2=(n:Int)/\n<=cr.length/\s.1=(cr.take n).map (gE T)) (λs=>cr.length-s.2.toNat) ?_ fuel ([],0) ⟨0,rfl,by omega,by simp⟩ (by simp only[fuel];omega);rintro ⟨all,n'⟩ rec ⟨n,hn,hnl,hall⟩ hrec;simp only at hn hall;subst hn hall;refine aD (λhlt=>?_) λhge=>?_
 ·have hlt:(n:Int)< (cr.length:Int):=hlt;have hi:n<cr.length:=by omega
  have hin:aU (n:Int) cr.length=true:=bG (by omega) hlt;refine aK hin ?_;simp only;rw[eK hi];obtain⟨x,hx,ex⟩:=bH.1 (ho.sub cr[n] (bY hi));rw[show((cr[n].1,cr[n].2.1):aR)=x.1 from ex.symm,jb0 t hx,aB];refine aK (gC (by simp only[dM,mU];omega)) (aV (hrec _ ⟨n+1,by simp,hi,?_⟩ (by simp only;omega)));simp only;rw[tH _ _ hi,eI,qg5,A4 t hx ex]
 have hge:¬(n:Int)< (cr.length:Int):=hge;have:n=cr.length:=by omega
 subst this;have eS:zH fuel (((cr.take cr.length).map (gE T),none),((),()))=some ((),((eT T w h (aN cr),none),((),()))):=by
  unfold zH;have e1:(Nat.ble (List.length (α:=aL) ((cr.take cr.length).map (gE T))) 1000000&&qY ((cr.take cr.length).map (gE T)))=true:=by
   rw[iY,jcf t ho,qG,qi1,dM];omega
  have e2:=e1;simp only at e1 ⊢;rw[e1,iY,A9 t ho];rfl
 rw[eS,aB];have hX0:=vC t (aN cr);have hL0:(eT T w h (aN cr)).length<=1000:=by rw[<-(vB t ho).length_eq,dM];exact hlen
 have hN0:∀e∈eT T w h (aN cr),e.1≠0:=λe he=>jcs he
 simp only;generalize cG T w h (aN cr)=X at hX0 ⊢;generalize eT T w h (aN cr)=F at hX0 hL0 hN0 ⊢;refine dK (λs:List aL×List aL=>(∀e∈s.1,e.1≠0)/\bU (s.2,none) s.1=X/\s.2.length+s.1.length<=1000) (λs=>s.1.length) ?_ fuel (F,[]) ⟨hN0,hX0.symm,by simpa using hL0⟩ (by simp only[fuel];omega);clear hX0 hL0 hN0 eS hrec rec;rintro ⟨all,out⟩ rec5 ⟨hN,hX,hL⟩ hrec5;simp only at hN hX hL;cases all with
 | nil=>
   refine aD (λg=>absurd g (by simp)) λ_=>?_
   simp only[bU,sT,jW] at hX;subst hX;have hb:cY 0 (out.length:Int) out.length=true:=by unfold cY;simp
   refine aK (by simp only[aT,aO];exact⟨⟨hb,by omega⟩,by omega⟩) (aK ?_ (aW ?_))
   ·simp[lM]
   ·simp
 | cons x r=>
   have hb:∀n:Nat,n+1<=(x::r).length->cY ((n:Int)+1) ((x::r).length:Int) (x::r).length=true:=λn hn=>by
    unfold cY;simp only[aT,aO];omega
   refine aD (λ_=>?_) λg=>absurd (by simp only[cM];omega) g
   refine aK (bG (by omega) (by simp only[cM];omega)) (aK (hb 0 (by simp)) ?_);generalize hA:x::r=A at hb hrec5 hN hX hL;have hAl:1<=A.length:=by rw[<-hA];simp
   refine dK (λs:Int×(Int×(Int×(Int×(Int×(Int×Int)))))=>∃(n:Nat) (y:aL),s=((n:Int)+1,((n:Int),enc (some y)))/\n+1<=A.length/\y.1≠0/\bU (out,some y) (A.drop (n+1))=X) (λs=>A.length-s.1.toNat) ?_ fuel _ ⟨0,x,by rw[<-hA];rfl,hAl,hN x (by rw[<-hA];simp),?_⟩ (by simp only[fuel];omega)
   rotate_left
   ·rw[<-hA] at hX ⊢;rw[<-hX];have:=hN x (by rw[<-hA];simp);rw[bU,qO this];rfl
   rintro s rec6 ⟨n,y,rfl,hn,hy,hXn⟩ hrec6;have ex:bU (out++[y],none) (A.drop (n+1))=X->Ret (aA (fS (out.length+1)) (aA (cY ((n:Int)+1) (A.length:Int) A.length) (rec5 (((A.drop ((n:Int)+1).toNat).take (A.length-((n:Int)+1).toNat)),(out++[y]))))) λx=>x=(X,0):=λhx=>by
    refine qR (aK (hb n hn) (hrec5 _ ⟨?_,?_,?_⟩ ?_))
    ·intro e he;simp only[nQ] at he;exact hN e (uR he)
    ·simp only[nQ];rw[show((n:Int)+1).toNat=n+1 by omega];exact hx
    ·simp only[nQ,dG,dU,mT];omega
    ·simp only[nQ,mT];omega
   have hd1:(A.drop 1).take (A.length-1)=A.drop 1:=nQ A 1;have hdl:((A.drop 1).take (A.length-1)).length=A.length-1:=by rw[hd1,mT]
   refine aD (λhlt=>?_) λhge=>?_
   ·have hlt:(n:Int)< (((A.drop 1).take (A.length-1)).length:Int):=hlt;have hn2:n+1<A.length:=by omega
    refine aK (bG (qgc n) hlt) ?_;have hg:((A.drop 1).take (A.length-1)).getD ((n:Int).toNat) (0,((0,0),(0,0)))=A[n+1]:=by
     rw[eK (by omega)];simp only[hd1,sV]
     congr 1
     omega
    have hd:=kS hn2;have fl:¬eM y A[n+1]->bU (out++[y],none) (A.drop (n+1))=X:=λhg=>by
     rw[<-hXn];exact(uZ λe he=>by rw[hd] at he;cases he;exact hg).symm
    rw[hd] at hXn;simp only;rw[hg];generalize A[n+1]=z at hXn hg fl ⊢;refine aD (λg=>ex (fl λh=>g h.1.symm)) λg1=>?_
    refine dN (λg=>ex (fl λh=>?_)) λg2=>?_
    ·have e1:z.2.1.1=y.2.1.1:=by rw[h.2.1]
     have e2:z.2.1.2=y.2.1.2:=by rw[h.2.1]
     simp[enc,e1,e2] at g
    refine aD (λg=>ex (fl λh=>g h.2.2.symm)) λg3=>?_
    have g1:z.1=y.1:=iQ.1 g1;have g3:z.2.2.1=y.2.2.2:=iQ.1 g3;have g2:z.2.1.1=y.2.1.1/\z.2.1.2=y.2.1.2:=by
     by_cases u1:z.2.1.1=y.2.1.1<;>by_cases u2:z.2.1.2=y.2.1.2<;>simp[enc,u1,u2] at g2 ⊢
    have hgo:eM y z:=⟨g1.symm,jJ g2.1.symm g2.2.symm,g3.symm⟩
    have hz:z.1≠0:=by rw[g1];exact hy
    rw[bU,vH hz hgo] at hXn;exact aV (aV (hrec6 _ ⟨n+1,(y.1,(y.2.1,(y.2.2.1,z.2.2.2))),by simp[enc],hn2,hy,hXn⟩ (by simp only;omega)))
   ·have hge:¬(n:Int)< (((A.drop 1).take (A.length-1)).length:Int):=hge;refine ex ?_;rw[<-hXn];have:A.drop (n+1)=[]:=mF (by omega);rw[this];simp[bU]
end
end X
end Go.Vm
namespace Go.Vm
namespace X
open W Go.RowKit Go.Proofs.Un
section
variable {w h:Nat} {T:List aI}
theorem jb8:In.sheets_Neighbour=sheets_Neighbour:=rfl
theorem jbd:In.sheets_Count=sheets_Count:=rfl
theorem p7:∀(l acc:List aR),acc.length+l.length<=1000->
  gD (fun(x2:((List (Int×Int))×Unit))=>aA (cY 0 ((x2.1.length:Nat):Int) x2.1.length&&decide (((x2.1.length:Nat):Int)<=((x2.1.length:Nat):Int))&&decide (((x2.1.length:Nat):Int)<=((x2.1.length:Nat):Int))) (aA ((Nat.beq 0 0)&&(lM (some x2.1.length) (x2.1.take x2.1.length).length)) (some ((x2.1.take x2.1.length),(0:Int))))) (λy2 rec2 x2=>aA (fS (x2.1.length+1)) (rec2 ((x2.1++[(y2.1,y2.2)]),()))) l (acc,())=some (acc++l,0)
 | [],acc,_=>by
   simp[gD,aA,cY,lM]
 | y::l,acc,h=>by
   simp only[cM] at h;simp only[gD];rw[gC (by omega),p7 l (acc++[(y.1,y.2)]) (by simp only[dG,dU];omega)];simp[aA]
theorem jaq (hw:1<=w/\w<=6) (hh:1<=h/\h<=6):sheets_Count fuel ((w:Int),(h:Int))=some ((4*w*h:Nat):Int):=by
 have hwh:w*h<=6*6:=iK hw.2 hh.2;have e:4* (w:Int)* (h:Int)=((4*w*h:Nat):Int):=by simp
 have e2:4*w*h=4* (w*h):=pQ _ _ _;unfold sheets_Count;simp only;rw[mX hw hh,aB];simp only[ne_eq,iO,bA,aG];rw[e,aY (by omega) (by omega),aY (by omega) (by omega)];rfl
theorem C0 (t:Tab w h T) (hw:1<=w/\w<=6) (hh:1<=h/\h<=6) {u:aR}:u∈T.map (·.1)↔∃i,i<12*w*h/\lU w h i=true/\u=(((i / 3:Nat):Int),((i%3:Nat):Int)):=by
 have hwh:w*h<=6*6:=iK hw.2 hh.2;have e2:12*w*h=12* (w*h):=pQ _ _ _;have e3:4*w*h=4* (w*h):=pQ _ _ _;have hu:=t.us;unfold jag at hu;simp only at hu;rw[mX hw hh,aB] at hu;simp only[ne_eq,iO,bA,aG] at hu;cases hr:zJ (((w:Int),(h:Int)),()) with
 | none=>rw[hr] at hu;cases hu
 | some L=>
   have hL:L=(pV w h (12*w*h)).map fun(i:Nat)=>(((i / 3:Nat):Int),((i%3:Nat):Int)):=by
    unfold zJ at hr;rw[jbd] at hr;simp only at hr;rw[jaq hw hh] at hr;simp only[cZ] at hr;rw[show 3* (4*w*h)=12*w*h by omega] at hr;cases hk:okU (w:Int) (h:Int) ((4*w*h:Nat):Int) with
    | true=>rw[hk] at hr;exact(lR hr).symm
    | false=>rw[hk] at hr;cases hr
   have hLl:L.length<=1000:=by
    rw[hL,dM];have:=qgg (lU (w:Int) (h:Int)) (List.range (12*w*h));unfold pV;rw[qhf] at this;omega
   rw[hr,aB,p7 L [] (by simpa using hLl)] at hu;have hT:T.map (·.1)=L:=by simpa using hu.symm
   rw[hT,hL];unfold pV;simp only[bH,kN,fN];constructor
   ·rintro ⟨i,⟨h1,h2⟩,rfl⟩;exact⟨i,h1,h2,rfl⟩
   ·rintro ⟨i,h1,h2,rfl⟩;exact⟨i,⟨h1,h2⟩,rfl⟩
theorem uI (t:Tab w h T) {i:Nat} (hi:i<12*w*h):∃n er,sheets_Neighbour fuel (((w:Int),(h:Int)),(((i / 3:Nat):Int),((i%3:Nat):Int)))=some (n,er)/\G6 w h i=some (n,er)/\(er≠0\/n≠((i / 3:Nat):Int)):=by
 have:=cJ.1 t.nb i (fN.2 hi);unfold jii at this;split at this
 ·rename_i n er hn;refine⟨n,er,?_,hn,by simpa using this⟩;rw[<-jb8];exact hn
 ·cases this
theorem jaw (t:Tab w h T) (hw:1<=w/\w<=6) (hh:1<=h/\h<=6) {u:aR} (hu:u∈T.map (·.1)):mH fuel (((w:Int),(h:Int)),u)=some (u,0):=by
 obtain⟨i,hi,hp,rfl⟩:=(C0 t hw hh).1 hu;obtain⟨n,er,h1,h2,h3⟩:=uI t hi;unfold lU at hp;rw[h2] at hp;simp only[aT,aO] at hp;obtain⟨rfl,hp⟩:=hp;unfold mH;simp only;rw[h1,aB];simp only[ne_eq,iO,bA,aG];rw[show min (((i / 3:Nat):Int)) n=((i / 3:Nat):Int) by omega]
theorem jav (t:Tab w h T) (hw:1<=w/\w<=6) (hh:1<=h/\h<=6) {u:aR} (h0:0<=u.2) (hu:u∉T.map (·.1)):∃r,mH fuel (((w:Int),(h:Int)),u)=some r/\(r.2≠0\/r.1.1≠u.1):=by
 have hwh:w*h<=6*6:=iK hw.2 hh.2;have e2:12*w*h=12* (w*h):=pQ _ _ _;have e3:4*w*h=4* (w*h):=pQ _ _ _;have e:4* (w:Int)* (h:Int)=((4*w*h:Nat):Int):=by simp
 by_cases hc:0<=u.1/\u.1< ((4*w*h:Nat):Int)
 rotate_left
 ·
  have hcell:qM fuel (((w:Int),(h:Int)),u.1)=some ((0,(0,0)),7):=by
   unfold qM;simp only;rw[mX hw hh,aB];simp only[ne_eq,iO,bA,aG];by_cases g:0<=u.1
   ·have:¬u.1< ((4*w*h:Nat):Int):=λh=>hc ⟨g,h⟩
    rw[e,aY (by omega) (by omega),aY (by omega) (by omega)];simp only[aA,aF,g,aZ,this,bA,xO]
   ·simp only[g,bA,aG]
  refine⟨((0,0),7),?_,.inl (by decide)⟩;unfold mH sheets_Neighbour;simp only;rw[hcell,aB];rfl
 obtain⟨hc0,hc1⟩:=hc;by_cases he:2<u.2
 ·
  obtain⟨n,er,h1,_,_⟩:=uI t (i:=3*u.1.toNat) (by omega);rw[show(((3*u.1.toNat / 3:Nat):Nat):Int)=u.1 by omega] at h1;unfold sheets_Neighbour at h1;simp only at h1;cases hcl:qM fuel (((w:Int),(h:Int)),u.1) with
  | none=>rw[hcl] at h1;cases h1
  | some r1=>
    unfold mH sheets_Neighbour;simp only;rw[hcl,aB];by_cases g:r1.2=0
    ·have hcn:tP fuel ((r1.1.1,(r1.1.2.1,r1.1.2.2)),u.2)=some ((0,(0,0)),1):=by
      unfold tP;simp only[he,aZ,aF];cases decide (r1.1.1 < -4096)<;>cases decide (4096<r1.1.1)<;>cases decide (r1.1.2.1 < -4096)<;>cases decide (4096<r1.1.2.1)<;>cases decide (3<r1.1.2.2)<;>rfl
     simp only[g,ne_eq,iO,bA,aG];rw[hcn,aB];exact⟨_,rfl,.inl (by decide)⟩
    ·simp only[g,ne_eq,jU,aZ,aF,aB];exact⟨_,rfl,.inl g⟩
 obtain⟨n,er,h1,h2,h3⟩:=uI t (i:=3*u.1.toNat+u.2.toNat) (by omega);have ei:(((3*u.1.toNat+u.2.toNat) / 3:Nat):Int)=u.1:=by omega
 have ej:(((3*u.1.toNat+u.2.toNat)%3:Nat):Int)=u.2:=by omega
 rw[ei,ej] at h1;rw[ei] at h3;unfold mH;simp only;rw[h1,aB];by_cases g:er=0
 ·subst g;simp only[ne_eq,iO,bA,aG];refine⟨_,rfl,.inr ?_⟩;have hnp:¬u.1<n:=λhn=>hu ((C0 t hw hh).2 ⟨3*u.1.toNat+u.2.toNat,by omega,by unfold lU;rw[h2];simp only[aZ,sY,aO];omega,jJ ei.symm ej.symm⟩)
  have h3:n≠u.1:=h3.resolve_left (by simp);simp only;omega
 ·simp only[g,ne_eq,jU,aZ,aF];exact⟨_,rfl,.inl g⟩
end
def iW (c:aP):Prop:=1<=c.2.2/\c.2.2<=3
def jR (u v:aR):Prop:=u.1<v.1\/u.1=v.1/\u.2<v.2
def mA (cr:List aP) (n:Nat):Prop:=∀j (h:j+1<cr.length),j+1<n->jR (bI cr[j]) (bI cr[j+1])
open Classical in
noncomputable def nN (T:List aI) (cr:List aP):Int:=if ∀c∈cr,iW c then(if ∀c∈cr,bI c∈T.map (·.1) then(if mA cr cr.length then 0 else 6) else 7) else 1
section
variable {w h:Nat} {T:List aI}
theorem m5 {α:Type} {l:List α} {i:Nat} (hi:i<l.length) {c:α} (hc:c∈l.take (i+1)):c∈l.take i\/c=l[i]:=by
 rw[tH _ _ hi] at hc;rcases bO.1 hc with hc | hc
 ·exact .inl hc
 ·exact .inr (bW.1 hc)
theorem jap {cr:List aP} (hl:cr.length<=1000000):∃b,J5 fuel (cr,())=some b/\(b=false↔∀c∈cr,iW c):=by
 have:∃r,vE fuel (cr,())=some r/\(r<0↔∀c∈cr,iW c):=by
  suffices hs:Ret (vE fuel (cr,())) λr=>(r<0↔∀c∈cr,iW c) from hs.imp λr h=>h
  unfold vE;refine dK (λi:Int=>0<=i/\i<=cr.length/\∀c∈cr.take i.toNat,iW c) (λi=>cr.length-i.toNat) ?_ fuel 0 ⟨by omega,by omega,by simp⟩ (by simp only[fuel];omega);rintro i' rec ⟨i0,i1,hno⟩ hrec;obtain⟨i,rfl⟩:∃i:Nat,i'=(i:Int):=⟨i'.toNat,by omega⟩
  rw[cZ] at hno;refine aD (λhlt=>?_) λhge=>?_
  ·have hlt:(i:Int)< (cr.length:Int):=hlt;have hi:i<cr.length:=by omega
   refine aK (bG i0 hlt) ?_;simp only;rw[eK hi];have bad:¬iW cr[i]->((i:Int)<0↔∀c∈cr,iW c):=λhb=>⟨λg=>absurd g (by omega),λg=>absurd (g _ (bY hi)) hb⟩
   refine aD (λg1=>dN (λg2=>aW (bad ?_)) λg2=>?_) λg1=>aW (bad λg=>g1 g.1)
   ·intro g;have:=g.2;simp[this] at g2
   ·have hk:iW cr[i]:=⟨g1,by simpa using g2⟩
    refine aV (hrec _ ⟨by omega,by omega,λc hc=>?_⟩ (by omega));rw[show((i:Int)+1).toNat=i+1 by omega] at hc;rcases m5 hi hc with hc | rfl
    ·exact hno c hc
    ·exact hk
  ·have hge:¬(i:Int)< (cr.length:Int):=hge;rw[jD (by omega)] at hno;exact aW ⟨λ_=>hno,λ_=>by decide⟩
 obtain⟨r,hr,hi⟩:=this;refine⟨decide (0<=r),?_,?_⟩
 ·unfold J5;rw[hr,aB]
 ·rw[iB,<-hi];omega
theorem nT {u:aR} (t:Tab w h T) (hw:1<=w/\w<=6) (hh:1<=h/\h<=6) (hu:u∈T.map (·.1)):0<=u.1/\u.1<=1000/\0<=u.2/\u.2<=2:=by
 obtain⟨x,hx,rfl⟩:=bH.1 hu;have li:=t.li hx;have h1:=li.u0;have h2:=li.u1;have h3:=li.e0;have h4:=li.e2
 have:w*h<=6*6:=iK hw.2 hh.2;have e:(4* (w:Int)*h)=4* ((w*h:Nat):Int):=by rw[pM,wI]
 omega
theorem ja6 {cr:List aP} {i:Nat} (h:mA cr (i+1)) (hi:i+1<cr.length) (hl:jR (bI cr[i]) (bI cr[i+1])):mA cr (i+2):=λj hj hjn=>by
 by_cases e:j=i
 ·subst e;exact hl
 ·exact h j hj (by omega)
theorem jao (t:Tab w h T) (hw:1<=w/\w<=6) (hh:1<=h/\h<=6) {cr:List aP} (hl:cr.length<=1000000) (hu:∀c∈cr,0<=c.2.1):uM fuel ((w:Int),((h:Int),cr))=some (nN T cr):=by
 obtain⟨b,hb,hb2⟩:=jap hl;apply Ret.eq;unfold uM;simp only;rw[mX hw hh,aB,hb,aB];refine aD (λg=>absurd rfl g) λ_=>dN (λhbt=>aW ?_) λhbf=>?_
 ·unfold nN;rw[aC λh=>by rw[hb2.2 h] at hbt;cases hbt]
 have hk:=hb2.1 hbf;unfold nN;rw[aH hk];refine dK (λi:Int=>0<=i/\i<=cr.length/\∀c∈cr.take i.toNat,bI c∈T.map (·.1)) (λi=>cr.length-i.toNat) ?_ fuel 0 ⟨by omega,by omega,by simp⟩ (by simp only[fuel];omega);rintro i' rec ⟨i0,i1,hno⟩ hrec;obtain⟨i,rfl⟩:∃i:Nat,i'=(i:Int):=⟨i'.toNat,by omega⟩
 rw[cZ] at hno;refine aD (λhlt=>?_) λhge=>?_
 ·have hi:i<cr.length:=by omega
  refine aK (bG i0 hlt) ?_;rw[eK hi,show((cr[i].1,cr[i].2.1):aR)=bI cr[i] from rfl];by_cases hm:bI cr[i]∈T.map (·.1)
  ·rw[jaw t hw hh hm,aB];refine aD (λg=>absurd rfl g) λ_=>dN (λg=>by simp[bI] at g) λ_=>?_
   refine aV (hrec _ ⟨by omega,by omega,λc hc=>?_⟩ (by omega));rw[show((i:Int)+1).toNat=i+1 by omega] at hc;rcases m5 hi hc with hc | rfl
   ·exact hno c hc
   ·exact hm
  ·obtain⟨r,hr,hr2⟩:=jav t hw hh (hu _ (bY hi)) hm;rw[hr,aB,aC λh=>hm (h _ (bY hi))];refine aD (λ_=>aW rfl) λg=>?_
   have hr3:=hr2.resolve_left g;exact dN (λ_=>aW rfl) λg2=>by simp[bI] at g2 hr3;exact absurd g2.1 hr3
 rw[jD (by omega)] at hno;rw[aH hno];clear hrec i1 hge;refine dK (λi:Int=>∃n:Nat,i=(n:Int)+1/\(n+1<=cr.length\/n=0)/\mA cr (n+1)) (λi=>cr.length+1-i.toNat) ?_ fuel 1 ⟨0,rfl,.inr rfl,λj hj hjn=>by omega⟩ (by simp only[fuel];omega);rintro i' rec ⟨n,rfl,hn,hasc⟩ hrec;refine aD (λhlt=>?_) λhge=>?_
 ·have hi:n+1<cr.length:=by omega
  have e1:((n:Int)+1-1).toNat=n:=by omega
  refine aV (eX (aK (bG (by omega) hlt) ?_));have g1:cr.getD ((n:Int)+1-1).toNat (0,(0,0))=cr[n]:=by rw[e1,<-eK (d:=(0,(0,0))) (show n<cr.length by omega)];rw[cZ]
  have g2:cr.getD ((n:Int)+1).toNat (0,(0,0))=cr[n+1]:=by rw[<-eK (d:=(0,(0,0))) hi];rfl
  rw[g1,g2];have m1:=nT t hw hh (hno _ (bY (show n<cr.length by omega)));have m2:=nT t hw hh (hno _ (bY hi));unfold bI at m1 m2;simp only at m1 m2;have ho:∃r,H7 fuel ((cr[n].1,cr[n].2.1),(cr[n+1].1,cr[n+1].2.1))=some r/\(0<=r↔¬jR (bI cr[n]) (bI cr[n+1])):=by
   unfold H7 jR bI;simp only;by_cases e:cr[n].1=cr[n+1].1
   ·rw[show(decide (cr[n].1≠cr[n+1].1))=false by simp[e],aG,aY (by omega) (by omega),aY (by omega) (by omega),aY (by omega) (by omega)];refine⟨_,rfl,?_⟩;omega
   ·rw[show(decide (cr[n].1≠cr[n+1].1))=true by simp[e],aF,aY (by omega) (by omega)];refine⟨_,rfl,?_⟩;omega
  obtain⟨r,hr,hr2⟩:=ho;rw[hr,aB];refine aD (λg=>aW ?_) λg=>?_
  ·rw[aC (show ¬mA cr cr.length from λh=>hr2.1 g (h n hi hi))]
  ·have hlt2:jR (bI cr[n]) (bI cr[n+1]):=nV λhc=>g (hr2.2 hc)
   exact aV (hrec _ ⟨n+1,by simp,by omega,ja6 hasc hi hlt2⟩ (by omega))
 ·refine aW ?_;rw[aH (show mA cr cr.length from λj hj hjn=>hasc j hj (by omega))]
theorem ji7 (hw:1<=w/\w<=6) (hh:1<=h/\h<=6):gJ fuel ((w:Int),(h:Int))=some 1:=by
 have hwh:w*h<=6*6:=iK hw.2 hh.2;have e:(w:Int)* (h:Int)=((w*h:Nat):Int):=by simp
 unfold gJ;simp only;rw[e];simp only[show ¬((w:Int)<1) by omega,show ¬((h:Int)<1) by omega,show ¬((256:Int)<w) by omega,show ¬((256:Int)<h) by omega,show ¬((256:Int)< ((w*h:Nat):Int)) by omega,bA,aG];rw[aY (by omega) (by omega)];rfl
end
def jT (a b:aL):Bool:= !decide (eM a b)
def nR (c e:aL):aL:=(c.1,(c.2.1,(c.2.2.1,e.2.2.2)))
def fV:aL->List aL->List aL
 | c,[]=>[c]
 | c,e::l=>if eM c e then fV (nR c e) l else c::fV e l
theorem qI:∀(l:List aL) (out:List aL) (c:aL),(∀e∈l,e.1≠0)->bU (out,some c) l=out++fV c l
 | [],out,c,_=>rfl
 | e::l,out,c,h=>by
   have he:=h e bM;have hl:∀e∈l,e.1≠0:=λx hx=>h x (bN _ hx)
   simp only[fV];by_cases g:eM c e
   ·rw[bU,vH he g,aH g];exact qI l out (nR c e) hl
   ·rw[bU,B3 he g,aC g,qI l _ e hl];simp
theorem m7:∀(l:List aL) (c:aL),∃d r,fV c l=d::r/\d.1=c.1/\d.2.1=c.2.1/\d.2.2.1=c.2.2.1
 | [],c=>⟨c,[],rfl,rfl,rfl,rfl⟩
 | e::l,c=>by
   simp only[fV];by_cases g:eM c e
   ·rw[aH g];obtain⟨d,r,h1,h2,h3,h4⟩:=m7 l (nR c e);exact⟨d,r,h1,h2,h3,h4⟩
   ·rw[aC g];exact⟨c,_,rfl,rfl,rfl,rfl⟩
theorem tX:∀(l:List aL) (c:aL),iS jT (fV c l)=true
 | [],c=>rfl
 | e::l,c=>by
   simp only[fV];by_cases g:eM c e
   ·rw[aH g];exact tX l _
   ·rw[aC g];obtain⟨d,r,h1,h2,h3,h4⟩:=m7 l e;have ih:=tX l e;rw[h1] at ih ⊢;have:jT c d=true:=by
     unfold jT;simp only[jE,iB];rintro ⟨g1,g2,g3⟩;exact g ⟨by rw[g1,h2],by rw[g2,h3],by rw[g3,h4]⟩
    have e:iS jT (c::d::r)=(jT c d&&iS jT (d::r)):=rfl;rw[e,this,ih];rfl
def mC (K:aR->Int) (k:Int) (l:Int×Int):Int->List aI->Int->Prop
 | p,[],q=>p=q
 | p,x::r,q=>K x.1=k/\x.2.1=l/\x.2.2.1=p/\mC K k l x.2.2.2 r q
theorem zQ {K:aR->Int} {k:Int} {l:Int×Int}:∀ {r:List aI} {p q:Int} {x:aI},mC K k l p r q->K x.1=k->x.2.1=l->x.2.2.1=q->mC K k l p (r++[x]) x.2.2.2
 | [],p,q,x,h,h1,h2,h3=>by cases h;exact⟨h1,h2,h3,rfl⟩
 | y::r,p,q,x,h,h1,h2,h3=>⟨h.1,h.2.1,h.2.2.1,zQ h.2.2.2 h1 h2 h3⟩
structure Run (K:aR->Int) (s:aL) (r:List aI):Prop where
 ne:r≠[]
 run:mC K s.1 s.2.1 s.2.2.1 r s.2.2.2
theorem tY {K:aR->Int}:∀(l:List aI) (c:aL) (r:List aI),Run K c r->∃RS:List (aL×List aI),fV c (kW K l)=RS.map (·.1)/\(∀s∈RS,Run K s.1 s.2)/\RS.flatMap (·.2)=r++l
 | [],c,r,h=>⟨[(c,r)],rfl,λs hs=>by rw[bW.1 hs];exact h,by simp⟩
 | x::l,c,r,h=>by
   have e:fV c (kW K (x::l))=if eM c (K x.1,x.2) then fV (nR c (K x.1,x.2)) (kW K l) else c::fV (K x.1,x.2) (kW K l):=rfl
   rw[e];by_cases g:eM c (K x.1,x.2)
   ·rw[aH g];obtain⟨RS,h1,h2,h3⟩:=tY l (nR c (K x.1,x.2)) (r++[x]) ⟨by simp,zQ h.run g.1.symm g.2.1.symm g.2.2.symm⟩;exact⟨RS,h1,h2,by rw[h3];simp⟩
   ·rw[aC g];obtain⟨RS,h1,h2,h3⟩:=tY l (K x.1,x.2) [x] ⟨by simp,rfl,rfl,rfl,rfl⟩;refine⟨(c,r)::RS,by rw[h1];rfl,λs hs=>?_,by rw[jV,h3];simp⟩;rcases bK.1 hs with rfl | hs
    ·exact h
    ·exact h2 s hs
section
variable {w h:Nat} {T:List aI}
def fL (T:List aI) (w h:Nat) (K:aR->Int):List aI:=(fH T w h).filter λx=>decide (K x.1≠0)
theorem vA (K:aR->Int):eT T w h K=kW K (fL T w h K):=by
 unfold eT fL kW;rw[Y7];rfl
theorem pZ (t:Tab w h T) {K:aR->Int} {x:aI}:x∈fL T w h K↔x∈T/\K x.1≠0:=by
 unfold fL;rw[kN,oB t];simp
theorem jcu (t:Tab w h T) (K:aR->Int):∃RS:List (aL×List aI),cG T w h K=RS.map (·.1)/\(∀s∈RS,Run K s.1 s.2)/\RS.flatMap (·.2)=fL T w h K:=by
 rw[vC t,vA];have hN:∀x∈fL T w h K,K x.1≠0:=λx hx=>((pZ t).1 hx).2
 cases hf:fL T w h K with
 | nil=>exact⟨[],rfl,(λs hs=>by cases hs),rfl⟩
 | cons x r=>
   rw[hf] at hN;have h0:=hN x bM;have e:bU ([],none) (kW K (x::r))=fV (K x.1,x.2) (kW K r):=by
    have:bU ([],none) (kW K (x::r))=bU (stepG ([],none) (K x.1,x.2)) (kW K r):=rfl;rw[this,qO h0,qI]
    ·rfl
    ·intro e he;obtain⟨y,hy,rfl⟩:=bH.1 he;exact hN y (bN _ hy)
   rw[e];exact tY r _ [x] ⟨by simp,rfl,rfl,rfl,rfl⟩
theorem jct (t:Tab w h T) (K:aR->Int):iS jT (cG T w h K)=true:=by
 rw[vC t,vA];have hN:∀x∈fL T w h K,K x.1≠0:=λx hx=>((pZ t).1 hx).2
 cases hf:fL T w h K with
 | nil=>rfl
 | cons x r=>
   rw[hf] at hN;have h0:=hN x bM;have:bU ([],none) (kW K (x::r))=bU (stepG ([],none) (K x.1,x.2)) (kW K r):=rfl;rw[this,qO h0,qI]
   ·exact tX _ _
   ·intro e he;obtain⟨y,hy,rfl⟩:=bH.1 he;exact hN y (bN _ hy)
theorem tK (hT:TB T) (hk:KeyD T) {K:aR->Int} {k:Int} {l:Int×Int} {q:Int}:∀(r:List aI) (p:Int),(∀x∈r,x∈T)->mC K k l p r q->eF T l q p=some (r.map (·.1))/\p<=q
 | [],p,_,h=>by
   cases h;rw[mZ hT,aH rfl];exact⟨rfl,sZ _⟩
 | x::r,p,hm,⟨h1,h2,h3,h4⟩=>by
   have hx:=hm x bM;obtain⟨i1,i2⟩:=tK hT hk r _ (λy hy=>hm y (bN _ hy)) h4;have:=hT x hx;have hl:dW T l p=some x:=by rw[<-h2,<-h3];exact V3 hk hx
   rw[mZ hT,aC (by omega),hl];simp only;rw[aC (by omega),i1];exact⟨rfl,by omega⟩
theorem zR (t:Tab w h T) (hw:w<=6) (hh:h<=6) {K:aR->Int} {s:aL} {r:List aI} (hr:Run K s r) (hm:∀x∈r,x∈T) (hK:∀x∈r,1<=K x.1/\K x.1<=3):cU T s=(r.map (·.1),0):=by
 have hT:=t.tb hw hh;obtain⟨h1,h2⟩:=tK hT t.key r _ hm hr.run;cases r with
 | nil=>exact absurd rfl hr.ne
 | cons x r=>
   obtain⟨g1,g2,g3,g4⟩:=hr.run;have hx:=hm x bM;have hk:=hK x bM;have li:=t.li hx;have:=(tK hT t.key r _ (λy hy=>hm y (bN _ hy)) g4).2;have b:=hT x hx;have a1:=li.k1;have a2:=li.k4;have a3:=li.c0;have a4:=li.c1
   rw[g2] at a1 a2 a3 a4;have ho:OrdP s:=⟨by omega,by omega,a1,a2,by omega,by omega,by omega⟩
   rw[K2 ho,h1]
end
section
variable {w h:Nat} {T:List aI}
theorem zT {k:Int} (hk:1<=k/\k<=3):∀(us:List aR) (out:List aP),OutOK T out->(out.map bI++us).Nodup->(∀v∈us,v∈T.map (·.1))->eZ k out us=some (out++us.map λv=>(v.1,(v.2,k)))
 | [],out,_,_,_=>by simp[eZ]
 | v::us,out,ho,hn,hs=>by
   have hv:aN out v=0:=by
    rw[lB ho];intro hm;rw[sA] at hn;exact hn.2.2 v hm v bM rfl
   have e1:(out++[(v.1,(v.2,k))]).map bI++us=out.map bI++v::us:=by simp[bI]
   rw[eZ,aH hv,zT hk us _ (ho.add hv (hs v bM) hk) (by rw[e1];exact hn) λx hx=>hs x (bN _ hx)];simp
theorem uL (t:Tab w h T) (hw:w<=6) (hh:h<=6) {K:aR->Int}:∀(RS:List (aL×List aI)) (i:Int) (out:List aP),OutOK T out->(∀s∈RS,Run K s.1 s.2)->(∀x∈RS.flatMap (·.2),x∈T/\1<=K x.1/\K x.1<=3)->
  (out.map bI++(RS.flatMap (·.2)).map (·.1)).Nodup->dT T i out (RS.map (·.1))=.inl (out++(RS.flatMap (·.2)).map λx=>(x.1.1,(x.1.2,K x.1)))
 | [],i,out,_,_,_,_=>by simp[dT]
 | s::RS,i,out,ho,hr,hm,hn=>by
   have hs:=hr s bM;rw[jV] at hm hn ⊢;have hm1:∀x∈s.2,x∈T/\1<=K x.1/\K x.1<=3:=λx hx=>hm x (qgn _ hx)
   have hu:=zR t hw hh hs (λx hx=>(hm1 x hx).1) (λx hx=>(hm1 x hx).2);have hK:∀(r:List aI) (p q:Int),mC K s.1.1 s.1.2.1 p r q->∀x∈r,K x.1=s.1.1:=by
    intro r;induction r with
    | nil=>intro p q _ x hx;cases hx
    | cons y r ih=>
      intro p q hr x hx;rcases bK.1 hx with rfl | hx
      ·exact hr.1
      ·exact ih _ _ hr.2.2.2 x hx
   have hK:=hK _ _ _ hs.run;have hk:1<=s.1.1/\s.1.1<=3:=by
    cases hs2:s.2 with
    | nil=>exact absurd hs2 hs.ne
    | cons y r=>
      rw[hs2] at hK hm1;rw[<-hK y bM];exact(hm1 y bM).2
   have hn1:(out.map bI++s.2.map (·.1)).Nodup:=by
    rw[eI,<-dL] at hn;exact(sA.1 hn).1
   have ha:=zT hk (s.2.map (·.1)) out ho hn1 (λv hv=>by obtain⟨x,hx,rfl⟩:=bH.1 hv;exact bH.2 ⟨x,(hm1 x hx).1,rfl⟩);have ho2:=tL hk _ _ _ ho (λv hv=>by obtain⟨x,hx,rfl⟩:=bH.1 hv;exact bH.2 ⟨x,(hm1 x hx).1,rfl⟩) ha;have e2:(s.2.map (·.1)).map (λv:aR=>((v.1,(v.2,s.1.1)):aP))=s.2.map λx=>(x.1.1,(x.1.2,K x.1)):=by
    rw[jF];refine lP λx hx=>?_
    simp only[zC];rw[hK x hx]
   rw[dE,dT,hu];simp only[cK];rw[ha];simp only;rw[uL t hw hh RS _ _ ho2 (λx hx=>hr x (bN _ hx)) (λx hx=>hm x (qgh _ hx)) ?_,e2]
   ·simp
   ·have e3:(out++(s.2.map (·.1)).map (λv:aR=>((v.1,(v.2,s.1.1)):aP))).map bI=out.map bI++s.2.map (·.1):=by
     rw[eI,jF]
     congr 1
     exact(lP λx hx=>rfl).trans (qiq _)
    rw[e3,dL,<-eI];exact hn
end
end X
end Go.Vm
namespace Go.Vm
namespace X
open W
theorem jj8 (x:Int) {n:Int} (hn:0<n): -n<x.tmod n/\x.tmod n<n:=⟨Int.lt_tmod_of_pos x hn,Int.tmod_lt_of_pos x hn⟩
theorem jf8 {p:jN} (h:p.2.2.length<=1000000):Q0 fuel (p,p)=some 0:=by
 apply Ret.eq;unfold Q0;refine dN (λg=>by simp at g) λ_=>?_
 refine aD (λg=>absurd rfl g) λ_=>?_
 refine dK (λi:Int=>0<=i/\i<=p.2.2.length) (λi=>p.2.2.length-i.toNat) ?_ fuel 0 ⟨by omega,by omega⟩ (by simp only[fuel];omega);rintro i rec ⟨i0,i1⟩ hrec;refine aD (λhlt=>?_) λ_=>aW rfl
 have hin:=bG i0 hlt;have hlt:i< (p.2.2.length:Int):=hlt;refine aK hin (aK hin ?_);refine dN (λg=>by simp at g) λ_=>?_
 exact aV (hrec _ ⟨by omega,by omega⟩ (by omega))
end X
end Go.Vm
namespace Go.Vm
namespace X
open W Go.RowKit Go.Proofs.Un
theorem vQ:∀(U:List aR) (A:List Int),((eE U A).map bI).Sublist U
 | [],A=>by cases A<;>exact qhg _
 | u::U,[]=>qhl _
 | u::U,a::A=>by
   by_cases h:a=0
   ·rw[eE,aH h];exact(vQ U A).cons _
   ·rw[eE,aC h,dE];exact(vQ U A).cons_cons _
theorem vP:∀(U:List aR) (A:List Int) (c:aP),c∈eE U A->c.2.2∈A/\c.2.2≠0
 | [],A,c,h=>by cases A<;>cases h
 | u::U,[],c,h=>by cases h
 | u::U,a::A,c,h=>by
   by_cases h0:a=0
   ·rw[eE,aH h0] at h;have:=vP U A c h;exact⟨bN _ this.1,this.2⟩
   ·rw[eE,aC h0] at h;rcases bK.1 h with rfl | h
    ·exact⟨bM,h0⟩
    ·have:=vP U A c h;exact⟨bN _ this.1,this.2⟩
structure PatOK (T:List aI) (cr:List aP):Prop where
 ok:OutOK T cr
 pw:(cr.map bI).Pairwise jR
section
variable {w h:Nat} {T:List aI}
theorem S5 (t:Tab w h T) {A:List Int} (hA:∀a∈A,0<=a/\a<=3):PatOK T (eE (T.map (·.1)) A):=by
 have hs:=vQ (T.map (·.1)) A;refine⟨⟨hs.nodup t.ndU,λc hc=>hs.subset (bH.2 ⟨c,hc,rfl⟩),λc hc=>?_⟩,qgi hs t.asc⟩;have:=vP _ _ _ hc;have:=hA _ this.1;omega
theorem jbr (t:Tab w h T) (hw:1<=w/\w<=6) (hh:1<=h/\h<=6) {cr:List aP} (ho:PatOK T cr):dY T cr=cr:=by
 have hs:=rR t cr;refine xR kG (λx hx y hy h1 h2=>?_) (hs.imp λ{a b} h c=>by rw[oG] at *;omega) ?_ (sK t ho.ok).symm
 ·obtain⟨i,hi,rfl⟩:=fZ hx;obtain⟨j,hj,rfl⟩:=fZ hy;rw[gZ] at hs;rcases rA i j with g | g | g
  ·exact absurd (hs i j hi hj g) h1
  ·subst g;rfl
  ·exact absurd (hs j i hj hi g) h2
 ·have hp:=sW.1 ho.pw;have:cr.Pairwise λa b=>(a∈cr/\b∈cr)/\jR (bI a) (bI b):=by
   rw[gZ] at hp ⊢;exact λi j hi hj hij=>⟨⟨bY _,bY _⟩,hp i j hi hj hij⟩
  refine this.imp λ{a b} ⟨⟨ha,hb⟩,hl⟩ c=>?_
  have m1:=nT t hw hh (ho.ok.sub a ha);have m2:=nT t hw hh (ho.ok.sub b hb);unfold bI at m1 m2;simp only at m1 m2;rw[oG,mK (by omega) (by omega),mK (by omega) (by omega)] at c;unfold jR bI at hl;simp only at hl;omega
theorem jbc {cr:List aP} (ho:PatOK T cr):nN T cr=0:=by
 unfold nN;rw[aH (show ∀c∈cr,iW c from ho.ok.k1),aH ho.ok.sub,aH];intro j hj hjn;have hp:=sW.1 ho.pw;rw[gZ] at hp;exact hp j (j+1) (by omega) hj (by omega)
theorem jcr {RS:List (aL×List aI)} {K:aR->Int} (h:∀s∈RS,Run K s.1 s.2):RS.length<=(RS.flatMap (·.2)).length:=by
 induction RS with
 | nil=>simp
 | cons s RS ih=>
   have h1:=(h s bM).ne;have h2:=ih λx hx=>h x (bN _ hx)
   rw[jV,dG,cM];have:1<=s.2.length:=by
    cases hs:s.2 with
    | nil=>exact absurd hs h1
    | cons y r=>simp
   omega
structure SegOK (T:List aI) (w h:Nat) (cr:List aP) (X:List aL):Prop where
 len:X.length<=1000
 un:∀s∈X,(cU T s).2=0
 sum:(X.map λs=>(cU T s).1.length).sum=cr.length
 pat:iJ T w h X=(((w:Int),((h:Int),cr)),(0,0))
 ng:iS jT X=true
theorem nK (t:Tab w h T) (hw:1<=w/\w<=6) (hh:1<=h/\h<=6) {cr:List aP} (ho:PatOK T cr):SegOK T w h cr (cG T w h (aN cr)):=by
 obtain⟨RS,h1,h2,h3⟩:=jcu t (aN cr);have hm:∀x∈RS.flatMap (·.2),x∈T/\1<=aN cr x.1/\aN cr x.1<=3:=λx hx=>by
  rw[h3,pZ t] at hx;refine⟨hx.1,?_⟩;have hin:x.1∈cr.map bI:=nV λhn=>hx.2 ((lB ho.ok).2 hn)
  obtain⟨c,hc,ec⟩:=bH.1 hin;have:=oL ho.ok.nd hc;rw[ec] at this;rw[this];exact ho.ok.k1 c hc
 have hfl:(fL T w h (aN cr)).length=cr.length:=by
  have:=(vB t ho.ok).length_eq;rw[vA,dM] at this;rw[this];unfold kW;rw[dM]
 have hcl:=ho.ok.len t hw.2 hh.2;have hu:∀s∈RS,cU T s.1=(s.2.map (·.1),0):=λs hs=>by
  have hsub:∀x∈s.2,x∈RS.flatMap (·.2):=λx hx=>kL.2 ⟨s,hs,hx⟩
  exact zR t hw.2 hh.2 (h2 s hs) (λx hx=>(hm x (hsub x hx)).1) λx hx=>(hm x (hsub x hx)).2
 have hnd:((RS.flatMap (·.2)).map (·.1)).Nodup:=by
  rw[h3];unfold fL;have hw2:((fH T w h).map (·.1)).Nodup:=by
   have:=(vO t).map (·.1);exact this.symm.nodup t.ndU
  exact(qhm _ qgx).nodup hw2
 refine⟨?_,?_,?_,?_,jct t _⟩
 ·rw[h1,dM];have:=jcr h2;rw[h3,hfl] at this;omega
 ·intro s hs;rw[h1] at hs;obtain⟨r,hr,rfl⟩:=bH.1 hs;rw[hu r hr]
 ·rw[h1,jF,<-hfl,<-h3,qgy]
  congr 1
  refine lP λs hs=>?_
  simp only[zC];rw[hu s hs,dM]
 ·unfold iJ;rw[h1,uL t hw.2 hh.2 RS 0 [] mQ h2 hm (by simpa using hnd)];simp only[eP];have hout:OutOK T ((RS.flatMap (·.2)).map λx=>((x.1.1,(x.1.2,aN cr x.1)):aP)):=by
   refine sQ (RS.map (·.1)) 0 [] _ mQ ?_;rw[uL t hw.2 hh.2 RS 0 [] mQ h2 hm (by simpa using hnd)];rfl
  have hfe:dY T ((RS.flatMap (·.2)).map λx=>((x.1.1,(x.1.2,aN cr x.1)):aP))=dY T cr:=by
   unfold dY;refine tV λx hx=>?_
   have hk:aN ((RS.flatMap (·.2)).map λx=>((x.1.1,(x.1.2,aN cr x.1)):aP)) x.1=aN cr x.1:=by
    by_cases h0:aN cr x.1=0
    ·rw[h0,lB hout];intro hin;obtain⟨c,hc,ec⟩:=bH.1 hin;obtain⟨y,hy,rfl⟩:=bH.1 hc;have hy2:=hm y hy;have:y.1=x.1:=ec;rw[this,h0] at hy2;omega
    ·have hin:x∈RS.flatMap (·.2):=by rw[h3,pZ t];exact⟨hx,h0⟩
     exact oL hout.nd (c:=(x.1.1,(x.1.2,aN cr x.1))) (bH.2 ⟨x,hin,rfl⟩)
   rw[hk]
  rw[hfe,jbr t hw hh ho]
theorem D3 (t:Tab w h T) (hw:1<=w/\w<=6) (hh:1<=h/\h<=6) {cr:List aP} (ho:PatOK T cr):qJ fuel ((w:Int),((h:Int),cr))=some (cG T w h (aN cr),0):=by
 have hcl:=ho.ok.len t hw.2 hh.2;refine jax t hw hh ?_ ho.ok;rw[jao t hw hh (by omega) λc hc=>(nT t hw hh (ho.ok.sub c hc)).2.2.1,jbc ho]
theorem jgd {a:Int×(Int×List Int)} (h1:0<=a.1) (h3:0<=a.2.1) (hk:∀k∈a.2.2,0<=k):
  ∃w h:Nat,(1<=w/\w<=4)/\(1<=h/\h<=4)/\∀T,Tab w h T->∃cr,PatOK T cr/\sN fuel a=some ((w:Int),((h:Int),cr)):=by
 refine⟨1+ (a.1%4).toNat,1+ (a.2.1%4).toNat,by omega,by omega,λT t=>?_⟩;suffices hs:Ret (sN fuel a) λr=>∃A:List Int,(∀k∈A,0<=k/\k<=3)/\r=(((1+ (a.1%4).toNat:Nat):Int),(((1+ (a.2.1%4).toNat:Nat):Int),eE (T.map (·.1)) A)) by
  obtain⟨r,hr,A,hA,rfl⟩:=hs;exact⟨_,S5 t hA,hr⟩
 have ew:1+a.1%4=((1+ (a.1%4).toNat:Nat):Int):=by omega
 have eh:1+a.2.1%4=((1+ (a.2.1%4).toNat:Nat):Int):=by omega
 generalize hw:1+ (a.1%4).toNat=w at ew t ⊢;generalize hh:1+ (a.2.1%4).toNat=h at eh t ⊢;have bw:1<=w/\w<=6:=by omega
 have bh:1<=h/\h<=6:=by omega
 have hwh:w*h<=6*6:=iK bw.2 bh.2;have e6:6* (w:Int)* (h:Int)=((6* (w*h):Nat):Int):=by simp[wI]
 unfold sN;rw[ew,eh];refine aK (by simp only[aT,aO];omega) (aV (aV (aK (by simp only[aT,aO];omega) (aV (aV (aV (aK (by rw[e6];exact aY (by omega) (by omega)) (aK (by rw[e6];simp only[aT,aO];omega) ?_))))))));have hlen:(List.replicate (α:=Int) (6* (w:Int)* (h:Int)).toNat 0).length=6* (w*h):=by rw[qe3,e6,cZ]
 have fin:∀A:List Int,A.length=6* (w*h)->(∀k∈A,0<=k/\k<=3)->Ret ((uV fuel (((w:Int),(h:Int)),A)).bind λr2=>some (r2.1,(r2.2.1,r2.2.2))) λr=>∃A:List Int,(∀k∈A,0<=k/\k<=3)/\r=((w:Int),((h:Int),eE (T.map (·.1)) A)):=λA hA hA2=>by
  rw[L5 t bw bh (by omega),aB];exact aW ⟨A,hA2,rfl⟩
 refine dK (λs:Int×(List Int×Option Nat)=>0<=s.1/\s.1<=6* (w*h)/\s.2.1.length=6* (w*h)/\∀k∈s.2.1,0<=k/\k<=3) (λs=>6* (w*h)-s.1.toNat) ?_ fuel _ ⟨by omega,by omega,hlen,λk hk=>by have:=(qh2.1 hk).2;omega⟩ (by simp only[fuel];omega);rintro ⟨i,A,cp⟩ rec ⟨i0,i1,hA,hA2⟩ hrec;simp only at i0 i1 hA hA2;refine aD (λg1=>aD (λg2=>?_) λ_=>fin A hA hA2) λ_=>fin A hA hA2
 simp only at g1 g2;have hi:i.toNat<a.2.2.length:=by omega
 have hge:0<=a.2.2.getD i.toNat 0:=by
  rw[gH,dI hi];exact hk _ (bY hi)
 refine aK (bG i0 g2) (aK (by simp only[aT,aO];omega) (aK (bG i0 g1) (aV (hrec _ ⟨by simp only;omega,by simp only;omega,by simp only[sB];exact hA,λk hk=>?_⟩ (by simp only;omega)))));simp only at hk;rcases X8 hk with hk | rfl
 ·exact hA2 k hk
 ·omega
end
theorem T5 (s:Int×Int):gJ fuel s=some 1/\1<=s.1/\1<=s.2\/gJ fuel s=some 0/\iC fuel s=some 1:=by
 by_cases h1:s.1<1
 ·exact .inr ⟨by unfold gJ;simp only[h1,aZ,aF],by unfold iC;simp only[h1,aZ,aF]⟩
 by_cases h2:s.2<1
 ·exact .inr ⟨by unfold gJ;simp only[h1,h2,aZ,bA,aF,aG],by unfold iC;simp only[h1,h2,aZ,bA,aF,aG]⟩
 by_cases h3:256<s.1
 ·exact .inr ⟨by unfold gJ;simp only[h1,h2,h3,aZ,bA,aF,aG],by unfold iC;simp only[h1,h2,h3,aZ,bA,aF,aG]⟩
 by_cases h4:256<s.2
 ·exact .inr ⟨by unfold gJ;simp only[h1,h2,h3,h4,aZ,bA,aF,aG],by unfold iC;simp only[h1,h2,h3,h4,aZ,bA,aF,aG]⟩
 have hb:aM (s.1*s.2)=true:=by
  obtain⟨x,hx⟩:∃x:Nat,s.1=(x:Int):=⟨s.1.toNat,by omega⟩
  obtain⟨y,hy⟩:∃y:Nat,s.2=(y:Int):=⟨s.2.toNat,by omega⟩
  have hxy:x*y<=256*256:=iK (by omega) (by omega);have e:s.1*s.2=((x*y:Nat):Int):=by rw[hx,hy];simp
  rw[e];exact aY (by omega) (by omega)
 by_cases h5:256<s.1*s.2
 ·exact .inr ⟨by unfold gJ;simp only[h1,h2,h3,h4,bA,aG];rw[hb];simp only[aA,h5,aZ,aF],by unfold iC;simp only[h1,h2,h3,h4,bA,aG];rw[hb];simp only[aA,h5,aZ,aF]⟩
 ·exact .inl ⟨by unfold gJ;simp only[h1,h2,h3,h4,bA,aG];rw[hb];simp only[aA,h5,bA,aF,aG],by omega,by omega⟩
set_option maxRecDepth 100000
theorem X4 {T:List aI}:∀(l:List aL) (i:Int) (out:List aP) (j e:Int),dT T i out l=.inr (j,e)->i<=j/\j<=i+l.length/\e≠0
 | [],i,out,j,e,h=>by unfold dT at h;cases h
 | x::l,i,out,j,e,h=>by
   unfold dT at h;have hl:(((x::l).length:Nat):Int)=l.length+1:=by simp
   split at h
   ·split at h
    ·cases h;omega
    ·have:=X4 l _ _ _ _ h;omega
   ·rename_i g;cases h;exact⟨by omega,by omega,g⟩
theorem jiy {w h:Nat} {T:List aI} (t:Tab w h T) (l:List aL):(∃cr,PatOK T cr/\iJ T w h l=(((w:Int),((h:Int),cr)),(0,0)))\/(∃i e:Int,0<=i/\i<=l.length/\e≠0/\iJ T w h l=((0,(0,[])),(i,e))):=by
 unfold iJ;cases e:dT T 0 [] l with
 | inl out=>
   have ho:=sQ l 0 [] out mQ e;refine .inl ⟨dY T out,?_,rfl⟩;have hf:dY T out=eE (T.map (·.1)) (T.map λx=>aN out x.1):=(C2 (aN out) T).symm;rw[hf];refine S5 t λa ha=>?_
   obtain⟨x,_,rfl⟩:=bH.1 ha;by_cases h0:aN out x.1=0
   ·omega
   ·have hin:x.1∈out.map bI:=iQ.1 λg=>h0 ((lB ho).2 g)
    obtain⟨c,hc,ec⟩:=bH.1 hin;have:=oL ho.nd hc;rw[ec] at this;have:=ho.k1 c hc;omega
 | inr r=>
   obtain⟨j,er⟩:=r;have:=X4 l 0 [] j er e;exact .inr ⟨j,er,by omega,by omega,this.2.2,rfl⟩
theorem y9:∀(P:List (List Nat)) (i:Nat) (sh sh':Int×Int) (l l':List bP) (body body':List Nat) (sum:Int),bL i sh l body P=.inr (sh',(l',(sum,body')))->l'.length<=l.length+P.length
 | [],i,sh,sh',l,l',body,body',sum,h=>by rw[bL] at h;cases h
 | [e],i,sh,sh',l,l',body,body',sum,h=>by rw[bL] at h;cases h
 | w::v::ws,i,sh,sh',l,l',body,body',sum,h=>by
   rw[bL] at h;have hl:(w::v::ws).length=(v::ws).length+1:=rfl;split at h
   ·split at h
    ·simp only[v8,bC] at h;rw[<-h.2.1];omega
    ·cases h
   ·split at h
    ·split at h
     ·cases h
     ·have:=y9 _ _ _ _ _ _ _ _ _ h;omega
    ·split at h
     ·cases h
     ·have:=y9 _ _ _ _ _ _ _ _ _ h;simp only[dG,dU] at this;omega
def fR (X:List bP):Nat->List bP->Option Int
 | _,[]=>none
 | i,y::r=>if X[i]?=some y then fR X (i+1) r else some ((i:Int)+2)
theorem jac (a b:bP):(decide (a.1=b.1)&&(decide (a.2.1.1=b.2.1.1)&&(decide (a.2.1.2=b.2.1.2)&&(decide (a.2.2.1=b.2.2.1)&&decide (a.2.2.2=b.2.2.2)))))=decide (a=b):=by
 obtain⟨a1,⟨a2,a3⟩,a4,a5⟩:=a;obtain⟨b1,⟨b2,b3⟩,b4,b5⟩:=b;simp only[bC,qis,qiw]
def rN (q:Int×(Int×List aP)) (c:Option Int):mL:=match c with
 | none=>(q,(0,0))
 | some m=>((0,(0,[])),(m,6))
inductive Dec (s:List Nat):mL->Prop
 | bad (n:Int) (h0:0<n) (h:bL 0 (0,0) [] [] (aJ 10 s)=.inl n):Dec s (kP n)
 | sum (sh:Int×Int) (l:List bP) (sum:Int) (body:List Nat) (h:bL 0 (0,0) [] [] (aJ 10 s)=.inr (sh,(l,(sum,body)))) (h1:sum≠cO body):Dec s ((0,(0,[])),((l.length:Int)+2,10))
 | sheet (sh:Int×Int) (l:List bP) (sum:Int) (body:List Nat) (h:bL 0 (0,0) [] [] (aJ 10 s)=.inr (sh,(l,(sum,body)))) (h1:sum=cO body) (hv:gJ fuel sh=some 0):Dec s ((0,(0,[])),(1,1))
 | pat (w h:Nat) (l:List bP) (sum:Int) (body:List Nat) (hr:bL 0 (0,0) [] [] (aJ 10 s)=.inr (((w:Int),(h:Int)),(l,(sum,body)))) (j er:Int) (h0:0<=j) (h1:er≠0):Dec s ((0,(0,[])),(j+2,er))
 | cmp (w h:Nat) (T:List aI) (t:Tab w h T) (hw:1<=w/\w<=6) (hh:1<=h/\h<=6) (l:List bP) (sum:Int) (body:List Nat) (hr:bL 0 (0,0) [] [] (aJ 10 s)=.inr (((w:Int),(h:Int)),(l,(sum,body)))) (h1:sum=cO body)
    (cr:List aP) (hcr:PatOK T cr) (hpr:iJ T w h l=(((w:Int),((h:Int),cr)),(0,0))):Dec s (rN ((w:Int),((h:Int),cr)) (fR (cG T w h (aN cr)) 0 l))
theorem jbl {s:List Nat} (hs:s.length<=65536) (hB:∀x∈s,x<256) (hp:∀w∈aJ 10 s,w.length<=1000)
  (hsh:∀sh l sum body,bL 0 (0,0) [] [] (aJ 10 s)=.inr (sh,(l,(sum,body)))->sum=cO body->gJ fuel sh=some 0\/∃(w h:Nat) (T:List aI),sh=((w:Int),(h:Int))/\(1<=w/\w<=6)/\(1<=h/\h<=6)/\Tab w h T):
  ∃r,Dec s r/\r.1.2.2.length<=1000/\gY fuel s=some r/\qB fuel s=some r:=by
 have hdv:=E6 (s:=s) (by omega) hp;have htl:=jdh (s:=s) (by omega) hB hp;have hPl:(aJ 10 s).length<=65537:=by have:=(kA 10 s).1;omega
 generalize hP:aJ 10 s=P at hp htl hPl hsh hdv;cases hr:bL 0 (0,0) [] [] P with
 | inl n=>
   have hn:=tB _ _ _ _ _ _ hr;rw[hr] at hdv htl;refine⟨kP n,.bad n (by omega) (by rw[hP];exact hr),by simp[kP],?_,htl⟩;apply Ret.eq;unfold gY;refine aD (λg=>absurd g (by omega)) λ_=>?_
   rw[hdv,aB];exact aD (λ_=>aW rfl) λg=>absurd (show(0:Int)<n by omega) g
 | inr a=>
   obtain⟨sh,l,sum,body⟩:=a;have hll:=y9 _ _ _ _ _ _ _ _ _ hr;obtain⟨lw,_,hsb⟩:=z6 (s:=s) (by rw[hP];exact hr);rw[hr] at hdv htl;have hbl:body.length<=s.length:=by rw[hsb];simp
   have hl:l.length<=70000:=by simp at hll;omega
   have htk:(s.drop 0).take ((body.length:Int)).toNat=body:=by rw[hsb];simp
   have hbB:∀x∈body,x<256:=λx hx=>hB x (by rw[hsb];simp[hx])
   have hsb2:=mI body;have e1:wX fuel body=some (cO body):=B6 (by omega);have e2:rF fuel body=some (cO body):=J0 (by omega) hbB;have told1:qB fuel s=mY fuel (tD l body sum ((l.length:Int)+2) (P.length:Int) sh):=htl;by_cases hsum:sum=cO body
   ·rcases hsh sh l sum body hr hsum with hv | ⟨w,h,T,rfl,hw,hh,t⟩
    ·have hc:iC fuel sh=some 1:=by
      rcases T5 sh with⟨g,_⟩ | ⟨_,g⟩
      ·rw[hv] at g;cases g
      ·exact g
     refine⟨((0,(0,[])),(1,1)),.sheet sh l sum body (by rw[hP];exact hr) hsum hv,by simp,?_,?_⟩
     ·apply Ret.eq;unfold gY;refine aD (λg=>absurd g (by omega)) λ_=>?_
      rw[hdv,aB];simp only[kD];refine aD (λg=>absurd g (by omega)) λ_=>aK (dA.2 ⟨by omega,by omega,by omega⟩) ?_
      rw[htk,e1,aB];refine aV (aD (λg=>absurd hsum g) λ_=>?_);rw[hc,aB];exact aD (λ_=>aW rfl) λg=>absurd (by decide) g
     ·rw[told1];apply Ret.eq;unfold mY tD;simp only;rw[e2,aB];refine aD (λg=>absurd hsum g) λ_=>?_
      rw[hv,aB];exact aD (λ_=>aW rfl) λg=>absurd rfl g
    ·have hc:=mX hw hh;have hv:=ji7 hw hh;have hpo:=jdv t hw hh (l:=l) (by omega);have hro:=ji4 t hw hh (l:=l) (by omega);rcases jiy t l with⟨cr,hcr,hpr⟩ | ⟨j,er,j0,j1,j2,hpr⟩
     ·have hof:=D3 t hw hh hcr;have hcl:=hcr.ok.len t hw.2 hh.2;have hrof:=J2 t hw hh (cr:=cr) (by omega);have hseg:=nK t hw hh hcr;rw[hpr] at hpo hro;have hdec:Dec s (rN ((w:Int),((h:Int),cr)) (fR (cG T w h (aN cr)) 0 l)):=.cmp w h T t hw hh l sum body (by rw[hP];exact hr) hsum cr hcr hpr;generalize cG T w h (aN cr)=X at hof hrof hseg hdec;refine⟨rN ((w:Int),((h:Int),cr)) (fR X 0 l),hdec,by cases fR X 0 l<;>simp[rN];omega,?_,?_⟩
      ·apply Ret.eq;unfold gY;refine aD (λg=>absurd g (by omega)) λ_=>?_
       rw[hdv,aB];simp only[kD];refine aD (λg=>absurd g (by omega)) λ_=>aK (dA.2 ⟨by omega,by omega,by omega⟩) ?_
       rw[htk,e1,aB];refine aV (aD (λg=>absurd hsum g) λ_=>?_);rw[hc,aB];refine aD (λg=>absurd rfl g) λ_=>?_
       rw[hpo,aB];refine aD (λg=>absurd rfl g) λ_=>?_
       rw[hof,aB];refine dK (λp:Int×(Int×(Int×Unit))=>∃i:Nat,p=((i:Int),(0,(0,())))/\i<=l.length/\fR X 0 l=fR X i (l.drop i)) (λp=>l.length-p.1.toNat) ?_ fuel (0,(0,(0,()))) ⟨0,rfl,eJ _,rfl⟩ (by simp only[fuel];omega);rintro _ rec ⟨i,rfl,hi,hcm⟩ ih;simp only at ih ⊢;refine aD (λhlt=>?_) λhge=>?_
       ·have hlt:i<l.length:=by omega
        rw[hZ hlt,fR] at hcm;refine eX (aD (λg=>?_) λg=>?_)
        ·rw[aC (by rw[sR (by omega)];simp)] at hcm;exact aV (aW (by rw[hcm];rfl))
        ·have hx:i<X.length:=by omega
         have conv:∀c:Bool,(!(decide ((X.getD ((i:Int)).toNat (0,((0,0),(0,0)))).1=(l.getD ((i:Int)).toNat (0,((0,0),(0,0)))).1)&&(decide ((X.getD ((i:Int)).toNat (0,((0,0),(0,0)))).2.1.1=(l.getD ((i:Int)).toNat (0,((0,0),(0,0)))).2.1.1)&&(decide ((X.getD ((i:Int)).toNat (0,((0,0),(0,0)))).2.1.2=(l.getD ((i:Int)).toNat (0,((0,0),(0,0)))).2.1.2)&&(decide ((X.getD ((i:Int)).toNat (0,((0,0),(0,0)))).2.2.1=(l.getD ((i:Int)).toNat (0,((0,0),(0,0)))).2.2.1)&&decide ((X.getD ((i:Int)).toNat (0,((0,0),(0,0)))).2.2.2=(l.getD ((i:Int)).toNat (0,((0,0),(0,0)))).2.2.2))))))=c->(!decide (X[i]=l[i]))=c:=λc hcc=>by
          rw[jac,eK hlt,eK hx] at hcc;exact hcc
         refine eX (dN (λg2=>?_) λg2=>?_)
         ·have g2':=conv true g2
          have g3:¬X[i]=l[i]:=by simpa using g2'
          rw[aC (by rw[dI hx];simpa using g3)] at hcm;exact aV (aW (by rw[hcm];rfl))
         ·have g2':=conv false g2
          have g3:X[i]=l[i]:=by simpa using g2'
          rw[aH (by rw[dI hx,g3])] at hcm;exact aV (ih _ ⟨i+1,by simp,hlt,hcm⟩ (by simp only;omega))
       ·have:i=l.length:=by omega
        subst this;rw[kM,fR] at hcm;exact aK (by simp[lM]) (aW (by rw[hcm];rfl))
      ·rw[told1];apply Ret.eq;unfold mY tD;simp only;rw[e2,aB];refine aD (λg=>absurd hsum g) λ_=>?_
       rw[hv,aB];refine aD (λg=>absurd g (by decide)) λ_=>?_
       rw[hro,aB];refine aD (λg=>absurd rfl g) λ_=>?_
       rw[hrof,aB];refine dK (λp:Int×(Int×(Int×Unit))=>∃i:Nat,p=((i:Int),(0,(0,())))/\i<=l.length/\fR X 0 l=fR X i (l.drop i)) (λp=>l.length-p.1.toNat) ?_ fuel (0,(0,(0,()))) ⟨0,rfl,eJ _,rfl⟩ (by simp only[fuel];omega);rintro _ rec ⟨i,rfl,hi,hcm⟩ ih;simp only at ih ⊢;refine aD (λhlt=>?_) λhge=>?_
       ·have hlt:i<l.length:=by omega
        rw[hZ hlt,fR] at hcm;refine aD (λg=>?_) λg=>?_
        ·rw[aC (by rw[sR (by omega)];simp)] at hcm;exact aV (aW (by rw[hcm];rfl))
        ·have hx:i<X.length:=by omega
         rw[eK hlt,eK hx,jac];refine eX (eX (dN (λg2=>?_) λg2=>?_))
         ·have g3:¬X[i]=l[i]:=λg=>by rw[g] at g2;simp at g2
          rw[aC (by rw[dI hx];simpa using g3)] at hcm;exact aV (aW (by rw[hcm];rfl))
         ·have g3:l[i]=X[i]:=by simpa using g2
          rw[aH (by rw[dI hx,g3])] at hcm;exact aV (ih _ ⟨i+1,by simp,hlt,hcm⟩ (by simp only;omega))
       ·have:i=l.length:=by omega
        subst this;rw[kM,fR] at hcm;exact aW (by rw[hcm];rfl)
     ·rw[hpr] at hpo hro;refine⟨((0,(0,[])),(j+2,er)),.pat w h l sum body (by rw[hP];exact hr) j er j0 j2,by simp,?_,?_⟩
      ·apply Ret.eq;unfold gY;refine aD (λg=>absurd g (by omega)) λ_=>?_
       rw[hdv,aB];simp only[kD];refine aD (λg=>absurd g (by omega)) λ_=>aK (dA.2 ⟨by omega,by omega,by omega⟩) ?_
       rw[htk,e1,aB];refine aV (aD (λg=>absurd hsum g) λ_=>?_);rw[hc,aB];refine aD (λg=>absurd rfl g) λ_=>?_
       rw[hpo,aB];exact aD (λ_=>aK (aY (by simp only;omega) (by simp only;omega)) (aW rfl)) λg=>absurd j2 g
      ·rw[told1];apply Ret.eq;unfold mY tD;simp only;rw[e2,aB];refine aD (λg=>absurd hsum g) λ_=>?_
       rw[hv,aB];refine aD (λg=>absurd g (by decide)) λ_=>?_
       rw[hro,aB];exact aD (λ_=>aK (aY (by simp only;omega) (by simp only;omega)) (aW rfl)) λg=>absurd j2 g
   ·refine⟨((0,(0,[])),((l.length:Int)+2,10)),.sum sh l sum body (by rw[hP];exact hr) hsum,by simp,?_,?_⟩
    ·apply Ret.eq;unfold gY;refine aD (λg=>absurd g (by omega)) λ_=>?_
     rw[hdv,aB];simp only[kD];refine aD (λg=>absurd g (by omega)) λ_=>aK (dA.2 ⟨by omega,by omega,by omega⟩) ?_
     rw[htk,e1,aB];exact aV (aD (λ_=>aV (aW rfl)) λg=>absurd hsum g)
    ·rw[told1];apply Ret.eq;unfold mY tD;simp only;rw[e2,aB];exact aD (λ_=>aW rfl) λg=>absurd hsum g
theorem jrm {s:List Nat} (hs:s.length<=65536) (hB:∀x∈s,x<256) (hp:∀w∈aJ 10 s,w.length<=1000)
  (hsh:∀sh l sum body,bL 0 (0,0) [] [] (aJ 10 s)=.inr (sh,(l,(sum,body)))->sum=cO body->gJ fuel sh=some 0\/∃(w h:Nat) (T:List aI),sh=((w:Int),(h:Int))/\(1<=w/\w<=6)/\(1<=h/\h<=6)/\Tab w h T):
  wC fuel s=some true:=by
 obtain⟨r,_,hr,h1,h2⟩:=jbl hs hB hp hsh;apply Ret.eq;unfold wC;rw[h1,h2,aB,aB];refine aD (λ_=>aD (λ_=>?_) λg=>absurd rfl g) λg=>absurd rfl g
 have hd:=jf8 (p:=r.1) (by omega);rw[show((r.1.1,(r.1.2.1,r.1.2.2)):jN)=r.1 from rfl,hd,aB];exact aW rfl
theorem tE {w h:Nat} {T:List aI} (t:Tab w h T) (hw:1<=w/\w<=6) (hh:1<=h/\h<=6) {cr:List aP} (hcr:PatOK T cr):∀x∈cG T w h (aN cr),OkX x:=by
 intro x hx;have hu:=(nK t hw hh hcr).un x hx;have ho:OrdP x:=iQ.1 λg=>by rw[K1 g] at hu;cases hu
 have hT:=t.tb hw.2 hh.2;have hf:¬(64<x.2.2.2\/x.2.2.1 < -64):=λg=>jdi hT g hu
 exact⟨⟨ho.k1,ho.k3,ho.l1,ho.l4,ho.c0,ho.c1,ho.ft⟩,by omega,by omega⟩
def cE (w h:Nat) (X:List bP):List Nat:=(bX++32::bT (w:Int)++32::bT (h:Int)++[10])++(X.map λx=>cN x++[10]).flatten
theorem tS {n:Int} (h0:0<=n) (h:n<1000000000):(bT n).length<=20:=gX 20 _
theorem Z8 {w h:Nat} {T:List aI} (t:Tab w h T) (hw:1<=w/\w<=6) (hh:1<=h/\h<=6) {cr:List aP} (hcr:PatOK T cr):zG fuel ((w:Int),((h:Int),cr))=some (cE w h (cG T w h (aN cr))):=by
 have hx:=tE t hw hh hcr;have hl:=(nK t hw hh hcr).len;have hcl:=hcr.ok.len t hw.2 hh.2;have d1:=tS (n:=(w:Int)) (by omega) (by omega);have d2:=tS (n:=(h:Int)) (by omega) (by omega);have hro:=J2 t hw hh (cr:=cr) (by omega);generalize cG T w h (aN cr)=X at hx hl hro ⊢;apply Ret.eq;unfold zG;simp only;rw[pA (n:=(w:Int)) (by omega) (by omega),aB];refine oS (aK (bJ (by simp;omega)) ?_);rw[pA (n:=(h:Int)) (by omega) (by omega),aB];refine aK (bJ (by simp;omega)) (aK (bJ (by simp;omega)) ?_);rw[hro,aB];refine dK (λp:List Nat×Int=>∃i:Nat,p.2=i/\i<=X.length/\p.1.length<=100+41*i/\p.1++((X.drop i).map λx=>cN x++[10]).flatten=cE w h X) (λp=>X.length-p.2.toNat) ?_ fuel _ ⟨0,rfl,eJ _,by simp;omega,by simp[cE,bX]⟩ (by simp only[fuel];omega);rintro ⟨b,i'⟩ rec ⟨i,e,hi,hb,he⟩ ih;simp only at e hb he ih ⊢;subst e;refine aD (λhlt=>?_) λhge=>?_
 ·have hlt:i<X.length:=by omega
  have hxi:=hx _ (bY hlt);have hsl:=oQ hxi;rw[eK hlt];refine eX ?_;rw[show((X[i].1,((X[i].2.1.1,X[i].2.1.2),(X[i].2.2.1,X[i].2.2.2))):bP)=X[i] from rfl,Z9 hxi,aB];refine oS (aK (bJ (by simp;omega)) (aV (ih _ ⟨i+1,by simp,hlt,by simp;omega,?_⟩ (by simp only;omega))));rw[<-he,hZ hlt,dE,kE];simp only[dL]
 ·have:i=X.length:=by omega
  subst this;rw[kM] at he;exact aW (by rw[<-he];simp)
def cF (s:List Nat):List Nat:=((s++[101,110,100,32])++bT (cO s))++[10]
theorem nG (s:List Nat):(bT (cO s)).length<=20:=gX 20 _
theorem J1 {s:List Nat} (hl:s.length<=1000000) (hB:∀x∈s,x<256):sC fuel s=some (cF s):=by
 have hb:=mI s;have hd:=nG s;apply Ret.eq;unfold sC;refine oS ?_;rw[J0 (by omega) hB,aB,pA (by omega) (by omega),aB];exact aK (bJ (by simp;omega)) (aK (bJ (by simp;omega)) (aW rfl))
end X
end Go.Vm
namespace Go.Vm
namespace X
open W Go.RowKit Go.Proofs.Un Go.Proofs.F11
theorem A8 {x:bP} (hx:OkX x):∀y∈cN x,y<256:=by
 have hv:=hx.vl;have hft:=hx.o.ft;have f0:=hx.f0;have t1:=hx.t1;have n0:=(eA hv.2.2.1 hv.2.2.2).ch;have n1:=(eA (n:=x.2.2.1) (by omega) (by omega)).ch;have n2:=(eA (n:=x.2.2.2) (by omega) (by omega)).ch;have k1:=V0 ⟨hx.o.k1,hx.o.k3⟩;have k2:=V4 ⟨hv.1,hv.2.1⟩;intro y hy;simp only[cN,eY,bO,bK,bW,gS,gQ] at hy;rcases hy with((((((rfl | rfl) | hy) | rfl) | hy) | rfl) | hy)
 ·exact k1.1
 ·omega
 ·rcases hy with rfl | rfl | hy
  ·exact k2.1
  ·omega
  ·have:=n0 y hy;omega
 ·omega
 ·have:=n1 y hy;omega
 ·omega
 ·have:=n2 y hy;omega
theorem sJ {n:Int} (h0:0<=n) (h1:n<9223372036854775808):∀y∈bT n,y<256:=λy hy=>by
 have:=kR (u:=n.toNat) (by omega) y hy;omega
theorem jb2 {X:List bP} (hX:∀x∈X,OkX x):((X.map λx=>cN x++[10]).flatten).length<=41*X.length:=by
 induction X with
 | nil=>simp
 | cons x X ih=>
   have:=ih λy hy=>hX y (bN _ hy)
   have h2:=oQ (hX x bM);rw[dE,kE,dG,dG,dU,cM];omega
theorem b7 {w h:Nat} {X:List bP} (hX:∀x∈X,OkX x) (hl:X.length<=1000):(cE w h X).length<=41100:=by
 have h1:=jb2 hX;have d1:(bT (w:Int)).length<=20:=gX 20 _;have d2:(bT (h:Int)).length<=20:=gX 20 _;unfold cE;rw[dG];have:(bX++32::bT (w:Int)++32::bT (h:Int)++[10]).length<=60:=by simp[bX];omega
 omega
end X
end Go.Vm
namespace Go.Vm
namespace X
open W
theorem jbe:(List.range 256).all (λd=>d==0||Nat.gcd 65521 d==1)=true:=by decide +kernel
theorem wU {d:Nat} (h0:0<d) (h:d<256):Nat.gcd 65521 d=1:=by
 have:=cJ.1 jbe d (fN.2 h);simp only[nW,beq_iff_eq] at this;omega
end X
end Go.Vm
namespace Go.Vm
namespace X
open W Go.RowKit
set_option maxRecDepth 100000
theorem jce {w word:List Nat} {sum:Int} (hw:∀x∈w,x<256) (h:cI w word 1=some [sum]):∃u:Nat,sum=(u:Int)/\u<1000000000/\w=word++32::aX 20 u:=by
 have hj:=K4 hw;have hb:=wN w;unfold cI at h;split at h
 ·rename_i a T e;split at h
  ·rename_i g;obtain⟨g1,g2⟩:=g
   match T,g2 with
   | [v],_=>
     rw[e] at hj hb;simp only[dQ] at h;cases e2:dZ v with
     | none=>rw[e2] at h;cases h
     | some u=>
       rw[e2] at h;obtain⟨n1,n2,n3⟩:=kV.1 e2;have h3:(u:Int)=sum:=by simpa using h
       refine⟨u,h3.symm,n2,?_⟩;have h4:=pJ (w0:=a) (ws:=[]) (w:=v) (hb v (by simp));rw[wB (hb a (by simp))] at h4;have h5:iV ([a]++[v]) [32]=w:=hj;rw[<-h5,h4,g1,n1]
  ·cases h
 ·cases h
end X
end Go.Vm
namespace Go.Vm
namespace X
open W Go.RowKit Go.Proofs.Un
theorem d7 (r:List Nat):∀Ls:List (List Nat),(∀l∈Ls,10∉l)->aJ 10 ((Ls.map λl=>l++[10]).flatten++r)=Ls++aJ 10 r
 | [],_=>rfl
 | l::Ls,h=>by
   have ih:=d7 r Ls λx hx=>h x (bN _ hx)
   rw[dE,kE,show((l++[10])++(Ls.map λl=>l++[10]).flatten)++r=l++10::((Ls.map λl=>l++[10]).flatten++r) by simp,nO (h l bM),ih];rfl
theorem oI {n:Int} (h0:0<=n) (h1:n<9223372036854775808):∀y∈bT n,48<=y/\y<=57:=λy hy=>kR (u:=n.toNat) (by omega) y hy
def fW (w h:Nat):List Nat:=bX++32::bT (w:Int)++32::bT (h:Int)
theorem jcw {x:bP} (hx:OkX x):10∉cN x:=by
 have hv:=hx.vl;have hft:=hx.o.ft;have f0:=hx.f0;have t1:=hx.t1;have n0:=(eA hv.2.2.1 hv.2.2.2).ch;have n1:=(eA (n:=x.2.2.1) (by omega) (by omega)).ch;have n2:=(eA (n:=x.2.2.2) (by omega) (by omega)).ch;have k1:gG x.1≠10:=by
  have hk:x.1=1\/x.1=2\/x.1=3:=by have:=hx.o.k1;have:=hx.o.k3;omega
  unfold gG;rcases hk with e | e | e<;>rw[e]<;>decide
 have k2:fM x.2.1.1≠10:=by
  have hk:x.2.1.1=1\/x.2.1.1=2\/x.2.1.1=3\/x.2.1.1=4:=by have:=hx.o.l1;have:=hx.o.l4;omega
  unfold fM;rcases hk with e | e | e | e<;>rw[e]<;>decide
 intro hy;simp only[cN,eY,bO,bK,bW,gS,gQ] at hy;rcases hy with((((((hy | hy) | hy) | hy) | hy) | hy) | hy)
 ·exact k1 hy.symm
 ·omega
 ·rcases hy with hy | hy | hy
  ·exact k2 hy.symm
  ·omega
  ·have:=n0 10 hy;omega
 ·omega
 ·have:=n1 10 hy;omega
 ·omega
 ·have:=n2 10 hy;omega
end X
end Go.Vm
namespace Go.Vm
namespace X
open W
structure EndAt (t:List Nat) (q:Nat):Prop where
 e:t[q]?=some 101
 n:t[q+1]?=some 110
 d:t[q+2]?=some 100
 s:t[q+3]?=some 32
 dg:∀j c,q+4<=j->t[j]?=some c->c<=57
def eH (c:Nat) (l:List Nat):List Nat:=(aJ c l).headD []
end X
end Go.Vm
namespace Go.Vm
namespace X
open W Go.RowKit Go.Proofs.Un
theorem Z5 {s:List Nat} (hB:∀x∈s,x<256) {sh:Int×Int} {l:List bP} {sum:Int} {body:List Nat} (h:bL 0 (0,0) [] [] (aJ 10 s)=.inr (sh,(l,(sum,body)))):
  ∃u:Nat,sum=(u:Int)/\u<1000000000/\s=body++((bF++32::aX 20 u)++[10]):=by
 obtain⟨lw,h1,h2⟩:=z6 h;obtain⟨u,e1,e2,e3⟩:=jce (λx hx=>hB x (by rw[h2];simp[hx])) h1;exact⟨u,e1,e2,by rw[h2,e3]⟩
theorem kdr {x y:Int} {B:Int} (hx:0<=x/\x<=B) (hy:0<=y/\y<=B):∀i,0<=[x,y].getD i 0/\[x,y].getD i 0<=B:=λi=>by
 match i with
 | 0=>exact hx
 | 1=>exact hy
 | _+2=>exact⟨sZ 0,by show(0:Int)<=B;omega⟩
theorem jfc {w:List Nat} {x:bP} (h:w.length<=1000) (e:gU w=some x):OkX x/\w=cN x:=by
 obtain⟨r,h1,h2⟩:=H6 h;unfold gU at e;rw[h1] at e;simp only at e;rcases h2 with rfl | ⟨h3,h4,h5⟩
 ·rw[aC (by simp)] at e;cases e
 ·rw[aH h3] at e;cases e;rcases sD r.1 with⟨g1,g2⟩ | ⟨_,g2⟩
  ·rw[g2] at h4;cases h4;exact⟨g1,rfl⟩
  ·rw[g2] at h4;cases h4;exact absurd rfl h5
theorem jik {w word:List Nat} {ns:List Int} (hw:∀x∈w,x<256) (h:cI w word 2=some ns):∃u v:Nat,ns=[(u:Int),(v:Int)]/\u<1000000000/\v<1000000000/\w=word++32::aX 20 u++32::aX 20 v:=by
 have hj:=K4 hw;have hb:=wN w;unfold cI at h;split at h
 ·rename_i a T e;split at h
  ·rename_i g;obtain⟨g1,g2⟩:=g
   match T,g2 with
   | [p,q],_=>
     rw[e] at hj hb;simp only[dQ] at h;cases e1:dZ p with
     | none=>rw[e1] at h;cases h
     | some u=>
       cases e2:dZ q with
       | none=>rw[e1,e2] at h;cases h
       | some v=>
         rw[e1,e2] at h;obtain⟨n1,n2,n3⟩:=kV.1 e1;obtain⟨m1,m2,m3⟩:=kV.1 e2;have h3:[(u:Int),(v:Int)]=ns:=by simpa using h
         refine⟨u,v,h3.symm,n2,m2,?_⟩;have h4:=pJ (w0:=a) (ws:=[p]) (w:=q) (hb q (by simp));have h5:=pJ (w0:=a) (ws:=[]) (w:=p) (hb p (by simp));rw[wB (hb a (by simp))] at h5;have h6:iV (([a]++[p])++[q]) [32]=w:=hj;rw[<-h6,show([a]++[p]:List (List Nat))=a::[p] from rfl,h4,show a::[p]=([a]++[p]:List (List Nat)) from rfl,h5,g1,n1,m1]
  ·cases h
 ·cases h
theorem Z4:∀(P:List (List Nat)) (i:Nat),1<=i->(∀w∈P,w.length<=1000)->∀(sh sh':Int×Int) (l l':List bP) (body body':List Nat) (sum:Int),bL i sh l body P=.inr (sh',(l',(sum,body')))->
  ∃X,l'=l++X/\(∀x∈X,OkX x)/\sh'=sh/\body'=body++(X.map λx=>cN x++[10]).flatten
 | [],i,hi,hp,sh,sh',l,l',body,body',sum,h=>by rw[bL] at h;cases h
 | [e],i,hi,hp,sh,sh',l,l',body,body',sum,h=>by rw[bL] at h;cases h
 | w::v::ws,i,hi,hp,sh,sh',l,l',body,body',sum,h=>by
   rw[bL,aC (by omega)] at h;split at h
   ·split at h
    ·simp only[v8,bC] at h;obtain⟨e1,e2,e3,e4⟩:=h;exact⟨[],by rw[<-e2];simp,(λx hx=>by cases hx),e1.symm,by rw[<-e4];simp⟩
    ·cases h
   ·rw[aC (by omega)] at h;split at h
    ·cases h
    ·rename_i x hx;obtain⟨X,e1,e2,e3,e4⟩:=Z4 (v::ws) (i+1) (by omega) (λy hy=>hp y (bN _ hy)) _ _ _ _ _ _ _ h;obtain⟨g1,g2⟩:=jfc (hp w bM) hx;refine⟨x::X,by rw[e1];simp,λy hy=>?_,e3,?_⟩
     ·rcases bK.1 hy with rfl | hy
      ·exact g1
      ·exact e2 y hy
     ·rw[e4,dE,kE,g2];simp
theorem jco {s:List Nat} (hB:∀x∈s,x<256) (hp:∀w∈aJ 10 s,w.length<=1000) {sh:Int×Int} {l:List bP} {sum:Int} {body:List Nat} (h:bL 0 (0,0) [] [] (aJ 10 s)=.inr (sh,(l,(sum,body)))):
  ∃u v z:Nat,sh=((u:Int),(v:Int))/\u<1000000000/\v<1000000000/\(∀x∈l,OkX x)/\body=cE u v l/\sum=(z:Int)/\z<1000000000/\s=body++((bF++32::aX 20 z)++[10])/\∃ws,aJ 10 s=(bX++32::aX 20 u++32::aX 20 v)::ws:=by
 obtain⟨z,e1,e2,e3⟩:=Z5 hB h;have hm:=oH 10 s;generalize hP:aJ 10 s=P at h hp hm
 match P,h,hp,hP,hm with
 | [],h,_,_,_=>rw[bL] at h;cases h
 | [e],h,_,_,_=>rw[bL] at h;cases h
 | w::v::ws,h,hp,hP,hm=>
   rw[bL] at h;simp only[cK] at h;split at h
   ·cases h
   ·rename_i ns hns;obtain⟨p,q,f1,f2,f3,f4⟩:=jik (λx hx=>hB x (hm w bM x hx)) hns;obtain⟨X,g1,g2,g3,g4⟩:=Z4 (v::ws) 1 (bQ _) (λy hy=>hp y (bN _ hy)) _ _ _ _ _ _ _ h;refine⟨p,q,z,?_,f2,f3,?_,?_,e1,e2,e3,v::ws,by rw[f4]⟩
    ·rw[g3,f1];rfl
    ·rw[g1];exact g2
    ·rw[g4,g1,f4];simp[cE,bT]
set_option maxRecDepth 100000
theorem jmb {w h:Nat} (hw:w<=1000000) (hh:h<=1000000):10∉fW w h:=by
 have d1:=oI (n:=(w:Int)) (by omega) (by omega);have d2:=oI (n:=(h:Int)) (by omega) (by omega);intro hy;simp only[fW,bX,bO,bK,gS,gQ] at hy;rcases hy with(hy | hy | hy) | hy | hy
 ·omega
 ·omega
 ·have:=d1 10 hy;omega
 ·omega
 ·have:=d2 10 hy;omega
theorem D7 (w h:Nat) (X:List bP):cE w h X=(fW w h++[10])++(X.map λx=>cN x++[10]).flatten:=by
 simp[cE,fW]
theorem jhj {b:Nat} (hb6:b<=6) (tab:∀w h:Nat,(1<=w/\w<=b)->(1<=h/\h<=b)->∃T,Tab w h T) {s:List Nat} (hB:∀x∈s,x<256) (hp:∀w∈aJ 10 s,w.length<=1000)
  (hf:∀u v:Nat,u<1000000000->v<1000000000->eH 10 s=bX++32::aX 20 u++32::aX 20 v->(∃ws,aJ 10 s=eH 10 s::ws)->u<=b/\v<=b):
  ∀sh l sum body,bL 0 (0,0) [] [] (aJ 10 s)=.inr (sh,(l,(sum,body)))->sum=cO body->gJ fuel sh=some 0\/∃(w h:Nat) (T:List aI),sh=((w:Int),(h:Int))/\(1<=w/\w<=6)/\(1<=h/\h<=6)/\Tab w h T:=by
 intro sh l sum body hr _;obtain⟨u,v,z,rfl,h2,h3,h4,h5,h6,h7,h8,ws,h9⟩:=jco hB hp hr;have hd:eH 10 s=bX++32::aX 20 u++32::aX 20 v:=by unfold eH;rw[h9];rfl
 obtain⟨g1,g2⟩:=hf u v h2 h3 hd ⟨ws,by rw[hd];exact h9⟩;rcases T5 ((u:Int),(v:Int)) with⟨_,q1,q2⟩ | ⟨q,_⟩
 ·simp only at q1 q2;obtain⟨T,t⟩:=tab u v (by omega) (by omega);exact .inr ⟨u,v,T,rfl,by omega,by omega,t⟩
 ·exact .inl q
structure GoodLn (b:Nat) (l:List Nat):Prop where
 len:l.length<=60
 by':∀x∈l,x<256
 nl:10∉l
 hd:∀u v:Nat,u<1000000000->v<1000000000->l=bX++32::aX 20 u++32::aX 20 v->u<=b/\v<=b
def gO (Ls:List (List Nat)):List Nat:=(Ls.map λl=>l++[10]).flatten
theorem jl6 {b:Nat}:∀ {Ls:List (List Nat)},(∀l∈Ls,GoodLn b l)->(gO Ls).length<=61*Ls.length
 | [],_=>by simp[gO]
 | l::Ls,h=>by
   have h1:=jl6 λx hx=>h x (bN _ hx)
   have h2:=(h l bM).len;unfold gO at h1 ⊢;rw[dE,kE,dG,dG,dU,cM];omega
theorem jzz {b:Nat} {Ls:List (List Nat)} (h:∀l∈Ls,GoodLn b l):∀x∈gO Ls,x<256:=by
 intro x hx;obtain⟨l,hl,hx⟩:=qgt.1 hx;obtain⟨y,hy,rfl⟩:=bH.1 hl;rcases bO.1 hx with hx | hx
 ·exact(h y hy).by' x hx
 ·simp at hx;omega
theorem jsx {b:Nat} (hb6:b<=6) (tab:∀w h:Nat,(1<=w/\w<=b)->(1<=h/\h<=b)->∃T,Tab w h T) {Ls:List (List Nat)} (h:∀l∈Ls,GoodLn b l) (hl:Ls.length<=1050):wC fuel (gO Ls)=some true:=by
 have hlen:=jl6 h;have hB:=jzz h;have hc:aJ 10 (gO Ls)=Ls++[[]]:=by
  have:=d7 [] Ls λl hl=>(h l hl).nl
  rw[jW] at this;exact this
 have hp:∀w∈aJ 10 (gO Ls),w.length<=1000:=by
  rw[hc];intro w hw;rcases bO.1 hw with hw | hw
  ·have:=(h w hw).len;omega
  ·rw[bW.1 hw];exact eJ _
 refine jrm (by omega) hB hp (jhj hb6 tab hB hp λu v hu hv e _=>?_);unfold eH at e;rw[hc] at e;cases Ls with
 | nil=>
   have e:([]:List Nat)=bX++32::aX 20 u++32::aX 20 v:=e;simp[bX] at e
 | cons l Ls=>exact(h l bM).hd u v hu hv e
theorem U1 {u:Nat} (hu:u<9223372036854775808):32∉aX 20 u:=λg=>by have:=kR hu 32 g;omega
theorem jd7 {u v:Nat} (hu:u<1000000000) (hv:v<1000000000) (r:List Nat):aJ 32 (bX++32::aX 20 u++32::(aX 20 v++r))=bX::aX 20 u::(match aJ 32 r with
  | w::ws=>(aX 20 v++w)::ws
  | []=>[]):=by
 have e:bX++32::aX 20 u++32::(aX 20 v++r)=bX++32::(aX 20 u++32::(aX 20 v++r)):=by simp
 rw[e,nO (by decide),nO (U1 (by omega))]
 congr 2
 have hn:=U1 (u:=v) (by omega);generalize aX 20 v=l at hn;induction l with
 | nil=>
   cases h:aJ 32 r with
   | nil=>exact absurd h (jH 32 r)
   | cons w ws=>simp[h]
 | cons x l ih=>
   have hx:x≠32:=λe=>hn (e▸bM)
   rw[fB,aJ,aC hx,ih λg=>hn (bN _ g)];cases h:aJ 32 r with
   | nil=>exact absurd h (jH 32 r)
   | cons w ws=>rfl
theorem L9 {u v:Nat} (hu:u<1000000000) (hv:v<1000000000):aJ 32 (bX++32::aX 20 u++32::aX 20 v)=[bX,aX 20 u,aX 20 v]:=by
 have:=jd7 hu hv [];rw[jW] at this;rw[this];simp[aJ]
theorem jmc {w h b:Nat} (hb6:b<=6) (hw:w<=b) (hh:h<=b):GoodLn b (fW w h):=by
 have d1:(bT (w:Int)).length<=20:=gX 20 _;have d2:(bT (h:Int)).length<=20:=gX 20 _;have c1:=sJ (n:=(w:Int)) (by omega) (by omega);have c2:=sJ (n:=(h:Int)) (by omega) (by omega);refine⟨by simp[fW,bX];omega,λy hy=>?_,jmb (by omega) (by omega),λu v hu hv e=>?_⟩
 ·simp only[fW,bX,bO,bK,gS,gQ] at hy;rcases hy with(hy | hy | hy) | hy | hy
  ·omega
  ·omega
  ·exact c1 y hy
  ·omega
  ·exact c2 y hy
 ·have h1:aJ 32 (fW w h)=[bX,aX 20 w,aX 20 h]:=by
   have:=L9 (u:=w) (v:=h) (by omega) (by omega);exact this
  have h2:=L9 hu hv;rw[<-e,h1] at h2;simp only[pO,rD,true_and] at h2;have e1:=yH (by omega) (by omega) h2.1;have e2:=yH (by omega) (by omega) h2.2;omega
theorem kdw {w h b:Nat} (hb6:b<=6) (hw:w<=b) (hh:h<=b):GoodLn b (fW w h++[32]):=by
 have g:=jmc (w:=w) (h:=h) hb6 hw hh;have d1:(bT (w:Int)).length<=20:=gX 20 _;have d2:(bT (h:Int)).length<=20:=gX 20 _;refine⟨by simp[fW,bX];omega,λy hy=>?_,λhy=>?_,λu v hu hv e=>?_⟩
 ·rcases bO.1 hy with hy | hy
  ·exact g.by' y hy
  ·simp at hy;omega
 ·rcases bO.1 hy with hy | hy
  ·exact g.nl hy
  ·simp at hy
 ·exfalso;have h1:=jd7 (u:=w) (v:=h) (by omega) (by omega) [32];have h2:=L9 hu hv;rw[<-e] at h2;have e3:fW w h++[32]=bX++32::aX 20 w++32::(aX 20 h++[32]):=by simp[fW,bT]
  rw[e3,h1] at h2;have:=congrArg List.length h2;simp[aJ] at this
theorem jje {x:bP} (b:Nat) (hx:OkX x) (r:List Nat) (hr:r=[]\/r=[32]):GoodLn b (cN x++r):=by
 have hl:=oQ hx;refine⟨by rcases hr with rfl | rfl<;>simp<;>omega,λy hy=>?_,λhy=>?_,λu v hu hv e=>?_⟩
 ·rcases bO.1 hy with hy | hy
  ·exact A8 hx y hy
  ·rcases hr with rfl | rfl<;>simp at hy
   omega
 ·rcases bO.1 hy with hy | hy
  ·exact jcw hx hy
  ·rcases hr with rfl | rfl<;>simp at hy
 ·exfalso;have:=congrArg (λl=>l[1]?) e;simp[cN,bX] at this
theorem jlw {n:Int} (b:Nat) (h0:0<=n) (h1:n<1000000000):GoodLn b (bF++32::bT n):=by
 have d1:(bT n).length<=20:=gX 20 _;have c1:=oI (n:=n) (by omega) (by omega);refine⟨by simp[bF];omega,λy hy=>?_,λhy=>?_,λu v hu hv e=>?_⟩
 ·simp only[bF,bO,bK,gS,gQ] at hy;rcases hy with hy | hy | hy
  ·omega
  ·omega
  ·have:=c1 y hy;omega
 ·simp only[bF,bO,bK,gS,gQ] at hy;rcases hy with hy | hy | hy
  ·omega
  ·omega
  ·have:=c1 10 hy;omega
 ·exfalso;have:=congrArg (λl=>l[0]?) e;simp[bF,bX] at this
theorem j1u (b:Nat):GoodLn b []:=by
 refine⟨by simp,(λy hy=>by cases hy),by simp,λu v hu hv e=>?_⟩;exfalso;simp[bX] at e
theorem jef (Ls:List (List Nat)) (l:List Nat):gO (Ls++[l])=gO Ls++(l++[10]):=by simp[gO]
theorem j83 {x:Int×(Int×(Int×(Int×Int)))} (h1:0<=x.1) (h2:0<=x.2.1) (h3:0<=x.2.2.2.1) (h4:0<=x.2.2.2.2):∃r,jm0 fuel x=some r/\OkX r:=by
 have a1:=jj8 x.2.2.2.1 (n:=12) (by omega);have a2:=jj8 x.2.2.1 (n:=9) (by omega);have a3:=jj8 x.2.2.2.2 (n:=10) (by omega);have a4:=jj8 x.1 (n:=3) (by omega);have a5:=jj8 x.2.1 (n:=4) (by omega);have b1:=qht (12:Int) h3;have b3:=qht (10:Int) h4;have b4:=qht (3:Int) h1;have b5:=qht (4:Int) h2;unfold jm0;rw[aY (by omega) (by omega),aY (by omega) (by omega),aY (by omega) (by omega),aY (by omega) (by omega),aY (by omega) (by omega)];refine⟨_,rfl,⟨?_,?_,?_,?_,?_,?_,?_⟩,?_,?_⟩<;>simp only[oA]<;>omega
theorem jlc (w h:Nat) (X:List bP):cE w h X=gO (fW w h::X.map cN):=by
 simp[D7,gO,jF,qhh]
theorem khx {b:Nat} (hb6:b<=6) (tab:∀w h:Nat,(1<=w/\w<=b)->(1<=h/\h<=b)->∃T,Tab w h T) {w h:Nat} {T:List aI} (t:Tab w h T) (hw:1<=w/\w<=b) (hh:1<=h/\h<=b) {cr:List aP} (hcr:PatOK T cr) {a:Int×(Int×List Int)} (ha:sN fuel a=some ((w:Int),((h:Int),cr)))
  {z:List Int} (hz:∀i,0<=z.getD i 0/\z.getD i 0<=255) {g:Int×(Int×(Int×(Int×Int)))} (g1:0<=g.1) (g2:0<=g.2.1) (g3:0<=g.2.2.2.1) (g4:0<=g.2.2.2.2):jm2 fuel (a,(z,g))=some true:=by
 have hw6:1<=w/\w<=6:=by omega
 have hh6:1<=h/\h<=6:=by omega
 have hX:=tE t hw6 hh6 hcr;have hl:=(nK t hw6 hh6 hcr).len;have hrb:=Z8 t hw6 hh6 hcr;generalize cG T w h (aN cr)=X at hX hl hrb;have hbl:=b7 (w:=w) (h:=h) hX hl;obtain⟨r,hr,hrx⟩:=j83 g1 g2 g3 g4;have hG0:=jmc (w:=w) (h:=h) hb6 hw.2 hh.2;have hLg:∀l∈fW w h::X.map cN,GoodLn b l:=λl hl=>by
  rcases bK.1 hl with rfl | hl
  ·exact hG0
  ·obtain⟨x,hx,rfl⟩:=bH.1 hl;have:=jje b (hX x hx) [] (.inl rfl);rwa[jW] at this
 have hSg:∀l∈fW w h::X.map cN,GoodLn b (l++[32]):=λl hl=>by
  rcases bK.1 hl with rfl | hl
  ·exact kdw hb6 hw.2 hh.2
  ·obtain⟨x,hx,rfl⟩:=bH.1 hl;exact jje b (hX x hx) [32] (.inr rfl)
 have hcut:aJ 10 (cE w h X)=(fW w h::X.map cN)++[[]]:=by
  have:=d7 [] (fW w h::X.map cN) λl hl=>(hLg l hl).nl
  rw[jW] at this;rw[jlc];exact this
 have hn:(fW w h::X.map cN).length=X.length+1:=by simp
 generalize fW w h::X.map cN=Ls at hLg hSg hcut hn;have hro:=J1 (s:=cE w h X) (by omega);have hog:GoodLn b (cN r):=by have:=jje b hrx [] (.inl rfl);rwa[jW] at this
 have hor:=Z9 hrx;generalize cN r=other at hog hor;obtain⟨R,hR⟩:∃R,R=Ls++[[]]:=⟨_,rfl⟩
 have hRg:∀l∈R,GoodLn b l:=λl hl=>by
  rw[hR] at hl;rcases bO.1 hl with hl | hl
  ·exact hLg l hl
  ·rw[bW.1 hl];exact j1u b
 obtain⟨n,hn2⟩:∃n,n=X.length+1:=⟨_,rfl⟩
 have hRl:R.length=n+1:=by rw[hR,dG,hn,hn2];rfl
 have hRS:∀(i:Nat),i<n->GoodLn b (R.getD i []++[32]):=λi hi=>by
  have hil:i<Ls.length:=by omega
  have e:R.getD i []=Ls[i]:=by
   rw[gH,hR,P2 (by omega),dI (by omega)];rfl
  rw[e];exact hSg _ (bY _)
 have hRi:∀(i:Nat),GoodLn b (R.getD i []):=λi=>by
  by_cases hi:i<R.length
  ·rw[gH,dI hi];exact hRg _ (bY hi)
  ·rw[gH,sR (by omega)];exact j1u b
 have z0:=hz 0;have z1:=hz 1;obtain⟨i,hi,hi2⟩:∃i:Nat,z.getD 0 0% (n:Int)=(i:Int)/\i<n:=by
  have h1:=qir (z.getD 0 0) (b:=(n:Int)) (by omega);have h2:=qh3 (z.getD 0 0) (b:=(n:Int)) (by omega);exact⟨(z.getD 0 0% (n:Int)).toNat,by omega,by omega⟩
 have nb:(n:Int)<=1001:=by omega
 have en:((R.length:Nat):Int)-1=(n:Int):=by omega
 have hlc:=sO (s:=cE w h X) (c:=10) (by omega);rw[show((10:Nat):Int)=10 from rfl] at hlc;apply Ret.eq;unfold jm2;simp only;rw[show(a.1,(a.2.1,a.2.2))=a from rfl,ha,aB];simp only;rw[hrb,aB,hlc,aB,hcut,<-hR,en];simp only[cZ];rw[show(g.1,(g.2.1,(g.2.2.1,(g.2.2.2.1,g.2.2.2.2))))=g from rfl,hr,aB,show(r.1,((r.2.1.1,r.2.1.2),(r.2.2.1,r.2.2.2)))=r from rfl,hor,aB];have ei1:((i:Int)+1).toNat=i+1:=by omega
 simp only[hi,cZ,lH,mG,fY,eP,ei1];have lt:∀k,(R.take k).length<=n+1:=λk=>by rw[mU];omega
 have ld:∀k m,((R.drop k).take m).length<=n+1:=λk m=>by rw[mU,mT];omega
 have gt:∀ {l:List (List Nat)},(∀y∈l,GoodLn b y)->∀k,∀y∈l.take k,GoodLn b y:=λh k y hy=>h y (yZ hy)
 have gd:∀ {l:List (List Nat)},(∀y∈l,GoodLn b y)->∀k,∀y∈l.drop k,GoodLn b y:=λh k y hy=>h y (uR hy)
 have ga:∀ {l m:List (List Nat)},(∀y∈l,GoodLn b y)->(∀y∈m,GoodLn b y)->∀y∈l++m,GoodLn b y:=λh1 h2 y hy=>(bO.1 hy).elim (h1 y) (h2 y)
 have gs:∀ {l:List (List Nat)} {v:List Nat},(∀y∈l,GoodLn b y)->GoodLn b v->∀k,∀y∈l.set k v,GoodLn b y:=λh hv k y hy=>(X8 hy).elim (h y) λe=>e▸hv
 refine aV (aK (dA.2 ⟨by omega,by omega,by omega⟩) (aV (aK (by simp only[aT,aO];omega) (aK (by simp only[aT,aO];omega) ?_))));refine oU (λx6=>(∀y∈x6,GoodLn b y)/\x6.length<=1005) (λx6 hx6=>?_) λj6 hj6=>?_
 ·obtain⟨hg6,hl6⟩:=hx6;have hfl:=jl6 hg6;have hfb:=jzz hg6;have hsc:=mI (gO x6);have eg:=jlw (n:=cO (gO x6)) b (by omega) (by omega);have eg1:=jlw (n:=1) b (by omega) (by omega);have hE:cF (gO x6)=gO (x6++[bF++32::bT (cO (gO x6))]):=by
   rw[jef];simp[cF,bF]
  have hE1:cF (gO x6)++[101,110,100,32,49,10]=gO ((x6++[bF++32::bT (cO (gO x6))])++[bF++32::bT 1]):=by
   rw[jef,<-hE];have:bT 1=[49]:=by decide
   rw[this];simp[bF]
  have hgE:=ga hg6 (m:=[bF++32::bT (cO (gO x6))]) (λy hy=>by rw[bW.1 hy];exact eg);have hgE1:=ga hgE (m:=[bF++32::bT 1]) (λy hy=>by rw[bW.1 hy];exact eg1);have r1:=jsx hb6 tab hgE (by rw[dG,dU];omega);have r2:=jsx hb6 tab hg6 (by omega);have r3:=jsx hb6 tab hgE1 (by rw[dG,dG,dU,dU];omega);rw[<-hE] at r1;rw[<-hE1] at r3;have hel:(cF (gO x6)).length<=70000:=by
   have:=nG (gO x6);simp[cF];omega
  refine dK (λp:List Nat×Int=>∃k:Nat,p.2=k/\k<=x6.length/\p.1=gO (x6.take k)) (λp=>x6.length-p.2.toNat) ?_ fuel ([],0) ⟨0,rfl,eJ _,by simp[gO]⟩ (by simp only[fuel];omega);rintro ⟨s,k'⟩ rec ⟨k,e,hk,hs⟩ ih;simp only at e hs ih ⊢;subst e;have hsl:=jl6 (gt hg6 k);rw[<-hs] at hsl;have hsl2:(x6.take k).length<=x6.length:=by rw[mU];omega
  refine aD (λhlt=>?_) λhge=>?_
  ·have hlt:k<x6.length:=by omega
   have hy:=hg6 _ (bY hlt);have hyl:=hy.len;rw[eK hlt];refine eX (oS (aK (bJ (by rw[dG,dU];omega)) (aV (ih _ ⟨k+1,by simp,hlt,?_⟩ (by simp only;omega)))));rw[hs,sU,dI hlt,lQ,jef]
  ·have:k=x6.length:=by omega
   subst this;rw[iY] at hs;subst hs;rw[J1 (by omega) hfb,aB,r1,aB];refine dN (λ_=>?_) λg=>by cases g
   rw[r2,aB];refine dN (λ_=>?_) λg=>by cases g
   rw[aB];refine oS ?_;rw[r3,aB];exact dN (λ_=>N8) λg=>by cases g
 ·have ib:∀ {k m:Nat},k<m->aU (k:Int) m=true:=λh=>bG (by omega) (by omega)
  have i1:aU ((i:Int)+1) n=true\/¬(i:Int)+1< (n:Int):=by
   by_cases h:(i:Int)+1< (n:Int)
   ·exact .inl (bG (by omega) h)
   ·exact .inr h
  refine aD (λ_=>aK (ib hi2) (aK rfl (hj6 _ ⟨gt (gs hRg hog i) n,?_⟩))) λ_=>?_
  ·rw[mU];omega
  refine oU (λx6=>(∀y∈x6,GoodLn b y)/\x6.length<=1005) (λx hx=>hj6 x hx) λj7 hj7=>?_
  refine aD (λ_=>?_) λ_=>?_
  ·have l1:=lt i;have l2:=ld (i+1) (n-(i+1));have l3:(R.take i++(R.drop (i+1)).take (n-(i+1))).length<=1005:=by
    rw[dG,mU,mU,mT];omega
   refine aK (dA.2 ⟨by omega,by omega,by omega⟩) (qR (aV (aK (dA.2 ⟨by omega,by omega,by omega⟩) (qR (hj7 _ ⟨ga (gt hRg i) (gt (gd hRg (i+1)) _),l3⟩)))))
  refine oU (λx6=>(∀y∈x6,GoodLn b y)/\x6.length<=1005) (λx hx=>hj7 x hx) λj8 hj8=>?_
  refine aD (λ_=>?_) λ_=>?_
  ·have l1:=lt (i+1);have l2:=ld i (n-i);have l3:(R.take (i+1)++(R.drop i).take (n-i)).length<=1005:=by
    rw[dG,mU,mU,mT];omega
   refine aV (aK (dA.2 ⟨by omega,by omega,by omega⟩) (qR (aK (dA.2 ⟨by omega,by omega,by omega⟩) (qR (hj8 _ ⟨ga (gt hRg (i+1)) (gt (gd hRg i) _),l3⟩)))))
  refine oU (λx6=>(∀y∈x6,GoodLn b y)/\x6.length<=1005) (λx hx=>hj8 x hx) λj9 hj9=>?_
  refine aD (λ_=>?_) λ_=>?_
  ·refine aV ?_;refine oU (λx=>(∀y∈x.1,GoodLn b y)/\x.1.length<=1005) (λx hx=>aK rfl (hj9 _ ⟨gt hx.1 n,by rw[mU];omega⟩)) λj10 hj10=>?_
   refine aD (λg=>?_) λ_=>hj10 _ ⟨hRg,by simp only;omega⟩
   refine aV (aV (aK (bG (by omega) g) (aK (ib hi2) (aK (ib hi2) (aK (bG (by omega) g) (hj10 _ ⟨gs (gs hRg (hRi _) _) (hRi _) _,?_⟩))))));simp only[sB];omega
  refine oU (λx6=>(∀y∈x6,GoodLn b y)/\x6.length<=1005) (λx hx=>hj9 x hx) λj11 hj11=>?_
  refine aD (λ_=>?_) λ_=>?_
  ·have l1:=lt i;have l2:=ld i (n-i);have l3:((R.take i++[other])++(R.drop i).take (n-i)).length<=1005:=by
    rw[dG,dG,dU,mU,mU,mT];omega
   refine aK (dA.2 ⟨by omega,by omega,by omega⟩) (aK (dA.2 ⟨by omega,by omega,by omega⟩) (qR (qR (aK (gC (by rw[dG,dU];omega)) (hj11 _ ⟨ga (ga (gt hRg i) λy hy=>by rw[bW.1 hy];exact hog) (gt (gd hRg i) _),l3⟩)))))
  ·have l4:=(hRi i).len;exact aK (ib hi2) (oS (aK (ib hi2) (aK rfl (hj11 _ ⟨gt (gs hRg (hRS i hi2) i) n,by rw[mU];omega⟩))))
theorem j80 (tab:∀w h:Nat,(1<=w/\w<=4)->(1<=h/\h<=4)->∃T,Tab w h T) {a:Int×(Int×List Int)} (h1:0<=a.1) (h3:0<=a.2.1) (hk:∀k∈a.2.2,0<=k) {z:List Int} (hz:∀i,0<=z.getD i 0/\z.getD i 0<=255)
  {g:Int×(Int×(Int×(Int×Int)))} (g1:0<=g.1) (g2:0<=g.2.1) (g3:0<=g.2.2.2.1) (g4:0<=g.2.2.2.2):jm2 fuel (a,(z,g))=some true:=by
 obtain⟨w,h,hw,hh,H⟩:=jgd h1 h3 hk;obtain⟨T,t⟩:=tab w h (by omega) (by omega);obtain⟨cr,ho,ha⟩:=H T t;exact khx (b:=4) (by omega) tab t (by omega) (by omega) ho ha hz g1 g2 g3 g4
end X
end Go.Vm
namespace Go.Vm
namespace X
theorem jde (w h:Nat) (hw:1<=w/\w<=4) (hh:1<=h/\h<=4):∃T,Tab w h T:=by
 rcases(by omega:w=1\/w=2\/w=3\/w=4) with e | e | e | e<;>rcases(by omega:h=1\/h=2\/h=3\/h=4) with f | f | f | f<;>subst e<;>subst f
 ·exact⟨_,jp6⟩
 ·exact⟨_,jp7⟩
 ·exact⟨_,jp8⟩
 ·exact⟨_,jp9⟩
 ·exact⟨_,jqa⟩
 ·exact⟨_,jqb⟩
 ·exact⟨_,jqc⟩
 ·exact⟨_,jqd⟩
 ·exact⟨_,jqe⟩
 ·exact⟨_,jqf⟩
 ·exact⟨_,jqg⟩
 ·exact⟨_,jqh⟩
 ·exact⟨_,jqi⟩
 ·exact⟨_,jqj⟩
 ·exact⟨_,jqk⟩
 ·exact⟨_,jql⟩
end X
end Go.Vm
