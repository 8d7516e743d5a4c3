/- Parts of the proof. -/
import Derived.Test.YtccefhabickfiaaGreatDoorXG6
import Derived.Deep.Slices
import Derived.Test.YtccefhabickfiaaGreatDoorVmY4
import Derived.Laws.IdiomArrays
set_option linter.unusedSimpArgs false
set_option linter.defProp false
set_option linter.unusedVariables false
namespace Go.Vm
namespace X
open W
variable {B:Base} {memo:dX} {prog:Tr CFn} {ro:Nat} {O:List Ent} {H:Tr Blk} {nx:Nat} {F:aQ}
def zA (h:HK B ro O H nx) {nx':Nat} (hn:nx<=nx'):HK B ro O H nx':=
 ⟨h.r0,by have:=h.r1;omega,h.base,λe he=>⟨by have:=(h.ent e he).1;omega,(h.ent e he).2⟩,h.nd⟩
def wF {t:TE} (h:∀a r,t.run a=some r->∀ro O H nx,HK B ro O H nx->∀A:aQ,(∀x∈A,Has O x.1 x.2\/iW B x)->∀vs,lT A t.ins a vs []->
  ∃g v E N H' nx' F',memo t.f vs=some g/\g H nx ro=some (v,H',nx')/\HK B ro (E++(N++O)) H' nx'/\(∀x∈E,x.w=true)/\(∀x∈F',Has N x.1 x.2\/x∈A\/iW B x)/\uK F' t.outs r v E) (hns:t.ins.any Rep.owns=false:=by rfl):cE B memo prog 1 [t]:=by
 intro t' ht n hn;rw[bF.1 ht];intro a r hr ro O E0 H nx hk hw A hA vs hv;have hE:=jf7 hns hv;subst hE
 match n,hn with
 | n+1,_=>
   obtain⟨g,v,E,N,H',nx',F',h1,h2,h3,h4,h5,h6⟩:=h a r hr ro O H nx hk A hA vs hv;refine⟨v,E,N,H',nx',F',?_,h3,h4,h5,h6⟩;simp only[iH,h1];rw[aK hk.base];exact h2
def jfz {α:Type} {P:α->List AV->Prop} {f:α->AV} (hP:∀x,P x [f x]):∀(xs:List α),bO P xs (xs.map f)
 | []=>rfl
 | x::xs=>⟨[f x],xs.map f,rfl,hP x,jfz hP xs⟩
def juq {t:Ty} (ht:t.size=1) {f:t.den->AV} (hf:∀x,aX F t x [f x]) (h1:∀x,hZ (f x)=true) {b:Nat} (L:List t.den):oV F t L (some (List.length (α:=t.den) L)) (.sl b 0 (List.length (α:=t.den) L) (some (List.length (α:=t.den) L)) 1) [⟨b,true,.cells (L.map f)⟩]:=by
 refine⟨(b,_),rfl,by omega,.inr ⟨true,_,rfl,.inr ⟨some (List.length (α:=t.den) L),(L.map f).length,by rw[ht],rfl,by rw[ht];simp,λm hm=>?_,λm hm=>hm⟩,?_,?_⟩⟩
 ·cases hm;rw[ht];simp
 ·rw[ht,Gd,iU (by simp)];exact jfz hf L
 ·rw[List.all_map];exact bS.2 λx _=>h1 x
end X
end Go.Vm
namespace Go.Vm
namespace X
open W
variable {B:Base} {memo:dX} {prog:Tr CFn}
def oD {A:aQ} {N:List Ent}:∀x∈([]:aQ),Has N x.1 x.2\/x∈A\/iW B x:=λx hx=>by cases hx
def pO:∀x∈([]:List Ent),x.w=true:=λx hx=>by cases hx
def Mv (a:List Nat×List Nat):Option (List (List Nat)):=bif a.1.length.ble 1000000&& !(a.2.length.beq 0) then some (cY a.1 a.2) else none
def j8r {f:FuncId} (hm:∀as g,Hb f f as=some g->memo f as=some g):cE B memo prog 1 [⟨f,[.d .str,.d .str],[.ownx .str],Mv⟩]:=by
 refine wF λa r hr ro O H nx hk A hA vs hv=>?_
 obtain⟨v1,_,_,_,rfl,_,⟨_,h1,_⟩,v2,rfl,_,h2,_⟩:=hv;obtain⟨s,t⟩:=a;have h1:v1=AV.str s:=by simpa[aX] using h1
 have h2:v2=AV.str t:=by simpa[aX] using h2
 subst h1;subst h2;obtain⟨hb,hr⟩:=aR hr;cases hr;refine⟨λH nx _=>some (.sl nx 0 (cY s t).length (some (cY s t).length) 1,H.set nx (.cells (put ((cY s t).map AV.str) 0 .e) ((cY s t).map AV.str).length),nx+1),_,[⟨nx,true,.cells ((cY s t).map AV.str)⟩],[],_,_,[],hm _ _ ?_,rfl,hk.cells _,λx hx=>?_,oD,[_],rfl,_,rfl,_,rfl,juq (t:=.str) rfl (f:=AV.str) (λ_=>rfl) (λ_=>rfl) (cY s t)⟩
 ·have e:Hb f f [.str s,.str t]=bif s.length.ble 1000000&& !(t.length.beq 0) then some (λH nx _=>some (.sl nx 0 (cY s t).length (some (cY s t).length) 1,H.set nx (.cells (put ((cY s t).map AV.str) 0 .e) ((cY s t).map AV.str).length),nx+1)) else none:=by
   simp only[Hb,aL,bA,aB]
  exact e.trans (by erw[hb];rfl)
 ·rw[bF.1 hx]
def Ir (s:List Nat):Option (Int×Bool):=bif s.length.ble 1000000 then(match Lib.atoiAll (u8 s) with
 | .ok v=>some (v,true)
 | Lib.NumEnd.syntax=>some (0,false)
 | .range=>some (Lib.atoiSat (u8 s),false)) else none
def j8f {f:FuncId} {ty:TypeId} (hm:∀as g,Ce f ty f as=some g->memo f as=some g):cE B memo prog 1 [⟨f,[.d .str],[.d (.int .i64),.err],Ir⟩]:=by
 refine wF λs r hr ro O H nx hk A hA vs hv=>?_
 obtain⟨v1,rfl,_,h1,_⟩:=hv;have h1:v1=AV.str s:=by simpa[aX] using h1
 subst h1;obtain⟨hb,hr⟩:=aR hr;split at hr<;>cases hr
 ·rename_i v e;refine⟨λH nx _=>some (.tup [.int .i64 v,.nili],H,nx),_,[],[],_,_,[],hm _ _ ?_,rfl,hk,pO,oD,[_,_],rfl,_,[_],[],[],rfl,rfl,⟨rfl,rfl,rfl⟩,⟨_,rfl,_,rfl,.inl ⟨rfl,rfl⟩,rfl⟩⟩;simp only[Ce,aL,bA,aB];erw[hb,aB];simp only[e,Nh]
 ·rename_i e;refine⟨λH nx _=>some (.tup [.int .i64 0,.ifc ty (.ptr nx 0)],H,nx+1),_,[],[],_,_,[],hm _ _ ?_,rfl,zA hk (Tx _),pO,oD,[_,_],rfl,_,[_],[],[],rfl,rfl,⟨rfl,rfl,rfl⟩,⟨_,rfl,_,rfl,.inr ⟨rfl,_,_,rfl⟩,rfl⟩⟩;simp only[Ce,aL,bA,aB];erw[hb,aB];simp only[e,Nh]
 ·rename_i e;refine⟨λH nx _=>some (.tup [.int .i64 (Lib.atoiSat (u8 s)),.ifc ty (.ptr nx 0)],H,nx+1),_,[],[],_,_,[],hm _ _ ?_,rfl,zA hk (Tx _),pO,oD,[_,_],rfl,_,[_],[],[],rfl,rfl,⟨rfl,rfl,rfl⟩,⟨_,rfl,_,rfl,.inr ⟨rfl,_,_,rfl⟩,rfl⟩⟩;simp only[Ce,aL,bA,aB];erw[hb,aB];simp only[e,Nh]
end X
end Go.Vm
namespace Go.Vm
namespace X
open W
variable {B:Base} {memo:dX} {prog:Tr CFn}
def jbi (x:Int):Option Int:=bif decide (0<=x/\x<=18446744073709551615) then some ((Lib.bitLen x.toNat:Nat):Int) else none
def jbs (x:Int):Option Int:=bif decide (0<=x/\x<=64) then some ((Lib.l10 x.toNat:Nat):Int) else none
def jqi {f:FuncId} (hm:∀as g,Cf f f as=some g->memo f as=some g):cE B memo prog 1 [⟨f,[.d (.int .u64)],[.d (.int .i64)],jbi⟩]:=by
 refine wF λx r hr ro O H nx hk A hA vs hv=>?_
 obtain⟨v1,rfl,_,h1,_⟩:=hv;have h1:v1=AV.int .u64 x:=by simpa[aX] using h1
 subst h1;obtain⟨hb,hr⟩:=aR hr;rw[aH] at hb;cases hr;exact⟨λH nx _=>some (.int .i64 (Lib.bitLen (x:Int).toNat),H,nx),_,[],[],_,_,[],hm _ _ (by unfold Cf;rw[aL,cK rfl];simp only[aB];rw[aK hb]),rfl,hk,pO,oD,[_],rfl,_,rfl,rfl,rfl,rfl⟩
def jql {f:FuncId} (hm:∀as g,Cg f f as=some g->memo f as=some g):cE B memo prog 1 [⟨f,[.d (.int .i64)],[.d (.int .i64)],jbs⟩]:=by
 refine wF λx r hr ro O H nx hk A hA vs hv=>?_
 obtain⟨v1,rfl,_,h1,_⟩:=hv;have h1:v1=AV.int .i64 x:=by simpa[aX] using h1
 subst h1;obtain⟨hb,hr⟩:=aR hr;rw[aH] at hb;cases hr;exact⟨λH nx _=>some (.int .i64 (Lib.l10 (x:Int).toNat),H,nx),_,[],[],_,_,[],hm _ _ (by unfold Cg;rw[aL,cK rfl];simp only[aB];rw[aK hb]),rfl,hk,pO,oD,[_],rfl,_,rfl,rfl,rfl,rfl⟩
def jg6:∀f x,Lib.bitLenAux f x<=f
 | 0,x=>by simp[Lib.bitLenAux]
 | f+1,x=>by
   have:=jg6 f (x / 2);unfold Lib.bitLenAux;split<;>omega
def bitLen_le (x:Nat):Lib.bitLen x<=64:=jg6 64 x
end X
end Go.Vm
namespace Go.Vm
namespace X
open W Go.RowKit
variable {P:Program} {gl:List Nat} {B:Base}
def jug {ρ:RM} {H:Tr Blk} {W:World} {b:Nat} {k:Blk} {l:Loc} (h:HR ρ H W) (hH:∀x,(H.get x).isSome->x<RO) (hb:b<RO) (hl:ρ b=some l) (hk:k.Rel false ρ l W):
  HR ρ (H.set b k) W/\∀x,((H.set b k).get x).isSome->x<RO:=by
 have live:∀x,((H.set b k).get x).isSome->x<RO:=λx hx=>by
  rw[Tr.get_set] at hx;by_cases e:x=b
  ·rw[e];exact hb
  ·rw[aD e] at hx;exact hH x hx
 refine⟨⟨λx k' l' hx hl'=>?_,λx y l1 l2 h1 h2 _ _ _=>.inr ⟨live x h1,live y h2⟩⟩,live⟩;rw[Tr.get_set] at hx;by_cases e:x=b
 ·subst e;rw[aK rfl] at hx;cases hx;rw[hl] at hl';cases hl';rw[show RO.ble x=false from by rw[aP];exact pS (by omega)];exact hk
 ·rw[aD e] at hx;exact h.blk x k' l' hx hl'
def jxd {memo:dX} (hmemo:iX P gl B memo) (hm:P.follows .mixedOrders=true) {prog:Tr CFn} (hp:Ib P gl prog) {n:Nat} {t:TE} (ht:t.OK B (iH B memo prog n)) (ho:t.outs=[.d .bool]) {a:eE t.ins} (hr:t.run a=some (ho▸true))
  {O:List Ent} {H:Tr Blk} {nx:Nat} (hk:HK B nx O H nx) {A:aQ} (hA:∀x∈A,Has O x.1 x.2\/iW B x) {vs:List AV} (hv:lT A t.ins a vs [])
  {ρ:RM} {W:World} (hR:HR ρ H W) (hgl:GLok gl ρ) (hfree:∀b,nx<=b->ρ b=none) (hwf:WF H nx) {args:Array Value} (ha:VRs ρ vs args.toList):
  Calls P t.f args W λe W'=>e=.returned (.bool true)/\Below W.heap.size W W':=by
 obtain⟨v,E,N,H',nx',F',h1,_,_,_,vs',rfl,hv'⟩:=ht a _ hr nx O [] H nx hk (λ_ h=>by cases h) A hA vs hv;obtain⟨f,ins,outs,run⟩:=t;simp only at ho;subst ho;obtain⟨u,rfl,hu⟩:=hv';have hu:u=AV.bool true:=by
  unfold gC at hu;simp only[Rep.agg,Ty.agg,aF] at hu;obtain⟨_,h2,_⟩:=hu;simpa[aX] using h2
 subst hu;obtain⟨_,key⟩:=(Gl hmemo hm hp n).1 _ _ _ _ _ _ _ _ h1;refine(key ρ W args hR (λb hb _=>hfree b hb) (aU _) hgl hwf ha).2.mono ?_;rintro e W' ⟨v',rfl,ρ',st,_,hv⟩;simp only[_root_.Go.Vm.W.pack,VR] at hv;subst hv;refine⟨rfl,st.os,st.tape,st.output,st.size,λx hx=>st.keep x hx λb l hb _ _=>?_⟩;apply sO;intro hn;rw[hfree b (by omega)] at hb;cases hb
end X
end Go.Vm
namespace Go.Vm
namespace X
open W
variable {α β σ:Type}
def Ret (o:Option β) (Q:β->Prop):Prop:=∃r,o=some r/\Q r
def Ret.eq {o:Option β} {r:β} (h:Ret o λx=>x=r):o=some r:=by
 obtain⟨_,e,rfl⟩:=h;exact e
def cB {r:β} {Q:β->Prop} (h:Q r):Ret (some r) Q:=⟨r,rfl,h⟩
def bB {c:Bool} {x:Option β} {Q:β->Prop} (hc:c=true) (h:Ret x Q):Ret (aA c x) Q:=by
 rw[hc];exact h
def iI {c:Bool} {x y:Option β} {Q:β->Prop} (h1:c=true->Ret x Q) (h2:c=false->Ret y Q):Ret (bif c then x else y) Q:=by
 cases c with
 | true=>exact h1 rfl
 | false=>exact h2 rfl
def aS {p:Prop} [Decidable p] {x y:Option β} {Q:β->Prop} (h1:p->Ret x Q) (h2:¬p->Ret y Q):Ret (bif decide p then x else y) Q:=by
 by_cases h:p
 ·rw[cK h];exact h1 h
 ·rw[pS h];exact h2 h
def Id {k:σ->Option β} {f:(σ->Option β)->Option β} {Q:β->Prop} (I:σ->Prop) (hk:∀x,I x->Ret (k x) Q) (hf:∀j:σ->Option β,(∀x,I x->Ret (j x) Q)->Ret (f j) Q):Ret (jn k f) Q:=hf k hk
def gZ {step:(σ->Option β)->σ->Option β} (Inv:σ->Prop) (m:σ->Nat) {Q:β->Prop} (h:∀s rec,Inv s->(∀s',Inv s'->m s'<m s->Ret (rec s') Q)->Ret (step rec s) Q):∀n s,Inv s->m s<n->Ret (cN step n s) Q
 | 0,s,_,hm=>absurd hm (Tk _)
 | n+1,s,hi,hm=>h s _ hi λs' h1 h2=>gZ Inv m h n s' h1 (by omega)
def cM {n:Int} (h1: -9223372036854775808<=n) (h2:n<=9223372036854775807):aC n=true:=jkj.2 ⟨h1,h2⟩
def cZ {i:Int} {n:Nat} (h1:0<=i) (h2:i< (n:Int)):aI i n=true:=jkq.2 ⟨h1,h2⟩
def oF {n:Nat} (h:n<=10000000):eP n=true:=Kh.2 h
def cI {β:Type} {v:Int} {x:Option β} {Q:β->Prop} (h:Ret x Q) (h1: -9223372036854775808<=v:=by omega) (h2:v<=9223372036854775807:=by omega):Ret (aA (aC v) x) Q:=bB (cM h1 h2) h
def kN {β:Type} {i:Int} {n:Nat} {x:Option β} {Q:β->Prop} (h:Ret x Q) (h1:0<=i:=by omega) (h2:i< (n:Int):=by omega):Ret (aA (aI i n) x) Q:=bB (cZ h1 h2) h
def zG {β:Type} {p:Prop} [Decidable p] {x:Option β} {Q:β->Prop} (h:Ret x Q) (hp:p:=by omega):Ret (aA (decide p) x) Q:=bB (cK hp) h
def Xn {β:Type} {n:Nat} {x:Option β} {Q:β->Prop} (h:Ret x Q) (hn:n<=10000000:=by omega):Ret (aA (eP n) x) Q:=bB (oF hn) h
end X
end Go.Vm
namespace Go.Vm
namespace X
open W Go.RowKit Go.Deep
variable {P:Program}
def vD:Value->Int
 | .int _ z=>z
 | _=>0
end X
end Go.Vm
namespace Go.Vm
namespace X
open W
variable {B:Base}
def qH:(t:Ty)->t.den->List AV
 | .int k,x=>[.int k x]
 | .bool,x=>[.bool x]
 | .str,x=>[.str x]
 | .unit,_=>[]
 | .prod a b,x=>qH a x.1++qH b x.2
 | .arr _ t,x=>(x:List t.den).flatMap (qH t)
 | .sl _,_=>[.nils]
 | .slx _,_=>[.nils]
def uV:(t:Ty)->t.den->Bool
 | .prod a b,x=>uV a x.1&&uV b x.2
 | .arr n t,x=>Nat.beq (List.length (α:=t.den) x) n&&List.all (α:=t.den) x (uV t)
 | .sl t,x=>List.isEmpty (α:=t.den) x
 | .slx t,x=>List.isEmpty (α:=t.den) x
 | _,_=>true
def Xo {α:Type} {P:α->List AV->Prop} {f:α->List AV}:∀ {xs:List α},(∀x∈xs,P x (f x))->bO P xs (xs.flatMap f)
 | [],_=>rfl
 | x::xs,h=>⟨f x,xs.flatMap f,rfl,h x (bY ..),Xo λy hy=>h y (bX _ hy)⟩
def Ow {F:aQ}:∀(t:Ty) (x:t.den),uV t x=true->aX F t x (qH t x)
 | .int k,x,_=>rfl
 | .bool,x,_=>rfl
 | .str,x,_=>rfl
 | .unit,x,_=>rfl
 | .prod a b,x,h=>by
   simp only[uV,aN] at h;exact⟨_,_,rfl,Ow a _ h.1,Ow b _ h.2⟩
 | .arr n t,x,h=>by
   simp only[uV,aN,aL,aH] at h;exact⟨h.1,Xo λy hy=>Ow t y (bS.1 h.2 y hy)⟩
 | .sl t,x,h=>by
   simp only[uV,qgs] at h;exact⟨.nils,rfl,.inl ⟨h,rfl⟩⟩
 | .slx t,x,h=>by
   simp only[uV,qgs] at h;exact⟨.nils,rfl,.inl ⟨h,rfl⟩⟩
abbrev GD:=Nat×((t:Ty)×List t.den)
def jah (l:List GD):bE:=l.map λg=>(gB+g.1,.fix g.2.1 g.2.2.length g.2.2)
def jlw {b:Nat} {sb:SB}:∀ {l:List GD},cL (jah l) b=some sb->∃g∈l,b=gB+g.1/\sb=.fix g.2.1 g.2.2.length g.2.2
 | [],h=>by cases h
 | g::l,h=>by
   simp only[jah,dA,cL] at h;cases hq:Nat.beq (gB+g.1) b<;>rw[hq] at h<;>simp only[aB,aF] at h
   ·obtain⟨g',h1,h2⟩:=jlw (l:=l) h;exact⟨g',bX _ h1,h2⟩
   ·cases h;exact⟨g,bY ..,(rB hq).symm,rfl⟩
def jj5 {es:List (Nat×List AV)} (hH:B.H0=oG es) {l:List GD} (h1:l.all (λg=>Nat.blt g.1 B.nx0&&g.2.2.all (uV g.2.1))=true) (h2:l.map (λg=>En es g.1)=l.map (λg=>some (g.2.2.flatMap (qH g.2.1)))):GRel B vG (jah l):=by
 refine⟨λb=>by simp[vG],λb sb hb=>?_⟩;obtain⟨g,hg,rfl,rfl⟩:=jlw hb;have a1:=bS.1 h1 g hg;simp only[aN,Nat.blt,aP,aH] at a1;have a2:En es g.1=some (g.2.2.flatMap (qH g.2.1)):=List.map_inj_left.1 h2 g hg;obtain⟨k1,k2⟩:=jue (B:=B) hH (by omega) a2;refine⟨by omega,λn=>rfl,rfl,[⟨g.1,false,.cells (g.2.2.flatMap (qH g.2.1))⟩],⟨false,_,?_,rfl,Xo λx hx=>Ow _ _ (bS.1 a1.2 x hx)⟩,λe he=>?_⟩
 ·simp[vG]
 ·rw[bF.1 he];exact⟨k1,k2⟩
def wN {B:Base} {memo:dX} {prog:Tr CFn} {m:Nat} {t:TE} {T:List TE} (h:cE B memo prog m [t]) (h':cE B memo prog m T):cE B memo prog m (t::T):=λt' ht n hn=>by
 rcases bL.1 ht with rfl | ht
 ·exact h _ (bF.2 rfl) n hn
 ·exact h' _ ht n hn
def bG {memo:dX} {prog:Tr CFn}:rP memo prog []:=λx hx=>by cases hx
def dJ {memo:dX} {prog:Tr CFn} {f:FuncId} {z:Fx} {C:List (FuncId×Fx)} (h:(∀vs,memo f vs=none)/\prog.get f=some z.cfn) (h':rP memo prog C):rP memo prog ((f,z)::C):=λx hx=>by
 rcases bL.1 hx with rfl | hx
 ·exact h
 ·exact h' x hx
end X
end Go.Vm
namespace Go.Vm
namespace X
open W
set_option maxRecDepth 10000
variable {B:Base} {memo:dX} {prog:Tr CFn} {ro:Nat} {O:List Ent} {H:Tr Blk} {nx:Nat} {F:aQ}
end X
end Go.Vm
namespace Go.Vm
namespace X
open W Go.RowKit Go.Deep Go.ChangeShapes
variable {P:Program}
end X
end Go.Vm
namespace Go.Vm
namespace X
open W Go.RowKit Go.Deep Go.ChangeShapes
variable {P:Program}
def dV:Value->AV
 | .int k z=>.int k z
 | .bool b=>.bool b
 | _=>.nils
def jkw:Value->Prop
 | .int _ _=>True
 | .bool _=>True
 | _=>False
def jux {ρ:RM} {v:Value} (h:jkw v):VR ρ (dV v) v:=by
 cases v<;>first | (simp[VR,dV];done) | exact h.elim
def Oi (z:Nat) (W:World) (v:Value) (l:Vm.Loc) (n:Nat) (M:List AV):Prop:=(v=.slice none 0 0/\n=0/\M=[])\/∃cap off,v=.slice (some ⟨l.blk,off,none⟩) n cap/\n<=cap/\(off=l.base\/cap=0)/\l.base+cap*z=l.lim/\M.length=n*z/\
 ∀ρ,Blk.Rel false ρ (.cells (put M 0 .e) (n*z)) l W
def j7n {z:Nat} {OKc:Nat->Value->Prop} {H:Type} {enc:TypeId×Value->H} {W:World} {fuel b0:Nat} {t e:TypeId} {v:Value} {x:DataW H×List MemPlace} (hz0:0<z) (hD:∀i v,OKc i v->jkw v) (ht:P.underlying t=some (.slice e)) (hc:P.cellsOf e=z)
  (hel:∀n (cs:List Value) y,cs.length=z->DataW.trod enc P W 0 (λ_=>true) true n e cs=some y->∀i,i<z->∃v,cs[i]?=some v/\OKc i v)
  (h:DataW.trod enc P W 0 (λ_=>true) true fuel t [v]=some x) (hok:Cell.okWide P W .any b0 t v) (hfz:W.noneFrozen x.2):
  ∃(l:Vm.Loc) (g:Nat->Value) (n:Nat),(∀q,q<n*z->OKc (q%z) (g q))/\Oi z W v l n ((List.range (n*z)).map λq=>dV (g q)):=by
 rcases open_slice ht h with⟨hv,_⟩ | ⟨a,len,cap,m,n,D,Pl,hv,_,hl,hm,hmm,hx,hV⟩
 ·exact⟨⟨0,0,0⟩,λ_=>.bool false,0,λq hq=>by omega,.inl ⟨by simpa using hv,rfl,by simp⟩⟩
 have hv:v=.slice (some a) len cap:=by simpa using hv
 subst hv;simp only[bR] at hmm;subst hmm;simp only[Cell.okWide,ht,Cell.ok,World.has] at hok;obtain⟨_,_,_,hspot,row,cells,hsh,_⟩:=hok;obtain⟨blk,off,spot⟩:=a;simp only at hspot hsh;subst hspot;unfold World.shape? at hsh;split at hsh<;>try (cases hsh;done)
 rename_i c el fr hheap;have hadd:∀o i,(⟨blk,o,none⟩:Addr).add i=⟨blk,o+i,none⟩:=λo i=>by
  unfold Addr.add;by_cases h0:i=0<;>simp[h0]
 have hcell:∀i,W.cell? (⟨blk,off+i,none⟩:Addr)=c[off+i]?:=λi=>by
  simp only[World.cell?,hheap,tX,fX,cO]
 have hz:∀q,q<m*z->∃v,c[off+q]?=some v/\OKc (q%z) v:=λq hq=>by
  have hqz:q / z<m:=(qfj hz0).2 hq;obtain⟨cs',h1,h2⟩:=hV (q / z) hqz;rw[hc] at h1;obtain⟨_,hlen,hget⟩:=World.cells?_some h1;have hmod:q%z<z:=Nat.mod_lt _ hz0;obtain⟨u,e0,w0⟩:=hel _ cs' _ hlen h2 (q%z) hmod;have g:=hget (q%z) hmod;rw[hadd,hadd,kG,hcell,show q / z*z+q%z=q by rw[Tu];exact Nat.div_add_mod q z] at g;exact⟨u,by rw[g];exact e0,w0⟩
 have hg:∀q,q<m*z->c[off+q]?=some ((c[off+q]?).getD (.bool false))/\OKc (q%z) ((c[off+q]?).getD (.bool false)):=λq hq=>by
  obtain⟨u,e1,e2⟩:=hz q hq;rw[e1];exact⟨rfl,e2⟩
 have hle:len*z<=m*z:=iB z hl;by_cases h0:m=0
 ·have hl0:len=0:=by omega
  subst hl0;refine⟨⟨blk,0,0⟩,λq=>(c[off+q]?).getD (.bool false),0,λq hq=>by omega,.inr ⟨m,off,rfl,hl,.inr h0,by rw[h0];simp,by simp,λρ=>⟨c,el,fr,hheap,by simp,by simp,λi h1 h2=>by have h2:=h2 rfl;simp only at h1 h2;omega,λi hi=>by omega⟩⟩⟩
 ·have hmz:0<m*z:=Nat.mul_pos (by omega) hz0;refine⟨⟨blk,off,off+m*z⟩,λq=>(c[off+q]?).getD (.bool false),len,λq hq=>(hg q (by omega)).2,.inr ⟨m,off,rfl,hl,.inl rfl,rfl,by simp,λρ=>⟨c,el,fr,hheap,by simp only;omega,?_,λi h1 h2=>?_,λi hi=>?_⟩⟩⟩
  ·have:=(eJ.1 (hg (m*z-1) (by omega)).1).1;simp only;omega
  ·have h2:=h2 rfl;simp only at h1 h2;have:=hfz blk i (by
    rw[hx,hc];refine aZ.2 (.inl (bU.2 ⟨i-off,jI.2 (by omega),?_⟩));simp only
    congr 1
    omega)
   unfold World.frozen? at this;rw[hheap] at this;obtain⟨fl,fh⟩:=fr;simp only[vM,eH] at this;simp only;omega
  ·obtain⟨e1,e3⟩:=hg i (by omega);refine⟨dV ((c[off+i]?).getD (.bool false)),_,?_,e1,jux (hD _ _ e3)⟩;rw[mP,aK (by simp;omega)];simp[hi]
def j5i {α:Type} {a:Nat->α} {n z:Nat}:(List.range ((n+1)*z)).map a=(List.range (n*z)).map a++(List.range z).map λj=>a (n*z+j):=by
 rw[fU,Nat.one_mul,List.range_add,fY,lO];rfl
def jo4 {A:aQ} {t:Ty} {z:Nat} {row:Nat->t.den} {a:Nat->AV}:∀n,(∀i,i<n->aX A t (row i) ((List.range z).map λj=>a (i*z+j)))->bO (aX A t) ((List.range n).map row) ((List.range (n*z)).map a)
 | 0,_=>by simp;rfl
 | n+1,h=>by
   rw[qgx,fY,j5i];exact tJ (jo4 n λi hi=>h i (by omega)) ⟨_,[],by simp,h n (by omega),rfl⟩
def juf {B:Base} {ro nx:Nat} {O:List Ent} {H:Tr Blk} (h:HK B ro O H nx) {b:Nat} (h0:B.nx0<=b) (hb:b<nx) (hn:b∉O.map Ent.b) (l:List AV):HK B ro (⟨b,false,.cells l⟩::O) (H.set b (.cells (put l 0 .e) l.length)) nx:=by
 refine⟨h.r0,h.r1,λx hx=>by rw[Tr.get_set,aD (by omega),h.base x hx],λe he=>?_,by simp only[dA,Lm];exact⟨hn,h.nd⟩⟩;rcases bL.1 he with rfl | he
 ·exact⟨hb,(λhw=>by cases hw),jfi⟩
 ·obtain⟨e1,e2,e3⟩:=h.ent e he;refine⟨e1,e2,e3.congr ?_⟩;rw[Tr.get_set,aD λe=>hn (bU.2 ⟨_,he,e⟩)]
def j0m {t:Ty} {z:Nat} {B:Base} {ρ:RM} {H:Tr Blk} {W:World} {O:List Ent} {b n:Nat} {v:Value} {l:Vm.Loc} {M:List AV} {L:List t.den} (hz0:0<z) (hrel:∀A,bO (aX A t) L M) (hL:L.length=n) (ha:Oi z W v l n M) (hl:ρ b=some l) (hR:HR ρ H W) (hlt:∀x,(H.get x).isSome->x<RO) (hk:HK B RO O H RO) (h0:B.nx0<=b) (hb:b<RO) (hn:b∉O.map Ent.b):
  ∃H' O' av A,HR ρ H' W/\(∀x,(H'.get x).isSome->x<RO)/\HK B RO O' H' RO/\(∀x∈O'.map Ent.b,x=b\/x∈O.map Ent.b)/\(∀x∈(A:aQ),Has O' x.1 x.2)/\(∀c x,Has O c x->Has O' c x)/\jU A z (bO (aX A t)) L av/\VR ρ av v:=by
 rcases ha with⟨rfl,rfl,rfl⟩ | ⟨cap,off,rfl,h1,h2,h3,h5,h4⟩
 ·have hL0:L=[]:=yF.1 hL;subst hL0;exact⟨H,O,.nils,[],hR,hlt,hk,λx h=>.inr h,(λx hx=>by cases hx),λ_ _ h=>h,.inl ⟨rfl,rfl⟩,by simp[VR]⟩
 ·subst hL;obtain⟨q1,q2⟩:=jug hR hlt hb hl (h4 ρ);refine⟨_,⟨b,false,.cells M⟩::O,.sl b 0 L.length (some cap) z,[(b,.cells M)],q1,q2,?_,λx hx=>?_,λx hx=>?_,λ_ _ h=>.there h,.inr ⟨b,0,some cap,M,rfl,bF.2 rfl,λc hc=>by cases hc;exact h1,by omega,?_⟩,?_⟩
  ·have:=juf hk h0 hb hn M;rw[h5] at this;exact this
  ·simpa using hx
  ·rw[bF.1 hx];exact .here
  ·rw[fZ,iU (by omega)];exact hrel _
  ·simp only[VR];have hcz:cap=0->cap*z=0:=λh=>by rw[h,sR]
   have hlz:L.length*z<=cap*z:=iB z h1;refine⟨l,cap,off,hl,rfl,h1,?_,?_,.inl ⟨rfl,?_⟩⟩
   ·exact hz0
   ·omega
   ·omega
end X
end Go.Vm
