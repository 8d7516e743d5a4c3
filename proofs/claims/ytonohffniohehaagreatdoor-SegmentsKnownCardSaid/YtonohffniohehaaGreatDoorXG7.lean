/-
  The extraction: told functions.
  The extraction: told functions: strips.Ends, Split, Join, Atoi.
  The extraction: told functions of numbers.
  The extraction: a law's call in the model, with arguments in memory.
  Plain laws about extracted functions: what they return.
  The extraction: a law's slice arguments, as blocks that are only read.
  The extraction: the program's variables as plain data.
  The extraction: told functions that take rows of ints and give them back with others in between (slices.Grow of nil, Insert, Replace).
  The extraction: a law's slice of arrays of three ints, as a block that is only read.
  The extraction: a law's slice of rows of plain data, as a block that is only read.
-/
import Derived.Test.YtonohffniohehaaGreatDoorXG6
import Derived.Deep.Slices
import Derived.Test.YtonohffniohehaaGreatDoorVmY4
import Derived.Laws.IdiomArrays
set_option linter.unusedSimpArgs false
set_option linter.unusedVariables false
set_option linter.unusedSectionVars false
set_option linter.unnecessarySimpa false
namespace Go.Vm
namespace X
open W
variable {B:Base} {memo:jn7} {prog:Tr CFn} {ro:Nat} {O:List Ent} {H:Tr Blk} {nx:Nat} {F:jaj}
theorem kc3 (h:HK B ro O H nx) {nx':Nat} (hn:nx≤nx'):HK B ro O H nx':=
 ⟨h.r0,by have:=h.r1;omega,h.base,fun e he=>⟨by have:=(h.ent e he).1;omega,(h.ent e he).2⟩,h.nd⟩
theorem jrf {t:TE} (h:∀a r,t.run a=some r→∀ro O H nx,HK B ro O H nx→∀A:jaj,(∀x∈A,Has O x.1 x.2∨jlg B x)→∀vs,jni A t.ins a vs []→
  ∃g v E N H' nx' F',memo t.f vs=some g∧g H nx ro=some (v,H',nx')∧HK B ro (E++(N++O)) H' nx'∧(∀x∈E,x.w=true)∧(∀x∈F',Has N x.1 x.2∨x∈A∨jlg B x)∧kfd F' t.outs r v E) (hns:t.ins.any Rep.owns=false:=by rfl):OKs B memo prog 1 [t]:=by
 intro t' ht n hn
 rw[List.mem_singleton.1 ht]
 intro a r hr ro O E0 H nx hk hw A hA vs hv
 have hE:=j3j hns hv
 subst hE
 match n,hn with
 | n+1,_=>
   obtain⟨g,v,E,N,H',nx',F',h1,h2,h3,h4,h5,h6⟩:=h a r hr ro O H nx hk A hA vs hv
   refine⟨v,E,N,H',nx',F',?_,h3,h4,h5,h6⟩
   simp only[js8,h1]
   rw[if_pos hk.base]
   exact h2
theorem jwd {α:Type} {P:α→List AV→Prop} {f:α→AV} (hP:∀x,P x [f x]):∀(xs:List α),jd1 P xs (xs.map f)
 | []=>rfl
 | x::xs=>⟨[f x],xs.map f,rfl,hP x,jwd hP xs⟩
theorem kfc {t:Ty} (ht:t.size=1) {f:t.den→AV} (hf:∀x,jb0 F t x [f x]) (h1:∀x,js3 (f x)=true) {b:Nat} (L:List t.den):j9d F t L (some (List.length (α:=t.den) L)) (.sl b 0 (List.length (α:=t.den) L) (some (List.length (α:=t.den) L)) 1) [⟨b,true,.cells (L.map f)⟩]:=by
 refine⟨(b,_),rfl,by omega,.inr ⟨true,_,rfl,.inr ⟨some (List.length (α:=t.den) L),(L.map f).length,by rw[ht],rfl,by rw[ht];simp,fun m hm=>?_,fun m hm=>hm⟩,?_,?_⟩⟩
 ·cases hm;rw[ht];simp
 ·rw[ht,Nat.mul_one,List.take_of_length_le (by simp)]
  exact jwd hf L
 ·rw[List.all_map];exact List.all_eq_true.2 fun x _=>h1 x
end X
end Go.Vm
namespace Go.Vm
namespace X
open W
variable {B:Base} {memo:jn7} {prog:Tr CFn}
theorem jov {A:jaj} {N:List Ent}:∀x∈([]:jaj),Has N x.1 x.2∨x∈A∨jlg B x:=fun x hx=>by cases hx
theorem jze:∀x∈([]:List Ent),x.w=true:=fun x hx=>by cases hx
def j92 (a:List Nat×List Nat):Option (List (List Nat)):=bif a.1.length.ble 1000000&& !(a.2.length.beq 0) then some (jdm a.1 a.2) else none
theorem j9v {f:FuncId} (hm:∀as g,jxh f f as=some g→memo f as=some g):OKs B memo prog 1 [⟨f,[.d .str,.d .str],[.ownx .str],j92⟩]:=by
 refine jrf fun a r hr ro O H nx hk A hA vs hv=>?_
 obtain⟨v1,_,_,_,rfl,_,⟨_,h1,_⟩,v2,rfl,_,h2,_⟩:=hv
 obtain⟨s,t⟩:=a
 have h1:v1=AV.str s:=by simpa[jb0] using h1
 have h2:v2=AV.str t:=by simpa[jb0] using h2
 subst h1;subst h2
 obtain⟨hb,hr⟩:=jah hr
 cases hr
 refine⟨fun H nx _=>some (.sl nx 0 (jdm s t).length (some (jdm s t).length) 1,H.set nx (.cells (put ((jdm s t).map AV.str) 0 .e) ((jdm s t).map AV.str).length),nx+1),_,[⟨nx,true,.cells ((jdm s t).map AV.str)⟩],[],_,_,[],hm _ _ ?_,rfl,hk.cells _,fun x hx=>?_,jov,[_],rfl,_,rfl,_,rfl,kfc (t:=.str) rfl (f:=AV.str) (fun _=>rfl) (fun _=>rfl) (jdm s t)⟩
 ·have e:jxh f f [.str s,.str t]=bif s.length.ble 1000000&& !(t.length.beq 0) then some (fun H nx _=>some (.sl nx 0 (jdm s t).length (some (jdm s t).length) 1,H.set nx (.cells (put ((jdm s t).map AV.str) 0 .e) ((jdm s t).map AV.str).length),nx+1)) else none:=by
   simp only[jxh,jaa,decide_true,cond_true]
  exact e.trans (by erw[hb];rfl)
 ·rw[List.mem_singleton.1 hx]
def ki7 (s:List Nat):Option (Int×Bool):=bif s.length.ble 1000000 then(match Lib.atoiAll (u8 s) with
 | .ok v=>some (v,true)
 | Lib.NumEnd.syntax=>some (0,false)
 | .range=>some (Lib.atoiSat (u8 s),false)) else none
theorem kdo {f:FuncId} {ty:TypeId} (hm:∀as g,j32 f ty f as=some g→memo f as=some g):OKs B memo prog 1 [⟨f,[.d .str],[.d (.int .i64),.err],ki7⟩]:=by
 refine jrf fun s r hr ro O H nx hk A hA vs hv=>?_
 obtain⟨v1,rfl,_,h1,_⟩:=hv
 have h1:v1=AV.str s:=by simpa[jb0] using h1
 subst h1
 obtain⟨hb,hr⟩:=jah hr
 split at hr<;>cases hr
 ·rename_i v e
  refine⟨fun H nx _=>some (.tup [.int .i64 v,.nili],H,nx),_,[],[],_,_,[],hm _ _ ?_,rfl,hk,jze,jov,[_,_],rfl,_,[_],[],[],rfl,rfl,⟨rfl,rfl,rfl⟩,⟨_,rfl,_,rfl,.inl ⟨rfl,rfl⟩,rfl⟩⟩
  simp only[j32,jaa,decide_true,cond_true]
  erw[hb,cond_true]
  simp only[e,kka]
 ·rename_i e
  refine⟨fun H nx _=>some (.tup [.int .i64 0,.ifc ty (.ptr nx 0)],H,nx+1),_,[],[],_,_,[],hm _ _ ?_,rfl,kc3 hk (Nat.le_succ _),jze,jov,[_,_],rfl,_,[_],[],[],rfl,rfl,⟨rfl,rfl,rfl⟩,⟨_,rfl,_,rfl,.inr ⟨rfl,_,_,rfl⟩,rfl⟩⟩
  simp only[j32,jaa,decide_true,cond_true]
  erw[hb,cond_true]
  simp only[e,kka]
 ·rename_i e
  refine⟨fun H nx _=>some (.tup [.int .i64 (Lib.atoiSat (u8 s)),.ifc ty (.ptr nx 0)],H,nx+1),_,[],[],_,_,[],hm _ _ ?_,rfl,kc3 hk (Nat.le_succ _),jze,jov,[_,_],rfl,_,[_],[],[],rfl,rfl,⟨rfl,rfl,rfl⟩,⟨_,rfl,_,rfl,.inr ⟨rfl,_,_,rfl⟩,rfl⟩⟩
  simp only[j32,jaa,decide_true,cond_true]
  erw[hb,cond_true]
  simp only[e,kka]
end X
end Go.Vm
namespace Go.Vm
namespace X
open W
variable {B:Base} {memo:jn7} {prog:Tr CFn}
def kf3 (x:Int):Option Int:=bif decide (0≤x∧x≤18446744073709551615) then some ((Lib.bitLen x.toNat:Nat):Int) else none
def kf1 (x:Int):Option Int:=bif decide (0≤x∧x≤64) then some ((Lib.l10 x.toNat:Nat):Int) else none
theorem j9x {f:FuncId} (hm:∀as g,kgz f f as=some g→memo f as=some g):OKs B memo prog 1 [⟨f,[.d (.int .u64)],[.d (.int .i64)],kf3⟩]:=by
 refine jrf fun x r hr ro O H nx hk A hA vs hv=>?_
 obtain⟨v1,rfl,_,h1,_⟩:=hv
 have h1:v1=AV.int .u64 x:=by simpa[jb0] using h1
 subst h1
 obtain⟨hb,hr⟩:=jah hr
 rw[decide_eq_true_eq] at hb
 cases hr
 exact⟨fun H nx _=>some (.int .i64 (Lib.bitLen (x:Int).toNat),H,nx),_,[],[],_,_,[],hm _ _ (by unfold kgz;rw[jaa,decide_eq_true rfl];simp only[cond_true];rw[if_pos hb]),rfl,hk,jze,jov,[_],rfl,_,rfl,rfl,rfl,rfl⟩
theorem j9w {f:FuncId} (hm:∀as g,kgx f f as=some g→memo f as=some g):OKs B memo prog 1 [⟨f,[.d (.int .i64)],[.d (.int .i64)],kf1⟩]:=by
 refine jrf fun x r hr ro O H nx hk A hA vs hv=>?_
 obtain⟨v1,rfl,_,h1,_⟩:=hv
 have h1:v1=AV.int .i64 x:=by simpa[jb0] using h1
 subst h1
 obtain⟨hb,hr⟩:=jah hr
 rw[decide_eq_true_eq] at hb
 cases hr
 exact⟨fun H nx _=>some (.int .i64 (Lib.l10 (x:Int).toNat),H,nx),_,[],[],_,_,[],hm _ _ (by unfold kgx;rw[jaa,decide_eq_true rfl];simp only[cond_true];rw[if_pos hb]),rfl,hk,jze,jov,[_],rfl,_,rfl,rfl,rfl,rfl⟩
end X
end Go.Vm
namespace Go.Vm
namespace X
open W Go.RowKit
variable {P:Program} {gl:List Nat} {B:Base}
theorem j5j {memo:jn7} (hmemo:jhz P gl B memo) (hm:P.follows .mixedOrders=true) {prog:Tr CFn} (hp:j3l P gl prog) {n:Nat} {t:TE} (ht:t.OK B (js8 B memo prog n)) (ho:t.outs=[.d .bool]) {a:jl4 t.ins} (hr:t.run a=some (ho▸true))
  {O:List Ent} {H:Tr Blk} {nx:Nat} (hk:HK B nx O H nx) {A:jaj} (hA:∀x∈A,Has O x.1 x.2∨jlg B x) {vs:List AV} (hv:jni A t.ins a vs [])
  {ρ:RM} {W:World} (hR:HR ρ H W) (hgl:GLok gl ρ) (hfree:∀b,nx≤b→ρ b=none) (hwf:WF H nx) {args:Array Value} (ha:VRs ρ vs args.toList):
  Calls P t.f args W fun e W'=>e=.returned (.bool true)∧Below W.heap.size W W':=by
 obtain⟨v,E,N,H',nx',F',h1,_,_,_,vs',rfl,hv'⟩:=ht a _ hr nx O [] H nx hk (fun _ h=>by cases h) A hA vs hv
 obtain⟨f,ins,outs,run⟩:=t
 simp only at ho
 subst ho
 obtain⟨u,rfl,hu⟩:=hv'
 have hu:u=AV.bool true:=by
  unfold js4 at hu
  simp only[Rep.agg,Ty.agg,cond_false] at hu
  obtain⟨_,h2,_⟩:=hu
  simpa[jb0] using h2
 subst hu
 obtain⟨_,key⟩:=(jur hmemo hm hp n).1 _ _ _ _ _ _ _ _ h1
 refine(key ρ W args hR (fun b hb _=>hfree b hb) (Nat.le_refl _) hgl hwf ha).2.mono ?_
 rintro e W' ⟨v',rfl,ρ',st,_,hv⟩
 simp only[_root_.Go.Vm.W.pack,VR] at hv
 subst hv
 refine⟨rfl,st.os,st.tape,st.output,st.size,fun x hx=>st.keep x hx fun b l hb _ _=>?_⟩
 apply Classical.byContradiction
 intro hn
 rw[hfree b (by omega)] at hb
 cases hb
end X
end Go.Vm
namespace Go.Vm
namespace X
open W
variable {α β σ:Type}
def Ret (o:Option β) (Q:β→Prop):Prop:=∃r,o=some r∧Q r
theorem Ret.eq {o:Option β} {r:β} (h:Ret o fun x=>x=r):o=some r:=by
 obtain⟨_,e,rfl⟩:=h
 exact e
theorem jas {r:β} {Q:β→Prop} (h:Q r):Ret (some r) Q:=⟨r,rfl,h⟩
theorem jac {c:Bool} {x:Option β} {Q:β→Prop} (hc:c=true) (h:Ret x Q):Ret (chk c x) Q:=by
 rw[hc];exact h
theorem jcr {c:Bool} {x y:Option β} {Q:β→Prop} (h1:c=true→Ret x Q) (h2:c=false→Ret y Q):Ret (bif c then x else y) Q:=by
 cases c with
 | true=>exact h1 rfl
 | false=>exact h2 rfl
theorem jaf {p:Prop} [Decidable p] {x y:Option β} {Q:β→Prop} (h1:p→Ret x Q) (h2:¬p→Ret y Q):Ret (bif decide p then x else y) Q:=by
 by_cases h:p
 ·rw[decide_eq_true h];exact h1 h
 ·rw[decide_eq_false h];exact h2 h
theorem jnh {k:σ→Option β} {f:(σ→Option β)→Option β} {Q:β→Prop} (I:σ→Prop) (hk:∀x,I x→Ret (k x) Q) (hf:∀j:σ→Option β,(∀x,I x→Ret (j x) Q)→Ret (f j) Q):Ret (jn k f) Q:=hf k hk
theorem ja7 {step:(σ→Option β)→σ→Option β} (Inv:σ→Prop) (m:σ→Nat) {Q:β→Prop} (h:∀s rec,Inv s→(∀s',Inv s'→m s'<m s→Ret (rec s') Q)→Ret (step rec s) Q):∀n s,Inv s→m s<n→Ret (jbl step n s) Q
 | 0,s,_,hm=>absurd hm (Nat.not_lt_zero _)
 | n+1,s,hi,hm=>h s _ hi fun s' h1 h2=>ja7 Inv m h n s' h1 (by omega)
theorem jan {n:Int} (h1: -9223372036854775808≤n) (h2:n≤9223372036854775807):jal n=true:=j6x.2 ⟨h1,h2⟩
theorem jeg {i:Int} {n:Nat} (h1:0≤i) (h2:i< (n:Int)):inb i n=true:=kbl.2 ⟨h1,h2⟩
theorem jg9 {n:Nat} (h:n≤10000000):jeo n=true:=jm6.2 h
end X
end Go.Vm
namespace Go.Vm
namespace X
open W Go.RowKit Go.Deep
variable {P:Program}
def kii:Value→Int
 | .int _ z=>z
 | _=>0
end X
end Go.Vm
namespace Go.Vm
namespace X
open W
variable {B:Base}
def jh3:(t:Ty)→t.den→List AV
 | .int k,x=>[.int k x]
 | .bool,x=>[.bool x]
 | .str,x=>[.str x]
 | .unit,_=>[]
 | .prod a b,x=>jh3 a x.1++jh3 b x.2
 | .arr _ t,x=>(x:List t.den).flatMap (jh3 t)
 | .sl _,_=>[.nils]
 | .slx _,_=>[.nils]
def dOK:(t:Ty)→t.den→Bool
 | .prod a b,x=>dOK a x.1&&dOK b x.2
 | .arr n t,x=>Nat.beq (List.length (α:=t.den) x) n&&List.all (α:=t.den) x (dOK t)
 | .sl t,x=>List.isEmpty (α:=t.den) x
 | .slx t,x=>List.isEmpty (α:=t.den) x
 | _,_=>true
theorem jwf {α:Type} {P:α→List AV→Prop} {f:α→List AV}:∀ {xs:List α},(∀x∈xs,P x (f x))→jd1 P xs (xs.flatMap f)
 | [],_=>rfl
 | x::xs,h=>⟨f x,xs.flatMap f,rfl,h x (List.mem_cons_self ..),jwf fun y hy=>h y (List.mem_cons_of_mem _ hy)⟩
theorem jn6 {F:jaj}:∀(t:Ty) (x:t.den),dOK t x=true→jb0 F t x (jh3 t x)
 | .int k,x,_=>rfl
 | .bool,x,_=>rfl
 | .str,x,_=>rfl
 | .unit,x,_=>rfl
 | .prod a b,x,h=>by
   simp only[dOK,Bool.and_eq_true] at h
   exact⟨_,_,rfl,jn6 a _ h.1,jn6 b _ h.2⟩
 | .arr n t,x,h=>by
   simp only[dOK,Bool.and_eq_true,jaa,decide_eq_true_eq] at h
   exact⟨h.1,jwf fun y hy=>jn6 t y (List.all_eq_true.1 h.2 y hy)⟩
 | .sl t,x,h=>by
   simp only[dOK,List.isEmpty_iff] at h
   exact⟨.nils,rfl,.inl ⟨h,rfl⟩⟩
 | .slx t,x,h=>by
   simp only[dOK,List.isEmpty_iff] at h
   exact⟨.nils,rfl,.inl ⟨h,rfl⟩⟩
abbrev GD:=Nat×((t:Ty)×List t.den)
def krv (l:List GD):Mem:=l.map fun g=>(gB+g.1,.fix g.2.1 g.2.2.length g.2.2)
theorem j6q {b:Nat} {sb:SB}:∀ {l:List GD},lkM (krv l) b=some sb→∃g∈l,b=gB+g.1∧sb=.fix g.2.1 g.2.2.length g.2.2
 | [],h=>by cases h
 | g::l,h=>by
   simp only[krv,List.map_cons,lkM] at h
   cases hq:Nat.beq (gB+g.1) b<;>rw[hq] at h<;>simp only[cond_true,cond_false] at h
   ·obtain⟨g',h1,h2⟩:=j6q (l:=l) h
    exact⟨g',List.mem_cons_of_mem _ h1,h2⟩
   ·cases h
    exact⟨g,List.mem_cons_self ..,(Nat.eq_of_beq_eq_true hq).symm,rfl⟩
theorem kf9 {es:List (Nat×List AV)} (hH:B.H0=jjx es) {l:List GD} (h1:l.all (fun g=>Nat.blt g.1 B.nx0&&g.2.2.all (dOK g.2.1))=true) (h2:l.map (fun g=>lkE es g.1)=l.map (fun g=>some (g.2.2.flatMap (jh3 g.2.1)))):GRel B nu0 (krv l):=by
 refine⟨fun b=>by simp[nu0],fun b sb hb=>?_⟩
 obtain⟨g,hg,rfl,rfl⟩:=j6q hb
 have a1:=List.all_eq_true.1 h1 g hg
 simp only[Bool.and_eq_true,Nat.blt,jae,decide_eq_true_eq] at a1
 have a2:lkE es g.1=some (g.2.2.flatMap (jh3 g.2.1)):=List.map_inj_left.1 h2 g hg
 obtain⟨k1,k2⟩:=kjk (B:=B) hH (by omega) a2
 refine⟨by omega,fun n=>rfl,rfl,[⟨g.1,false,.cells (g.2.2.flatMap (jh3 g.2.1))⟩],⟨false,_,?_,rfl,jwf fun x hx=>jn6 _ _ (List.all_eq_true.1 a1.2 x hx)⟩,fun e he=>?_⟩
 ·simp[nu0]
 ·rw[List.mem_singleton.1 he]
  exact⟨k1,k2⟩
theorem jab {B:Base} {memo:jn7} {prog:Tr CFn} {m:Nat} {t:TE} {T:List TE} (h:OKs B memo prog m [t]) (h':OKs B memo prog m T):OKs B memo prog m (t::T):=fun t' ht n hn=>by
 rcases List.mem_cons.1 ht with rfl | ht
 ·exact h _ (List.mem_singleton.2 rfl) n hn
 ·exact h' _ ht n hn
theorem jad {memo:jn7} {prog:Tr CFn}:jo1 memo prog []:=fun x hx=>by cases hx
theorem jam {memo:jn7} {prog:Tr CFn} {f:FuncId} {z:Fx} {C:List (FuncId×Fx)} (h:(∀vs,memo f vs=none)∧prog.get f=some z.cfn) (h':jo1 memo prog C):jo1 memo prog ((f,z)::C):=fun x hx=>by
 rcases List.mem_cons.1 hx with rfl | hx
 ·exact h
 ·exact h' x hx
end X
end Go.Vm
namespace Go.Vm
namespace X
open W
set_option maxRecDepth 10000
variable {B:Base} {memo:jn7} {prog:Tr CFn} {ro:Nat} {O:List Ent} {H:Tr Blk} {nx:Nat} {F:jaj}
end X
end Go.Vm
namespace Go.Vm
namespace X
open W Go.RowKit Go.Deep Go.ChangeShapes
variable {P:Program}
end X
end Go.Vm
namespace Go.Vm
namespace X
open W Go.RowKit Go.Deep Go.ChangeShapes
variable {P:Program}
end X
end Go.Vm
