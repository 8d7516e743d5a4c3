/-
  The extraction: jkm functions.
  The extraction: jkm functions: strips.Ends, Split, Join, Atoi.
  The extraction: jkm functions of numbers.
  The extraction: a law's call in the model, with arguments in memory.
  Plain laws about extracted functions: what they return.
  The extraction: a law's slice arguments, as blocks that are only read.
  The extraction: the program's variables as plain data.
  The extraction: jkm functions that take rows of ints and give them back with others in between (slices.Grow of nil, Insert, Replace).
  The extraction: a law's slice of arrays of three ints, as a block that is only read.
-/
import Derived.Test.YtahplmacekfjgaaGreatDoorXG6
import Derived.Deep.Slices
import Derived.Test.YtahplmacekfjgaaGreatDoorVmY4
import Derived.Laws.IdiomArrays
set_option linter.unusedSimpArgs false
set_option linter.unusedVariables false
set_option linter.unusedSectionVars false
set_option linter.unnecessarySimpa false
namespace Go.Vm
namespace X
open W
variable {B:Base} {memo:jky} {prog:Tr CFn} {ro:Nat} {O:List Ent} {H:Tr Blk} {nx:Nat} {F:jai}
theorem j96 (h:HK B ro O H nx) {nx':Nat} (hn:nx≤nx'):HK B ro O H nx':=
 ⟨h.r0,by have:=h.r1;omega,h.base,fun e he=>⟨by have:=(h.ent e he).1;omega,(h.ent e he).2⟩,h.nd⟩
theorem jm9 {t:TE} (h:∀a r,t.run a=some r→∀ro O H nx,HK B ro O H nx→∀A:jai,(∀x∈A,Has O x.1 x.2∨jjc B x)→∀vs,jmv A t.ins a vs []→
  ∃g v E N H' nx' F',memo t.f vs=some g∧g H nx ro=some (v,H',nx')∧HK B ro (E++(N++O)) H' nx'∧(∀x∈E,x.w=true)∧(∀x∈F',Has N x.1 x.2∨x∈A∨jjc B x)∧kd8 F' t.outs r v E) (hns:t.ins.any Rep.owns=false:=by rfl):OKs B memo prog 1 [t]:=by
 intro t' ht n hn
 rw[List.mem_singleton.1 ht]
 intro a r hr ro O E0 H nx hk hw A hA vs hv
 have hE:=jy8 hns hv
 subst hE
 match n,hn with
 | n+1,_=>
   obtain⟨g,v,E,N,H',nx',F',h1,h2,h3,h4,h5,h6⟩:=h a r hr ro O H nx hk A hA vs hv
   refine⟨v,E,N,H',nx',F',?_,h3,h4,h5,h6⟩
   simp only[jq3,h1]
   rw[if_pos hk.base]
   exact h2
theorem j7a (hk:HK B ro O H nx) {A:jai} (hA:∀x∈A,Has O x.1 x.2∨jjc B x) {b:Nat} {x:HB} (hx:(b,x)∈A):x.At H b:=by
 rcases hA _ hx with h | ⟨h1,h2⟩
 ·exact(hk.at h).2
 ·exact h2.congr (hk.base _ h1)
theorem jtf {α:Type} {P:α→List AV→Prop} {f:α→AV} (hP:∀x,P x [f x]):∀(xs:List α),jcv P xs (xs.map f)
 | []=>rfl
 | x::xs=>⟨[f x],xs.map f,rfl,hP x,jtf hP xs⟩
theorem j27 {t:Ty} (ht:t.size=1) {f:t.den→AV} (hf:∀x,jbo F t x [f x]) (h1:∀x,jqy (f x)=true) {b:Nat} (L:List t.den):j4o F t L (some (List.length (α:=t.den) L)) (.sl b 0 (List.length (α:=t.den) L) (some (List.length (α:=t.den) L)) 1) [⟨b,true,.cells (L.map f)⟩]:=by
 refine⟨(b,_),rfl,by omega,.inr ⟨true,_,rfl,.inr ⟨some (List.length (α:=t.den) L),(L.map f).length,by rw[ht],rfl,by rw[ht];simp,fun m hm=>?_,fun m hm=>hm⟩,?_,?_⟩⟩
 ·cases hm;rw[ht];simp
 ·rw[ht,Nat.mul_one,List.take_of_length_le (by simp)]
  exact jtf hf L
 ·rw[List.all_map];exact List.all_eq_true.2 fun x _=>h1 x
end X
end Go.Vm
namespace Go.Vm
namespace X
open W
variable {B:Base} {memo:jky} {prog:Tr CFn}
theorem jm4 {A:jai} {N:List Ent}:∀x∈([]:jai),Has N x.1 x.2∨x∈A∨jjc B x:=fun x hx=>by cases hx
theorem j0b:∀x∈([]:List Ent),x.w=true:=fun x hx=>by cases hx
def j5j (a:List Nat×List Nat):Option (List (List Nat)):=bif a.1.length.ble 1000000&& !(a.2.length.beq 0) then some (jed a.1 a.2) else none
theorem j5c {f:FuncId} (hm:∀as g,jt4 f f as=some g→memo f as=some g):OKs B memo prog 1 [⟨f,[.d .str,.d .str],[.ownx .str],j5j⟩]:=by
 refine jm9 fun a r hr ro O H nx hk A hA vs hv=>?_
 obtain⟨v1,_,_,_,rfl,_,⟨_,h1,_⟩,v2,rfl,_,h2,_⟩:=hv
 obtain⟨s,t⟩:=a
 have h1:v1=AV.str s:=by simpa[jbo] using h1
 have h2:v2=AV.str t:=by simpa[jbo] using h2
 subst h1;subst h2
 obtain⟨hb,hr⟩:=jaf hr
 cases hr
 refine⟨fun H nx _=>some (.sl nx 0 (jed s t).length (some (jed s t).length) 1,H.set nx (.cells (put ((jed s t).map AV.str) 0 .e) ((jed s t).map AV.str).length),nx+1),_,[⟨nx,true,.cells ((jed s t).map AV.str)⟩],[],_,_,[],hm _ _ ?_,rfl,hk.cells _,fun x hx=>?_,jm4,[_],rfl,_,rfl,_,rfl,j27 (t:=.str) rfl (f:=AV.str) (fun _=>rfl) (fun _=>rfl) (jed s t)⟩
 ·have e:jt4 f f [.str s,.str t]=bif s.length.ble 1000000&& !(t.length.beq 0) then some (fun H nx _=>some (.sl nx 0 (jed s t).length (some (jed s t).length) 1,H.set nx (.cells (put ((jed s t).map AV.str) 0 .e) ((jed s t).map AV.str).length),nx+1)) else none:=by
   simp only[jt4,jaa,decide_true,cond_true]
  exact e.trans (by erw[hb];rfl)
 ·rw[List.mem_singleton.1 hx]
def kdc (s:List Nat):Option (Int×Bool):=bif s.length.ble 1000000 then(match Lib.atoiAll (u8 s) with
 | .ok v=>some (v,true)
 | Lib.NumEnd.syntax=>some (0,false)
 | .range=>some (Lib.atoiSat (u8 s),false)) else none
theorem j8n {f:FuncId} {ty:TypeId} (hm:∀as g,jzn f ty f as=some g→memo f as=some g):OKs B memo prog 1 [⟨f,[.d .str],[.d (.int .i64),.err],kdc⟩]:=by
 refine jm9 fun s r hr ro O H nx hk A hA vs hv=>?_
 obtain⟨v1,rfl,_,h1,_⟩:=hv
 have h1:v1=AV.str s:=by simpa[jbo] using h1
 subst h1
 obtain⟨hb,hr⟩:=jaf hr
 split at hr<;>cases hr
 ·rename_i v e
  refine⟨fun H nx _=>some (.tup [.int .i64 v,.nili],H,nx),_,[],[],_,_,[],hm _ _ ?_,rfl,hk,j0b,jm4,[_,_],rfl,_,[_],[],[],rfl,rfl,⟨rfl,rfl,rfl⟩,⟨_,rfl,_,rfl,.inl ⟨rfl,rfl⟩,rfl⟩⟩
  simp only[jzn,jaa,decide_true,cond_true]
  erw[hb,cond_true]
  simp only[e,kej]
 ·rename_i e
  refine⟨fun H nx _=>some (.tup [.int .i64 0,.ifc ty (.ptr nx 0)],H,nx+1),_,[],[],_,_,[],hm _ _ ?_,rfl,j96 hk (Nat.le_succ _),j0b,jm4,[_,_],rfl,_,[_],[],[],rfl,rfl,⟨rfl,rfl,rfl⟩,⟨_,rfl,_,rfl,.inr ⟨rfl,_,_,rfl⟩,rfl⟩⟩
  simp only[jzn,jaa,decide_true,cond_true]
  erw[hb,cond_true]
  simp only[e,kej]
 ·rename_i e
  refine⟨fun H nx _=>some (.tup [.int .i64 (Lib.atoiSat (u8 s)),.ifc ty (.ptr nx 0)],H,nx+1),_,[],[],_,_,[],hm _ _ ?_,rfl,j96 hk (Nat.le_succ _),j0b,jm4,[_,_],rfl,_,[_],[],[],rfl,rfl,⟨rfl,rfl,rfl⟩,⟨_,rfl,_,rfl,.inr ⟨rfl,_,_,rfl⟩,rfl⟩⟩
  simp only[jzn,jaa,decide_true,cond_true]
  erw[hb,cond_true]
  simp only[e,kej]
end X
end Go.Vm
namespace Go.Vm
namespace X
open W
variable {B:Base} {memo:jky} {prog:Tr CFn}
def kam (x:Int):Option Int:=bif decide (0≤x∧x≤18446744073709551615) then some ((Lib.bitLen x.toNat:Nat):Int) else none
def kal (x:Int):Option Int:=bif decide (0≤x∧x≤64) then some ((Lib.l10 x.toNat:Nat):Int) else none
theorem j5e {f:FuncId} (hm:∀as g,kbj f f as=some g→memo f as=some g):OKs B memo prog 1 [⟨f,[.d (.int .u64)],[.d (.int .i64)],kam⟩]:=by
 refine jm9 fun x r hr ro O H nx hk A hA vs hv=>?_
 obtain⟨v1,rfl,_,h1,_⟩:=hv
 have h1:v1=AV.int .u64 x:=by simpa[jbo] using h1
 subst h1
 obtain⟨hb,hr⟩:=jaf hr
 rw[decide_eq_true_eq] at hb
 cases hr
 exact⟨fun H nx _=>some (.int .i64 (Lib.bitLen (x:Int).toNat),H,nx),_,[],[],_,_,[],hm _ _ (by unfold kbj;rw[jaa,decide_eq_true rfl];simp only[cond_true];rw[if_pos hb]),rfl,hk,j0b,jm4,[_],rfl,_,rfl,rfl,rfl,rfl⟩
theorem j5d {f:FuncId} (hm:∀as g,kbh f f as=some g→memo f as=some g):OKs B memo prog 1 [⟨f,[.d (.int .i64)],[.d (.int .i64)],kal⟩]:=by
 refine jm9 fun x r hr ro O H nx hk A hA vs hv=>?_
 obtain⟨v1,rfl,_,h1,_⟩:=hv
 have h1:v1=AV.int .i64 x:=by simpa[jbo] using h1
 subst h1
 obtain⟨hb,hr⟩:=jaf hr
 rw[decide_eq_true_eq] at hb
 cases hr
 exact⟨fun H nx _=>some (.int .i64 (Lib.l10 (x:Int).toNat),H,nx),_,[],[],_,_,[],hm _ _ (by unfold kbh;rw[jaa,decide_eq_true rfl];simp only[cond_true];rw[if_pos hb]),rfl,hk,j0b,jm4,[_],rfl,_,rfl,rfl,rfl,rfl⟩
end X
end Go.Vm
namespace Go.Vm
namespace X
open W Go.RowKit
variable {P:Program} {gl:List Nat} {B:Base}
theorem khz {ρ:RM} {H:Tr Blk} {W:World} {b:Nat} {k:Blk} {l:Loc} (h:HR ρ H W) (hH:∀x,(H.get x).isSome→x<RO) (hb:b<RO) (hl:ρ b=some l) (hk:k.Rel false ρ l W):
  HR ρ (H.set b k) W∧∀x,((H.set b k).get x).isSome→x<RO:=by
 have live:∀x,((H.set b k).get x).isSome→x<RO:=fun x hx=>by
  rw[Tr.get_set] at hx
  by_cases e:x=b
  ·rw[e];exact hb
  ·rw[if_neg e] at hx;exact hH x hx
 refine⟨⟨fun x k' l' hx hl'=>?_,fun x y l1 l2 h1 h2 _ _ _=>.inr ⟨live x h1,live y h2⟩⟩,live⟩
 rw[Tr.get_set] at hx
 by_cases e:x=b
 ·subst e
  rw[if_pos rfl] at hx
  cases hx
  rw[hl] at hl'
  cases hl'
  rw[show RO.ble x=false from by rw[jab];exact decide_eq_false (by omega)]
  exact hk
 ·rw[if_neg e] at hx
  exact h.blk x k' l' hx hl'
theorem j0v {memo:jky} (hmemo:jgm P gl B memo) (hm:P.follows .mixedOrders=true) {prog:Tr CFn} (hp:j25 P gl prog) {n:Nat} {t:TE} (ht:t.OK B (jq3 B memo prog n)) (ho:t.outs=[.d .bool]) {a:jho t.ins} (hr:t.run a=some (ho▸true))
  {O:List Ent} {H:Tr Blk} {nx:Nat} (hk:HK B nx O H nx) {A:jai} (hA:∀x∈A,Has O x.1 x.2∨jjc B x) {vs:List AV} (hv:jmv A t.ins a vs [])
  {ρ:RM} {W:World} (hR:HR ρ H W) (hgl:GLok gl ρ) (hfree:∀b,nx≤b→ρ b=none) (hwf:WF H nx) {args:Array Value} (ha:VRs ρ vs args.toList):
  Calls P t.f args W fun e W'=>e=.returned (.bool true)∧Below W.heap.size W W':=by
 obtain⟨v,E,N,H',nx',F',h1,_,_,_,vs',rfl,hv'⟩:=ht a _ hr nx O [] H nx hk (fun _ h=>by cases h) A hA vs hv
 obtain⟨f,ins,outs,run⟩:=t
 simp only at ho
 subst ho
 obtain⟨u,rfl,hu⟩:=hv'
 have hu:u=AV.bool true:=by
  unfold jqf at hu
  simp only[Rep.agg,Ty.agg,cond_false] at hu
  obtain⟨_,h2,_⟩:=hu
  simpa[jbo] using h2
 subst hu
 obtain⟨_,key⟩:=(jr3 hmemo hm hp n).1 _ _ _ _ _ _ _ _ h1
 refine(key ρ W args hR (fun b hb _=>hfree b hb) (Nat.le_refl _) hgl hwf ha).2.mono ?_
 rintro e W' ⟨v',rfl,ρ',st,_,hv⟩
 simp only[_root_.Go.Vm.W.pack,VR] at hv
 subst hv
 refine⟨rfl,st.os,st.tape,st.output,st.size,fun x hx=>st.keep x hx fun b l hb _ _=>?_⟩
 apply Classical.byContradiction
 intro hn
 rw[hfree b (by omega)] at hb
 cases hb
end X
end Go.Vm
namespace Go.Vm
namespace X
open W
variable {α β σ:Type}
def Ret (o:Option β) (Q:β→Prop):Prop:=∃r,o=some r∧Q r
theorem Ret.eq {o:Option β} {r:β} (h:Ret o fun x=>x=r):o=some r:=by
 obtain⟨_,e,rfl⟩:=h
 exact e
theorem ja4 {r:β} {Q:β→Prop} (h:Q r):Ret (some r) Q:=⟨r,rfl,h⟩
theorem jac {c:Bool} {x:Option β} {Q:β→Prop} (hc:c=true) (h:Ret x Q):Ret (chk c x) Q:=by
 rw[hc];exact h
theorem j05 {c:Bool} {x y:Option β} {Q:β→Prop} (h1:c=true→Ret x Q) (h2:c=false→Ret y Q):Ret (bif c then x else y) Q:=by
 cases c with
 | true=>exact h1 rfl
 | false=>exact h2 rfl
theorem jag {p:Prop} [Decidable p] {x y:Option β} {Q:β→Prop} (h1:p→Ret x Q) (h2:¬p→Ret y Q):Ret (bif decide p then x else y) Q:=by
 by_cases h:p
 ·rw[decide_eq_true h];exact h1 h
 ·rw[decide_eq_false h];exact h2 h
theorem jpe {x:Option α} {f:α→Option β} {Q1:α→Prop} {Q:β→Prop} (h:Ret x Q1) (h2:∀r,Q1 r→Ret (f r) Q):Ret (x.bind f) Q:=by
 obtain⟨r,e,h⟩:=h
 rw[e]
 exact h2 r h
theorem j21 {k:σ→Option β} {f:(σ→Option β)→Option β} {Q:β→Prop} (I:σ→Prop) (hk:∀x,I x→Ret (k x) Q) (hf:∀j:σ→Option β,(∀x,I x→Ret (j x) Q)→Ret (f j) Q):Ret (jn k f) Q:=hf k hk
theorem jbb {step:(σ→Option β)→σ→Option β} (Inv:σ→Prop) (m:σ→Nat) {Q:β→Prop} (h:∀s rec,Inv s→(∀s',Inv s'→m s'<m s→Ret (rec s') Q)→Ret (step rec s) Q):∀n s,Inv s→m s<n→Ret (jde step n s) Q
 | 0,s,_,hm=>absurd hm (Nat.not_lt_zero _)
 | n+1,s,hi,hm=>h s _ hi fun s' h1 h2=>jbb Inv m h n s' h1 (by omega)
theorem ja6 {n:Int} (h1: -9223372036854775808≤n) (h2:n≤9223372036854775807):jaq n=true:=j2h.2 ⟨h1,h2⟩
theorem jc8 {i:Int} {n:Nat} (h1:0≤i) (h2:i< (n:Int)):inb i n=true:=j61.2 ⟨h1,h2⟩
theorem jh5 {n:Nat} (h:n≤10000000):jfo n=true:=jls.2 h
theorem jv3 {L:List Int} {i:Nat} (h:i<L.length):L.getD i 0∈L:=by
 simp[List.getD,List.getElem?_eq_getElem h]
end X
end Go.Vm
namespace Go.Vm
namespace X
open W Go.RowKit Go.Deep
variable {P:Program}
def kd3:Value→Int
 | .int _ z=>z
 | _=>0
end X
end Go.Vm
namespace Go.Vm
namespace X
open W
variable {B:Base}
def jnz:(t:Ty)→t.den→List AV
 | .int k,x=>[.int k x]
 | .bool,x=>[.bool x]
 | .str,x=>[.str x]
 | .unit,_=>[]
 | .prod a b,x=>jnz a x.1++jnz b x.2
 | .arr _ t,x=>(x:List t.den).flatMap (jnz t)
 | .sl _,_=>[.nils]
 | .slx _,_=>[.nils]
def dOK:(t:Ty)→t.den→Bool
 | .prod a b,x=>dOK a x.1&&dOK b x.2
 | .arr n t,x=>Nat.beq (List.length (α:=t.den) x) n&&List.all (α:=t.den) x (dOK t)
 | .sl t,x=>List.isEmpty (α:=t.den) x
 | .slx t,x=>List.isEmpty (α:=t.den) x
 | _,_=>true
theorem jtg {α:Type} {P:α→List AV→Prop} {f:α→List AV}:∀ {xs:List α},(∀x∈xs,P x (f x))→jcv P xs (xs.flatMap f)
 | [],_=>rfl
 | x::xs,h=>⟨f x,xs.flatMap f,rfl,h x (List.mem_cons_self ..),jtg fun y hy=>h y (List.mem_cons_of_mem _ hy)⟩
theorem jme {F:jai}:∀(t:Ty) (x:t.den),dOK t x=true→jbo F t x (jnz t x)
 | .int k,x,_=>rfl
 | .bool,x,_=>rfl
 | .str,x,_=>rfl
 | .unit,x,_=>rfl
 | .prod a b,x,h=>by
   simp only[dOK,Bool.and_eq_true] at h
   exact⟨_,_,rfl,jme a _ h.1,jme b _ h.2⟩
 | .arr n t,x,h=>by
   simp only[dOK,Bool.and_eq_true,jaa,decide_eq_true_eq] at h
   exact⟨h.1,jtg fun y hy=>jme t y (List.all_eq_true.1 h.2 y hy)⟩
 | .sl t,x,h=>by
   simp only[dOK,List.isEmpty_iff] at h
   exact⟨.nils,rfl,.inl ⟨h,rfl⟩⟩
 | .slx t,x,h=>by
   simp only[dOK,List.isEmpty_iff] at h
   exact⟨.nils,rfl,.inl ⟨h,rfl⟩⟩
abbrev GD:=Nat×((t:Ty)×List t.den)
def ki7 (l:List GD):Mem:=l.map fun g=>(gB+g.1,.fix g.2.1 g.2.2.length g.2.2)
theorem j13 {b:Nat} {sb:SB}:∀ {l:List GD},lkM (ki7 l) b=some sb→∃g∈l,b=gB+g.1∧sb=.fix g.2.1 g.2.2.length g.2.2
 | [],h=>by cases h
 | g::l,h=>by
   simp only[ki7,List.map_cons,lkM] at h
   cases hq:Nat.beq (gB+g.1) b<;>rw[hq] at h<;>simp only[cond_true,cond_false] at h
   ·obtain⟨g',h1,h2⟩:=j13 (l:=l) h
    exact⟨g',List.mem_cons_of_mem _ h1,h2⟩
   ·cases h
    exact⟨g,List.mem_cons_self ..,(Nat.eq_of_beq_eq_true hq).symm,rfl⟩
theorem khf {es:List (Nat×List AV)} (hH:B.H0=jjk es) {l:List GD} (h1:l.all (fun g=>Nat.blt g.1 B.nx0&&g.2.2.all (dOK g.2.1))=true) (h2:l.map (fun g=>lkE es g.1)=l.map (fun g=>some (g.2.2.flatMap (jnz g.2.1)))):GRel B nu0 (ki7 l):=by
 refine⟨fun b=>by simp[nu0],fun b sb hb=>?_⟩
 obtain⟨g,hg,rfl,rfl⟩:=j13 hb
 have a1:=List.all_eq_true.1 h1 g hg
 simp only[Bool.and_eq_true,Nat.blt,jab,decide_eq_true_eq] at a1
 have a2:lkE es g.1=some (g.2.2.flatMap (jnz g.2.1)):=List.map_inj_left.1 h2 g hg
 obtain⟨k1,k2⟩:=kds (B:=B) hH (by omega) a2
 refine⟨by omega,fun n=>rfl,rfl,[⟨g.1,false,.cells (g.2.2.flatMap (jnz g.2.1))⟩],⟨false,_,?_,rfl,jtg fun x hx=>jme _ _ (List.all_eq_true.1 a1.2 x hx)⟩,fun e he=>?_⟩
 ·simp[nu0]
 ·rw[List.mem_singleton.1 he]
  exact⟨k1,k2⟩
theorem jad {B:Base} {memo:jky} {prog:Tr CFn} {m:Nat} {t:TE} {T:List TE} (h:OKs B memo prog m [t]) (h':OKs B memo prog m T):OKs B memo prog m (t::T):=fun t' ht n hn=>by
 rcases List.mem_cons.1 ht with rfl | ht
 ·exact h _ (List.mem_singleton.2 rfl) n hn
 ·exact h' _ ht n hn
theorem jae {memo:jky} {prog:Tr CFn}:jm8 memo prog []:=fun x hx=>by cases hx
theorem ja8 {memo:jky} {prog:Tr CFn} {f:FuncId} {z:Fx} {C:List (FuncId×Fx)} (h:(∀vs,memo f vs=none)∧prog.get f=some z.cfn) (h':jm8 memo prog C):jm8 memo prog ((f,z)::C):=fun x hx=>by
 rcases List.mem_cons.1 hx with rfl | hx
 ·exact h
 ·exact h' x hx
end X
end Go.Vm
namespace Go.Vm
namespace X
open W
set_option maxRecDepth 10000
variable {B:Base} {memo:jky} {prog:Tr CFn} {ro:Nat} {O:List Ent} {H:Tr Blk} {nx:Nat} {F:jai}
end X
end Go.Vm
namespace Go.Vm
namespace X
open W Go.RowKit Go.Deep Go.ChangeShapes
variable {P:Program}
def jzv (g:Nat→Int) (n:Nat):List (List Int):=(List.range n).map fun i=>[g (i*3),g (i*3+1),g (i*3+2)]
theorem jla {g:Nat→Int} {n:Nat}:(jzv g n).length=n:=by simp[jzv]
theorem j3q {g:Nat→Int} {n:Nat}:jzv g (n+1)=jzv g n++[[g (n*3),g (n*3+1),g (n*3+2)]]:=by simp[jzv,List.range_succ]
theorem jzx {α:Type} {g:Nat→α} {n:Nat}:(List.range ((n+1)*3)).map g=(List.range (n*3)).map g++[g (n*3),g (n*3+1),g (n*3+2)]:=by
 rw[show(n+1)*3=n*3+1+1+1 by omega]
 simp[List.range_succ]
theorem jxd {A:jai} {k:IntKind} {g:Nat→Int}:∀n,jcv (jbo A (.arr 3 (.int k))) (jzv g n) ((List.range (n*3)).map fun q=>AV.int k (g q))
 | 0=>rfl
 | n+1=>by
   rw[j3q,jzx]
   exact jcr (jxd n) ⟨[.int k (g (n*3)),.int k (g (n*3+1)),.int k (g (n*3+2))],[],rfl,⟨rfl,[.int k (g (n*3))],_,rfl,rfl,[.int k (g (n*3+1))],_,rfl,rfl,[.int k (g (n*3+2))],[],rfl,rfl,rfl⟩,rfl⟩
theorem j3m {k:IntKind} {H:Type} {enc:TypeId×Value→H} {W:World} {fuel b0:Nat} {t e u:TypeId} {v:Value} {x:DataW H×List MemPlace} (ht:P.underlying t=some (.slice e)) (he:P.underlying e=some (.array 3 u)) (hu:P.underlying u=some (.int k)) (hcu:P.cellsOf u=1) (hc:P.cellsOf e=3)
  (h:DataW.trod enc P W 0 (fun _=>true) true fuel t [v]=some x) (hok:Cell.okWide P W .any b0 t v) (hfz:W.noneFrozen x.2):
  v=.slice none 0 0∨∃(g:Nat→Int) (len cap off blk base lim:Nat),(∀q,q<len*3→(Lit.int k (g q)).wf=true)∧v=.slice (some ⟨blk,off,none⟩) len cap∧len≤cap∧(off=base∨cap=0)∧base+cap*3=lim∧
   ∀ρ,Blk.Rel false ρ (.cells (put ((List.range (len*3)).map fun q=>AV.int k (g q)) 0 .e) (len*3)) ⟨blk,base,lim⟩ W:=by
 rcases open_slice ht h with⟨hv,_⟩ | ⟨a,len,cap,m,n,D,Pl,hv,_,hl,hm,hmm,hx,hV⟩
 ·left
  simpa using hv
 right
 have hv:v=.slice (some a) len cap:=by simpa using hv
 subst hv
 simp only[if_true] at hmm
 subst hmm
 simp only[Cell.okWide,ht,Cell.ok,World.has] at hok
 obtain⟨_,_,_,hspot,row,cells,hsh,_⟩:=hok
 obtain⟨blk,off,spot⟩:=a
 simp only at hspot hsh
 subst hspot
 unfold World.shape? at hsh
 split at hsh<;>try (cases hsh;done)
 rename_i c el fr hheap
 have hadd:∀o i,(⟨blk,o,none⟩:Addr).add i=⟨blk,o+i,none⟩:=fun o i=>by
  unfold Addr.add
  by_cases h0:i=0<;>simp[h0]
 have hcell:∀i,W.cell? (⟨blk,off+i,none⟩:Addr)=c[off+i]?:=fun i=>by
  simp only[World.cell?,hheap,Option.isSome_none,Bool.false_eq_true,if_false]
 have hz:∀q,q<m*3→∃z,c[off+q]?=some (.int k z)∧(Lit.int k z).wf=true:=fun q hq=>by
  obtain⟨cs',h1,h2⟩:=hV (q / 3) (by omega)
  rw[hc] at h1
  obtain⟨_,jbh,hget⟩:=World.cells?_some h1
  match cs',jbh with
  | [c0,c1,c2],_=>
    obtain⟨y0,y1,y2,n',_,t0,t1,t2⟩:=trod_array3 he hcu h2
    obtain⟨z0,e0,_,w0⟩:=DataW.trod_int hu t0
    obtain⟨z1,e1,_,w1⟩:=DataW.trod_int hu t1
    obtain⟨z2,e2,_,w2⟩:=DataW.trod_int hu t2
    have g:=hget (q%3) (by omega)
    rw[hadd,hadd,Nat.add_assoc,hcell,show q / 3*3+q%3=q by omega] at g
    rw[g]
    have hm3:q%3<3:=Nat.mod_lt _ (by decide)
    match hq3:q%3,hm3 with
    | 0,_=>exact⟨z0,by simpa using e0,w0⟩
    | 1,_=>exact⟨z1,by simpa using e1,w1⟩
    | 2,_=>exact⟨z2,by simpa using e2,w2⟩
 have hg:∀q,q<m*3→c[off+q]?=some (.int k (kd3 ((c[off+q]?).getD (.bool false))))∧(Lit.int k (kd3 ((c[off+q]?).getD (.bool false)))).wf=true:=fun q hq=>by
  obtain⟨z,e1,e2⟩:=hz q hq
  rw[e1]
  exact⟨rfl,e2⟩
 by_cases h0:m=0
 ·have hl0:len=0:=by omega
  subst hl0
  refine⟨fun q=>kd3 ((c[off+q]?).getD (.bool false)),0,m,off,blk,0,0,fun q hq=>by omega,rfl,hl,.inr h0,by omega,fun ρ=>⟨c,el,fr,hheap,by simp,by simp,fun i h1 h2=>by have h2:=h2 rfl;simp only at h1 h2;omega,fun i hi=>by omega⟩⟩
 ·refine⟨fun q=>kd3 ((c[off+q]?).getD (.bool false)),len,m,off,blk,off,off+m*3,fun q hq=>(hg q (by omega)).2,rfl,hl,.inl rfl,rfl,fun ρ=>⟨c,el,fr,hheap,by simp only;omega,?_,fun i h1 h2=>?_,fun i hi=>?_⟩⟩
  ·have:=(Array.getElem?_eq_some_iff.1 (hg (m*3-1) (by omega)).1).1
   simp only
   omega
  ·have h2:=h2 rfl
   simp only at h1 h2
   have:=hfz blk i (by
    rw[hx,hc]
    refine List.mem_append.2 (.inl (List.mem_map.2 ⟨i-off,List.mem_range.2 (by omega),?_⟩))
    simp only
    congr 1
    omega)
   unfold World.frozen? at this
   rw[hheap] at this
   obtain⟨fl,fh⟩:=fr
   simp only[Bool.and_eq_false_iff,decide_eq_false_iff_not] at this
   simp only
   omega
  ·obtain⟨e1,e3⟩:=hg i (by omega)
   refine⟨.int k (kd3 ((c[off+i]?).getD (.bool false))),_,?_,e1,?_⟩
   ·rw[jet,if_pos (by simp;omega)]
    simp[hi]
   ·simp[VR,kd3]
end X
end Go.Vm
