/-
  The extraction: jn7 functions.
  The extraction: jn7 functions: strips.Ends, Split, Join, Atoi.
  The extraction: jn7 functions of numbers.
  The extraction: a law's call in the model, with arguments in memory.
  Plain laws about extracted functions: what they return.
  The extraction: a law's slice arguments, as blocks that are only read.
  The extraction: the program's variables as plain data.
  The extraction: jn7 functions that take rows of ints and give them back with others in between (slices.Grow of nil, Insert, Replace).
  The extraction: a law's slice of arrays of three ints, as a block that is only read.
-/
import Derived.Test.YtahplmacekfjgaaGreatDoorXG6
import Derived.Deep.Slices
import Derived.Test.YtahplmacekfjgaaGreatDoorVmY4
import Derived.Laws.IdiomArrays
set_option linter.unusedSimpArgs false
set_option linter.unusedVariables false
set_option linter.unusedSectionVars false
set_option linter.unnecessarySimpa false
namespace Go.Vm
namespace X
open W
variable {B:Base} {memo:jm7} {prog:Tr CFn} {ro:Nat} {O:List Ent} {H:Tr Blk} {nx:Nat} {F:jah}
theorem khx (h:HK B ro O H nx) {nx':Nat} (hn:nx≤nx'):HK B ro O H nx':=
 ⟨h.r0,by have:=h.r1;omega,h.base,fun e he=>⟨by have:=(h.ent e he).1;omega,(h.ent e he).2⟩,h.nd⟩
theorem jzo {t:TE} (h:∀a r,t.run a=some r→∀ro O H nx,HK B ro O H nx→∀A:jah,(∀x∈A,Has O x.1 x.2∨ji4 B x)→∀vs,jmx A t.ins a vs []→
  ∃g v E N H' nx' F',memo t.f vs=some g∧g H nx ro=some (v,H',nx')∧HK B ro (E++(N++O)) H' nx'∧(∀x∈E,x.w=true)∧(∀x∈F',Has N x.1 x.2∨x∈A∨ji4 B x)∧kd5 F' t.outs r v E) (hns:t.ins.any Rep.owns=false:=by rfl):OKs B memo prog 1 [t]:=by
 intro t' ht n hn
 rw[List.mem_singleton.1 ht]
 intro a r hr ro O E0 H nx hk hw A hA vs hv
 have hE:=jzb hns hv
 subst hE
 match n,hn with
 | n+1,_=>
   obtain⟨g,v,E,N,H',nx',F',h1,h2,h3,h4,h5,h6⟩:=h a r hr ro O H nx hk A hA vs hv
   refine⟨v,E,N,H',nx',F',?_,h3,h4,h5,h6⟩
   simp only[jq8,h1]
   rw[if_pos hk.base]
   exact h2
theorem j6v (hk:HK B ro O H nx) {A:jah} (hA:∀x∈A,Has O x.1 x.2∨ji4 B x) {b:Nat} {x:HB} (hx:(b,x)∈A):x.At H b:=by
 rcases hA _ hx with h | ⟨h1,h2⟩
 ·exact(hk.at h).2
 ·exact h2.congr (hk.base _ h1)
end X
end Go.Vm
namespace Go.Vm
namespace X
open W
variable {B:Base} {memo:jm7} {prog:Tr CFn}
theorem j2f {A:jah} {N:List Ent}:∀x∈([]:jah),Has N x.1 x.2∨x∈A∨ji4 B x:=fun x hx=>by cases hx
theorem j8v:∀x∈([]:List Ent),x.w=true:=fun x hx=>by cases hx
end X
end Go.Vm
namespace Go.Vm
namespace X
open W
variable {B:Base} {memo:jm7} {prog:Tr CFn}
def kae (x:Int):Option Int:=bif decide (0≤x∧x≤18446744073709551615) then some ((Lib.bitLen x.toNat:Nat):Int) else none
def kad (x:Int):Option Int:=bif decide (0≤x∧x≤64) then some ((Lib.l10 x.toNat:Nat):Int) else none
theorem kbb {f:FuncId} (hm:∀as g,kbc f f as=some g→memo f as=some g):OKs B memo prog 1 [⟨f,[.d (.int .u64)],[.d (.int .i64)],kae⟩]:=by
 refine jzo fun x r hr ro O H nx hk A hA vs hv=>?_
 obtain⟨v1,rfl,_,h1,_⟩:=hv
 have h1:v1=AV.int .u64 x:=by simpa[jbt] using h1
 subst h1
 obtain⟨hb,hr⟩:=jag hr
 rw[decide_eq_true_eq] at hb
 cases hr
 exact⟨fun H nx _=>some (.int .i64 (Lib.bitLen (x:Int).toNat),H,nx),_,[],[],_,_,[],hm _ _ (by unfold kbc;rw[jaa,decide_eq_true rfl];simp only[cond_true];rw[if_pos hb]),rfl,hk,j8v,j2f,[_],rfl,_,rfl,rfl,rfl,rfl⟩
theorem ka8 {f:FuncId} (hm:∀as g,ka9 f f as=some g→memo f as=some g):OKs B memo prog 1 [⟨f,[.d (.int .i64)],[.d (.int .i64)],kad⟩]:=by
 refine jzo fun x r hr ro O H nx hk A hA vs hv=>?_
 obtain⟨v1,rfl,_,h1,_⟩:=hv
 have h1:v1=AV.int .i64 x:=by simpa[jbt] using h1
 subst h1
 obtain⟨hb,hr⟩:=jag hr
 rw[decide_eq_true_eq] at hb
 cases hr
 exact⟨fun H nx _=>some (.int .i64 (Lib.l10 (x:Int).toNat),H,nx),_,[],[],_,_,[],hm _ _ (by unfold ka9;rw[jaa,decide_eq_true rfl];simp only[cond_true];rw[if_pos hb]),rfl,hk,j8v,j2f,[_],rfl,_,rfl,rfl,rfl,rfl⟩
end X
end Go.Vm
namespace Go.Vm
namespace X
open W Go.RowKit
variable {P:Program} {gl:List Nat} {B:Base}
theorem khw {ρ:RM} {H:Tr Blk} {W:World} {b:Nat} {k:Blk} {l:Loc} (h:HR ρ H W) (hH:∀x,(H.get x).isSome→x<RO) (hb:b<RO) (hl:ρ b=some l) (hk:k.Rel false ρ l W):
  HR ρ (H.set b k) W∧∀x,((H.set b k).get x).isSome→x<RO:=by
 have live:∀x,((H.set b k).get x).isSome→x<RO:=fun x hx=>by
  rw[Tr.get_set] at hx
  by_cases e:x=b
  ·rw[e];exact hb
  ·rw[if_neg e] at hx;exact hH x hx
 refine⟨⟨fun x k' l' hx hl'=>?_,fun x y l1 l2 h1 h2 _ _ _=>.inr ⟨live x h1,live y h2⟩⟩,live⟩
 rw[Tr.get_set] at hx
 by_cases e:x=b
 ·subst e
  rw[if_pos rfl] at hx
  cases hx
  rw[hl] at hl'
  cases hl'
  rw[show RO.ble x=false from by rw[jad];exact decide_eq_false (by omega)]
  exact hk
 ·rw[if_neg e] at hx
  exact h.blk x k' l' hx hl'
theorem j0v {memo:jm7} (hmemo:jiw P gl B memo) (hm:P.follows .mixedOrders=true) {prog:Tr CFn} (hp:j29 P gl prog) {n:Nat} {t:TE} (ht:t.OK B (jq8 B memo prog n)) (ho:t.outs=[.d .bool]) {a:jkt t.ins} (hr:t.run a=some (ho▸true))
  {O:List Ent} {H:Tr Blk} {nx:Nat} (hk:HK B nx O H nx) {A:jah} (hA:∀x∈A,Has O x.1 x.2∨ji4 B x) {vs:List AV} (hv:jmx A t.ins a vs [])
  {ρ:RM} {W:World} (hR:HR ρ H W) (hgl:GLok gl ρ) (hfree:∀b,nx≤b→ρ b=none) (hwf:WF H nx) {args:Array Value} (ha:VRs ρ vs args.toList):
  Calls P t.f args W fun e W'=>e=.returned (.bool true)∧Below W.heap.size W W':=by
 obtain⟨v,E,N,H',nx',F',h1,_,_,_,vs',rfl,hv'⟩:=ht a _ hr nx O [] H nx hk (fun _ h=>by cases h) A hA vs hv
 obtain⟨f,ins,outs,run⟩:=t
 simp only at ho
 subst ho
 obtain⟨u,rfl,hu⟩:=hv'
 have hu:u=AV.bool true:=by
  unfold jtu at hu
  simp only[Rep.agg,Ty.agg,cond_false] at hu
  obtain⟨_,h2,_⟩:=hu
  simpa[jbt] using h2
 subst hu
 obtain⟨_,key⟩:=(jsk hmemo hm hp n).1 _ _ _ _ _ _ _ _ h1
 refine(key ρ W args hR (fun b hb _=>hfree b hb) (Nat.le_refl _) hgl hwf ha).2.mono ?_
 rintro e W' ⟨v',rfl,ρ',st,_,hv⟩
 simp only[_root_.Go.Vm.W.pack,VR] at hv
 subst hv
 refine⟨rfl,st.os,st.tape,st.output,st.size,fun x hx=>st.keep x hx fun b l hb _ _=>?_⟩
 apply Classical.byContradiction
 intro hn
 rw[hfree b (by omega)] at hb
 cases hb
end X
end Go.Vm
namespace Go.Vm
namespace X
open W
variable {α β σ:Type}
def Ret (o:Option β) (Q:β→Prop):Prop:=∃r,o=some r∧Q r
theorem Ret.eq {o:Option β} {r:β} (h:Ret o fun x=>x=r):o=some r:=by
 obtain⟨_,e,rfl⟩:=h
 exact e
theorem jak {r:β} {Q:β→Prop} (h:Q r):Ret (some r) Q:=⟨r,rfl,h⟩
theorem jab {c:Bool} {x:Option β} {Q:β→Prop} (hc:c=true) (h:Ret x Q):Ret (chk c x) Q:=by
 rw[hc];exact h
theorem j7t {c:Bool} {x y:Option β} {Q:β→Prop} (h1:c=true→Ret x Q) (h2:c=false→Ret y Q):Ret (bif c then x else y) Q:=by
 cases c with
 | true=>exact h1 rfl
 | false=>exact h2 rfl
theorem jac {p:Prop} [Decidable p] {x y:Option β} {Q:β→Prop} (h1:p→Ret x Q) (h2:¬p→Ret y Q):Ret (bif decide p then x else y) Q:=by
 by_cases h:p
 ·rw[decide_eq_true h];exact h1 h
 ·rw[decide_eq_false h];exact h2 h
theorem jfv {x:Option α} {f:α→Option β} {Q1:α→Prop} {Q:β→Prop} (h:Ret x Q1) (h2:∀r,Q1 r→Ret (f r) Q):Ret (x.bind f) Q:=by
 obtain⟨r,e,h⟩:=h
 rw[e]
 exact h2 r h
theorem jh2 {k:σ→Option β} {f:(σ→Option β)→Option β} {Q:β→Prop} (I:σ→Prop) (hk:∀x,I x→Ret (k x) Q) (hf:∀j:σ→Option β,(∀x,I x→Ret (j x) Q)→Ret (f j) Q):Ret (jn k f) Q:=hf k hk
theorem ja0 {step:(σ→Option β)→σ→Option β} (Inv:σ→Prop) (m:σ→Nat) {Q:β→Prop} (h:∀s rec,Inv s→(∀s',Inv s'→m s'<m s→Ret (rec s') Q)→Ret (step rec s) Q):∀n s,Inv s→m s<n→Ret (jd5 step n s) Q
 | 0,s,_,hm=>absurd hm (Nat.not_lt_zero _)
 | n+1,s,hi,hm=>h s _ hi fun s' h1 h2=>ja0 Inv m h n s' h1 (by omega)
theorem jaq {n:Int} (h1: -9223372036854775808≤n) (h2:n≤9223372036854775807):jap n=true:=j2d.2 ⟨h1,h2⟩
theorem jb2 {i:Int} {n:Nat} (h1:0≤i) (h2:i< (n:Int)):inb i n=true:=j6k.2 ⟨h1,h2⟩
theorem js7 {n:Nat} (h:n≤10000000):jnq n=true:=jls.2 h
theorem j2g {L:List Int} {i:Nat} (h:i<L.length):L.getD i 0∈L:=by
 simp[List.getD,List.getElem?_eq_getElem h]
end X
end Go.Vm
namespace Go.Vm
namespace X
open W Go.RowKit Go.Deep
variable {P:Program}
def kg5:Value→Int
 | .int _ z=>z
 | _=>0
end X
end Go.Vm
namespace Go.Vm
namespace X
open W
variable {B:Base}
def jnz:(t:Ty)→t.den→List AV
 | .int k,x=>[.int k x]
 | .bool,x=>[.bool x]
 | .str,x=>[.str x]
 | .unit,_=>[]
 | .prod a b,x=>jnz a x.1++jnz b x.2
 | .arr _ t,x=>(x:List t.den).flatMap (jnz t)
 | .sl _,_=>[.nils]
 | .slx _,_=>[.nils]
def dOK:(t:Ty)→t.den→Bool
 | .prod a b,x=>dOK a x.1&&dOK b x.2
 | .arr n t,x=>Nat.beq (List.length (α:=t.den) x) n&&List.all (α:=t.den) x (dOK t)
 | .sl t,x=>List.isEmpty (α:=t.den) x
 | .slx t,x=>List.isEmpty (α:=t.den) x
 | _,_=>true
theorem jtv {α:Type} {P:α→List AV→Prop} {f:α→List AV}:∀ {xs:List α},(∀x∈xs,P x (f x))→jcx P xs (xs.flatMap f)
 | [],_=>rfl
 | x::xs,h=>⟨f x,xs.flatMap f,rfl,h x (List.mem_cons_self ..),jtv fun y hy=>h y (List.mem_cons_of_mem _ hy)⟩
theorem jmj {F:jah}:∀(t:Ty) (x:t.den),dOK t x=true→jbt F t x (jnz t x)
 | .int k,x,_=>rfl
 | .bool,x,_=>rfl
 | .str,x,_=>rfl
 | .unit,x,_=>rfl
 | .prod a b,x,h=>by
   simp only[dOK,Bool.and_eq_true] at h
   exact⟨_,_,rfl,jmj a _ h.1,jmj b _ h.2⟩
 | .arr n t,x,h=>by
   simp only[dOK,Bool.and_eq_true,jaa,decide_eq_true_eq] at h
   exact⟨h.1,jtv fun y hy=>jmj t y (List.all_eq_true.1 h.2 y hy)⟩
 | .sl t,x,h=>by
   simp only[dOK,List.isEmpty_iff] at h
   exact⟨.nils,rfl,.inl ⟨h,rfl⟩⟩
 | .slx t,x,h=>by
   simp only[dOK,List.isEmpty_iff] at h
   exact⟨.nils,rfl,.inl ⟨h,rfl⟩⟩
abbrev GD:=Nat×((t:Ty)×List t.den)
def kja (l:List GD):Mem:=l.map fun g=>(gB+g.1,.fix g.2.1 g.2.2.length g.2.2)
theorem j10 {b:Nat} {sb:SB}:∀ {l:List GD},lkM (kja l) b=some sb→∃g∈l,b=gB+g.1∧sb=.fix g.2.1 g.2.2.length g.2.2
 | [],h=>by cases h
 | g::l,h=>by
   simp only[kja,List.map_cons,lkM] at h
   cases hq:Nat.beq (gB+g.1) b<;>rw[hq] at h<;>simp only[cond_true,cond_false] at h
   ·obtain⟨g',h1,h2⟩:=j10 (l:=l) h
    exact⟨g',List.mem_cons_of_mem _ h1,h2⟩
   ·cases h
    exact⟨g,List.mem_cons_self ..,(Nat.eq_of_beq_eq_true hq).symm,rfl⟩
theorem kha {es:List (Nat×List AV)} (hH:B.H0=jkm es) {l:List GD} (h1:l.all (fun g=>Nat.blt g.1 B.nx0&&g.2.2.all (dOK g.2.1))=true) (h2:l.map (fun g=>lkE es g.1)=l.map (fun g=>some (g.2.2.flatMap (jnz g.2.1)))):GRel B nu0 (kja l):=by
 refine⟨fun b=>by simp[nu0],fun b sb hb=>?_⟩
 obtain⟨g,hg,rfl,rfl⟩:=j10 hb
 have a1:=List.all_eq_true.1 h1 g hg
 simp only[Bool.and_eq_true,Nat.blt,jad,decide_eq_true_eq] at a1
 have a2:lkE es g.1=some (g.2.2.flatMap (jnz g.2.1)):=List.map_inj_left.1 h2 g hg
 obtain⟨k1,k2⟩:=kdp (B:=B) hH (by omega) a2
 refine⟨by omega,fun n=>rfl,rfl,[⟨g.1,false,.cells (g.2.2.flatMap (jnz g.2.1))⟩],⟨false,_,?_,rfl,jtv fun x hx=>jmj _ _ (List.all_eq_true.1 a1.2 x hx)⟩,fun e he=>?_⟩
 ·simp[nu0]
 ·rw[List.mem_singleton.1 he]
  exact⟨k1,k2⟩
theorem jae {B:Base} {memo:jm7} {prog:Tr CFn} {m:Nat} {t:TE} {T:List TE} (h:OKs B memo prog m [t]) (h':OKs B memo prog m T):OKs B memo prog m (t::T):=fun t' ht n hn=>by
 rcases List.mem_cons.1 ht with rfl | ht
 ·exact h _ (List.mem_singleton.2 rfl) n hn
 ·exact h' _ ht n hn
theorem jaf {memo:jm7} {prog:Tr CFn}:jm8 memo prog []:=fun x hx=>by cases hx
theorem jdo {memo:jm7} {prog:Tr CFn} {f:FuncId} {z:Fx} {C:List (FuncId×Fx)} (h:(∀vs,memo f vs=none)∧prog.get f=some z.cfn) (h':jm8 memo prog C):jm8 memo prog ((f,z)::C):=fun x hx=>by
 rcases List.mem_cons.1 hx with rfl | hx
 ·exact h
 ·exact h' x hx
end X
end Go.Vm
namespace Go.Vm
namespace X
open W
set_option maxRecDepth 10000
variable {B:Base} {memo:jm7} {prog:Tr CFn} {ro:Nat} {O:List Ent} {H:Tr Blk} {nx:Nat} {F:jah}
end X
end Go.Vm
namespace Go.Vm
namespace X
open W Go.RowKit Go.Deep Go.ChangeShapes
variable {P:Program}
end X
end Go.Vm
