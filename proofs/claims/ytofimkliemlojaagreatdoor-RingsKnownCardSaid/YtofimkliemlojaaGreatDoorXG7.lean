/-
  The extraction: jk9 functions.
  The extraction: jk9 functions: strips.Ends, Split, Join, Atoi.
  The extraction: jk9 functions of numbers.
  The extraction: a law's call in the model, with arguments in memory.
  Plain laws about extracted functions: what they return.
  The extraction: a law's slice arguments, as blocks that are only read.
  The extraction: the program's variables as plain data.
  The extraction: jk9 functions that take rows of ints and give them back with others in between (slices.Grow of nil, Insert, Replace).
-/
import Derived.Test.YtofimkliemlojaaGreatDoorXG6
import Derived.Deep.Slices
import Derived.Test.YtofimkliemlojaaGreatDoorVmY4
set_option linter.unusedSimpArgs false
set_option linter.unusedVariables false
set_option linter.unusedSectionVars false
set_option linter.unnecessarySimpa false
namespace Go.Vm
namespace X
open W
variable {B:Base} {memo:jqk} {prog:Tr CFn} {ro:Nat} {O:List Ent} {H:Tr Blk} {nx:Nat} {F:jal}
theorem knb (h:HK B ro O H nx) {nx':Nat} (hn:nx≤nx'):HK B ro O H nx':=
 ⟨h.r0,by have:=h.r1;omega,h.base,fun e he=>⟨by have:=(h.ent e he).1;omega,(h.ent e he).2⟩,h.nd⟩
theorem jvc {t:TE} (h:∀a r,t.run a=some r→∀ro O H nx,HK B ro O H nx→∀A:jal,(∀x∈A,Has O x.1 x.2∨ji3 B x)→∀vs,jnz A t.ins a vs []→
  ∃g v E N H' nx' F',memo t.f vs=some g∧g H nx ro=some (v,H',nx')∧HK B ro (E++(N++O)) H' nx'∧(∀x∈E,x.w=true)∧(∀x∈F',Has N x.1 x.2∨x∈A∨ji3 B x)∧kgg F' t.outs r v E) (hns:t.ins.any Rep.owns=false:=by rfl):OKs B memo prog 1 [t]:=by
 intro t' ht n hn
 rw[List.mem_singleton.1 ht]
 intro a r hr ro O E0 H nx hk hw A hA vs hv
 have hE:=j38 hns hv
 subst hE
 match n,hn with
 | n+1,_=>
   obtain⟨g,v,E,N,H',nx',F',h1,h2,h3,h4,h5,h6⟩:=h a r hr ro O H nx hk A hA vs hv
   refine⟨v,E,N,H',nx',F',?_,h3,h4,h5,h6⟩
   simp only[jsn,h1]
   rw[if_pos hk.base]
   exact h2
theorem kij (hk:HK B ro O H nx) {A:jal} (hA:∀x∈A,Has O x.1 x.2∨ji3 B x) {b:Nat} {x:HB} (hx:(b,x)∈A):x.At H b:=by
 rcases hA _ hx with h | ⟨h1,h2⟩
 ·exact(hk.at h).2
 ·exact h2.congr (hk.base _ h1)
theorem j1k {α:Type} {P:α→List AV→Prop} {f:α→AV} (hP:∀x l,P x l→l=[f x]):∀ {xs:List α} {l:List AV},jc6 P xs l→l=xs.map f
 | [],l,h=>h
 | x::xs,l,⟨l1,l2,e,h1,h2⟩=>by rw[e,hP _ _ h1,j1k hP h2];rfl
theorem jqj {α:Type} {P:α→List AV→Prop} {f:α→AV} (hP:∀x,P x [f x]):∀(xs:List α),jc6 P xs (xs.map f)
 | []=>rfl
 | x::xs=>⟨[f x],xs.map f,rfl,hP x,jqj hP xs⟩
theorem kc1 {A:jal} (hk:HK B ro O H nx) (hA:∀x∈A,Has O x.1 x.2∨ji3 B x) {α:Type} {P:α→List AV→Prop} {f:α→AV} (hP:∀x l,P x l→l=[f x]) {L:List α} {v:AV} (h:SlR A 1 (jc6 P) L v):
  (L=[]∧v=.nils)∨∃b o cap c m,v=.sl b o L.length cap 1∧H.get b=some (.cells c m)∧o+L.length≤m∧∀i (hi:i<L.length),c.get (o+i)=some (f L[i]):=by
 rcases h with h | ⟨b,o,cap,l,rfl,hb,_,hl,hr⟩
 ·exact .inl h
 ·obtain⟨c,h1,h2⟩:=kij hk hA hb
  rw[Nat.mul_one] at hl hr
  refine .inr ⟨b,o,cap,c,_,rfl,h1,hl,fun i hi=>?_⟩
  have e:=j1k hP hr
  rw[h2 _ (by omega)]
  have:=congrArg (fun l=>l[i]?) e
  simp only[List.getElem?_take,hi,if_true,List.getElem?_drop,List.getElem?_map,List.getElem?_eq_getElem hi,Option.map_some] at this
  exact this
theorem jkg {c:Tr AV}:∀ {L:List Int} {o:Nat},(∀i (h:i<L.length),c.get (o+i)=some (.int .i64 L[i]))→jt1 c o L.length=some L
 | [],o,h=>rfl
 | x::L,o,h=>by
   have h0:=h 0 (by simp)
   rw[Nat.add_zero] at h0
   have h1:=jkg (L:=L) (o:=o+1) fun i hi=>by
    have:=h (i+1) (by simpa using hi)
    rw[show o+1+i=o+ (i+1) by omega]
    exact this
   simp only[List.length_cons,jt1,h0,h1]
   rfl
theorem j2h {c:Tr AV}:∀ {L:List (List Nat)} {o:Nat},(∀i (h:i<L.length),c.get (o+i)=some (.str L[i]))→jvz c o L.length=some L
 | [],o,h=>rfl
 | x::L,o,h=>by
   have h0:=h 0 (by simp)
   rw[Nat.add_zero] at h0
   have h1:=j2h (L:=L) (o:=o+1) fun i hi=>by
    have:=h (i+1) (by simpa using hi)
    rw[show o+1+i=o+ (i+1) by omega]
    exact this
   simp only[List.length_cons,jvz,h0,h1]
   rfl
theorem kc8 {t:Ty} (ht:t.size≠0):j1p F t [] (some 0) .nils []:=⟨(0,.nils),rfl,ht,.inl ⟨.inl ⟨rfl,rfl,rfl,.inr rfl⟩,rfl⟩⟩
theorem kfk {t:Ty} (ht:t.size=1) {f:t.den→AV} (hf:∀x,jb5 F t x [f x]) (h1:∀x,juz (f x)=true) {b:Nat} (L:List t.den):j1p F t L (some (List.length (α:=t.den) L)) (.sl b 0 (List.length (α:=t.den) L) (some (List.length (α:=t.den) L)) 1) [⟨b,true,.cells (L.map f)⟩]:=by
 refine⟨(b,_),rfl,by omega,.inr ⟨true,_,rfl,.inr ⟨some (List.length (α:=t.den) L),(L.map f).length,by rw[ht],rfl,by rw[ht];simp,fun m hm=>?_,fun m hm=>hm⟩,?_,?_⟩⟩
 ·cases hm;rw[ht];simp
 ·rw[ht,Nat.mul_one,List.take_of_length_le (by simp)]
  exact jqj hf L
 ·rw[List.all_map];exact List.all_eq_true.2 fun x _=>h1 x
abbrev kag:Ty:=.prod (.sl (.int .i64)) (.sl (.int .u8))
def ke8 (run:List Int×List Int→Option Int) (E:List Int→List Int) (s:List Int×List Int):Option (List Int×Int):=match run s with
 | some e=>bif decide (e=0) then(bif okL s.1 then some (E s.1,0) else none) else some ([],e)
 | none=>none
end X
end Go.Vm
namespace Go.Vm
namespace X
open W
variable {B:Base} {memo:jqk} {prog:Tr CFn}
theorem jwp {A:jal} {N:List Ent}:∀x∈([]:jal),Has N x.1 x.2∨x∈A∨ji3 B x:=fun x hx=>by cases hx
theorem j86:∀x∈([]:List Ent),x.w=true:=fun x hx=>by cases hx
theorem kdv {call0:FuncId→List AV→Tr Blk→Nat→Nat→Out} {f fc:FuncId} {E:List Int→List Int} {run:jj5 [.d kag]→Option (jj5 [.d (.int .i64)])} (hc:TE.OK B call0 ⟨fc,[.d kag],[.d (.int .i64)],run⟩)
  (hm:∀as g,jq2 call0 f fc E f as=some g→memo f as=some g):OKs B memo prog 1 [⟨f,[.d kag],[.ownx (.int .i64),.d (.int .i64)],ke8 run E⟩]:=by
 refine jvc fun a r hr ro O H nx hk A hA vs hv=>?_
 obtain⟨v,rfl,hv'⟩:=hv
 have hv0:=hv'
 unfold jxc at hv'
 simp only[Rep.agg,Ty.agg,cond_true] at hv'
 obtain⟨m,rfl,_,⟨l1,l2,rfl,⟨v1,rfl,h1⟩,⟨v2,rfl,h2⟩⟩,_⟩:=hv'
 simp only[ke8] at hr
 split at hr<;>try (cases hr;done)
 rename_i e he
 have hq:HK B nx (O.map unw) H nx:=hk.quiet
 obtain⟨u,EE,NN,Hc,nxc,F',k1,k2,k3,k4,vs',rfl,u',e1,k5⟩:=hc a e he nx _ [] H nx hq (fun _ h=>by cases h) A (fun x hx=>(hA x hx).imp (fun h=>h.quiet) id) _ ⟨_,rfl,hv0⟩
 subst e1
 unfold jxc at k5
 simp only[Rep.agg,Ty.agg,cond_false] at k5
 obtain⟨_,k6,_⟩:=k5
 have k6:u'=AV.int .i64 e:=by simpa[jb5] using k6
 subst k6
 have hup:nx≤nxc:=(jf4 k2.r1).1
 have hmem:∀rd,(match call0 fc [.agg [v1,v2]] H nx nx with
  | some (.int .i64 e,_,nxc)=>if e=0 then(match rd H with
    | some L=>bif okL L then some (.tup [.sl nxc 0 (E L).length (some (E L).length) 1,.int .i64 0],H.set nxc (.cells (put ((E L).map (AV.int .i64)) 0 .e) ((E L).map (AV.int .i64)).length),nxc+1) else none
    | none=>none)
    else some (.tup [.nils,.int .i64 e],H,nxc)
  | _=>none)=jls call0 fc E [.agg [v1,v2]] rd H nx ro:=fun rd=>rfl
 have hcall:call0 fc [.agg [v1,v2]] H nx nx=some (.int .i64 e,Hc,nxc):=k1
 have err:e≠0→r=([],e)→∀rd,jls call0 fc E [.agg [v1,v2]] rd H nx ro=some (.tup [.nils,.int .i64 e],H,nxc)∧HK B ro ([]++([]++O)) H nxc∧kgg [] [.ownx (.int .i64),.d (.int .i64)] r (.tup [.nils,.int .i64 e]) []:=by
  intro h0 hr rd
  refine⟨?_,knb hk hup,[.nils,.int .i64 e],rfl,.nils,[_],[],[],rfl,rfl,?_,?_⟩
  ·simp only[jls,hcall,h0,if_false]
  ·rw[hr];exact⟨_,rfl,kc8 (by simp[Ty.size])⟩
  ·rw[hr];exact⟨_,rfl,rfl,rfl,rfl⟩
 rcases kc1 hk hA (f:=AV.int .i64) (P:=jb5 A (.int .i64)) (fun x l h=>h) h1 with⟨hnil,rfl⟩ | ⟨b,o,cap,c,mm,rfl,hb1,hb2,hb3⟩
 ·by_cases h0:e=0
  ·subst h0
   simp only[decide_true,cond_true] at hr
   have:okL a.1=false:=by rw[hnil];rfl
   rw[this] at hr
   cases hr
  ·simp only[h0,decide_false,cond_false] at hr
   cases hr
   obtain⟨q1,q2,q3⟩:=err h0 rfl fun _=>none
   refine⟨_,_,[],[],H,nxc,[],hm _ _ ?_,q1,q2,j86,jwp,q3⟩
   simp[jq2]
 ·by_cases h0:e=0
  ·subst h0
   simp only[decide_true,cond_true] at hr
   obtain⟨hok,hr⟩:=jaf hr
   cases hr
   refine⟨_,_,[⟨nxc,true,.cells ((E a.1).map (AV.int .i64))⟩],[],_,_,[],hm _ _ (by simp only[jq2,jac,decide_true,cond_true];rfl),?_,(knb hk hup).cells _,fun x hx=>?_,jwp,[_,.int .i64 0],rfl,_,[_],_,[],rfl,(List.append_nil _).symm,⟨_,rfl,kfk (t:=.int .i64) rfl (f:=AV.int .i64) (fun _=>rfl) (fun _=>rfl) (E a.1)⟩,⟨_,rfl,rfl,rfl,rfl⟩⟩
   ·have e4:(o+List.length (α:=Int) a.1).ble mm=true:=by rw[jad];simpa using hb2
    have e5:=jkg (L:=a.1) (o:=o) (c:=c) hb3
    show jls call0 fc E [.agg [.sl b o (List.length (α:=Int) a.1) cap 1,v2]] _ H nx ro=_
    simp only[jls,hcall,if_true,hb1]
    erw[e4,cond_true,e5]
    simp only[hok,cond_true]
    rfl
   ·rw[List.mem_singleton.1 hx]
  ·simp only[h0,decide_false,cond_false] at hr
   cases hr
   obtain⟨q1,q2,q3⟩:=err h0 rfl _
   exact⟨_,_,[],[],H,nxc,[],hm _ _ (by simp only[jq2,jac,decide_true,cond_true];rfl),q1,q2,j86,jwp,q3⟩
def kh6 (a:List (List Nat)×List Nat):Option (List Nat):=bif a.1.length.beq 0 then some [] else bif(jxx a.1 a.2).length.ble 1000000&&a.1.length.ble 1000000 then some (jxx a.1 a.2) else none
theorem kdt {f:FuncId} (hm:∀as g,jue f f as=some g→memo f as=some g):OKs B memo prog 1 [⟨f,[.d (.sl .str),.d .str],[.d .str],kh6⟩]:=by
 refine jvc fun a r hr ro O H nx hk A hA vs hv=>?_
 obtain⟨v1,_,_,_,rfl,_,⟨_,⟨v1',e1,h1⟩,_⟩,v2,rfl,_,h2,_⟩:=hv
 obtain⟨S,t⟩:=a
 have h2:v2=AV.str t:=by simpa[jb5] using h2
 subst h2
 cases e1
 rcases kc1 hk hA (f:=AV.str) (P:=jb5 A .str) (fun x l h=>h) h1 with⟨hnil,rfl⟩ | ⟨b,o,cap,c,mm,rfl,hb1,hb2,hb3⟩
 ·have hnil:S=[]:=hnil
  subst hnil
  cases hr
  exact⟨fun H nx _=>some (.str [],H,nx),_,[],[],_,_,[],hm _ _ (by simp only[jue,jac,decide_true,cond_true]),rfl,hk,j86,jwp,[_],rfl,_,rfl,rfl,rfl,rfl⟩
 ·have hr2:(bif(jxx S t).length.ble 1000000&&S.length.ble 1000000 then some (jxx S t) else none)=some r:=by
   unfold kh6 at hr
   cases S with
   | nil=>exact hr
   | cons x S=>exact hr
  obtain⟨hb,hr2⟩:=jaf hr2
  cases hr2
  have e5:=j2h (L:=S) (o:=o) (c:=c) hb3
  have e4:(o+List.length (α:=List Nat) S).ble mm=true:=by rw[jad];simpa using hb2
  refine⟨fun H nx _=>match H.get b with
   | some (.cells c m)=>bif(o+S.length).ble m then(match jvz c o S.length with
     | some S=>bif(jxx S t).length.ble 1000000&&S.length.ble 1000000 then some (.str (jxx S t),H,nx) else none
     | none=>none) else none
   | _=>none,_,[],[],H,nx,[],hm _ _ (by simp only[jue,jac,decide_true,cond_true];rfl),?_,hk,j86,jwp,[AV.str (jxx S t)],rfl,_,rfl,rfl,rfl,rfl⟩
  simp only[hb1]
  erw[e4,cond_true,e5]
  simp only[hb,cond_true]
  rfl
end X
end Go.Vm
namespace Go.Vm
namespace X
open W
variable {B:Base} {memo:jqk} {prog:Tr CFn}
def kf3 (x:Int):Option Int:=bif decide (0≤x∧x≤18446744073709551615) then some ((Lib.bitLen x.toNat:Nat):Int) else none
def kf2 (x:Int):Option Int:=bif decide (0≤x∧x≤64) then some ((Lib.l10 x.toNat:Nat):Int) else none
theorem kgp {f:FuncId} (hm:∀as g,kaj f f as=some g→memo f as=some g):OKs B memo prog 1 [⟨f,[.d (.int .u64)],[.d (.int .i64)],kf3⟩]:=by
 refine jvc fun x r hr ro O H nx hk A hA vs hv=>?_
 obtain⟨v1,rfl,_,h1,_⟩:=hv
 have h1:v1=AV.int .u64 x:=by simpa[jb5] using h1
 subst h1
 obtain⟨hb,hr⟩:=jaf hr
 rw[decide_eq_true_eq] at hb
 cases hr
 exact⟨fun H nx _=>some (.int .i64 (Lib.bitLen (x:Int).toNat),H,nx),_,[],[],_,_,[],hm _ _ (by unfold kaj;rw[jac,decide_eq_true rfl];simp only[cond_true];rw[if_pos hb]),rfl,hk,j86,jwp,[_],rfl,_,rfl,rfl,rfl,rfl⟩
theorem kgn {f:FuncId} (hm:∀as g,kai f f as=some g→memo f as=some g):OKs B memo prog 1 [⟨f,[.d (.int .i64)],[.d (.int .i64)],kf2⟩]:=by
 refine jvc fun x r hr ro O H nx hk A hA vs hv=>?_
 obtain⟨v1,rfl,_,h1,_⟩:=hv
 have h1:v1=AV.int .i64 x:=by simpa[jb5] using h1
 subst h1
 obtain⟨hb,hr⟩:=jaf hr
 rw[decide_eq_true_eq] at hb
 cases hr
 exact⟨fun H nx _=>some (.int .i64 (Lib.l10 (x:Int).toNat),H,nx),_,[],[],_,_,[],hm _ _ (by unfold kai;rw[jac,decide_eq_true rfl];simp only[cond_true];rw[if_pos hb]),rfl,hk,j86,jwp,[_],rfl,_,rfl,rfl,rfl,rfl⟩
end X
end Go.Vm
namespace Go.Vm
namespace X
open W Go.RowKit
variable {P:Program} {gl:List Nat} {B:Base}
theorem j51 {memo:jqk} (hmemo:jjv P gl B memo) (hm:P.follows .mixedOrders=true) {prog:Tr CFn} (hp:j8e P gl prog) {n:Nat} {t:TE} (ht:t.OK B (jsn B memo prog n)) (ho:t.outs=[.d .bool]) {a:jj5 t.ins} (hr:t.run a=some (ho▸true))
  {O:List Ent} {H:Tr Blk} {nx:Nat} (hk:HK B nx O H nx) {A:jal} (hA:∀x∈A,Has O x.1 x.2∨ji3 B x) {vs:List AV} (hv:jnz A t.ins a vs [])
  {ρ:RM} {W:World} (hR:HR ρ H W) (hgl:GLok gl ρ) (hfree:∀b,nx≤b→ρ b=none) (hwf:WF H nx) {args:Array Value} (ha:VRs ρ vs args.toList):
  Calls P t.f args W fun e W'=>e=.returned (.bool true)∧Below W.heap.size W W':=by
 obtain⟨v,E,N,H',nx',F',h1,_,_,_,vs',rfl,hv'⟩:=ht a _ hr nx O [] H nx hk (fun _ h=>by cases h) A hA vs hv
 obtain⟨f,ins,outs,run⟩:=t
 simp only at ho
 subst ho
 obtain⟨u,rfl,hu⟩:=hv'
 have hu:u=AV.bool true:=by
  unfold jxc at hu
  simp only[Rep.agg,Ty.agg,cond_false] at hu
  obtain⟨_,h2,_⟩:=hu
  simpa[jb5] using h2
 subst hu
 obtain⟨_,key⟩:=(j4t hmemo hm hp n).1 _ _ _ _ _ _ _ _ h1
 refine(key ρ W args hR (fun b hb _=>hfree b hb) (Nat.le_refl _) hgl hwf ha).2.mono ?_
 rintro e W' ⟨v',rfl,ρ',st,_,hv⟩
 simp only[_root_.Go.Vm.W.pack,VR] at hv
 subst hv
 refine⟨rfl,st.os,st.tape,st.output,st.size,fun x hx=>st.keep x hx fun b l hb _ _=>?_⟩
 apply Classical.byContradiction
 intro hn
 rw[hfree b (by omega)] at hb
 cases hb
end X
end Go.Vm
namespace Go.Vm
namespace X
open W
variable {α β σ:Type}
def Ret (o:Option β) (Q:β→Prop):Prop:=∃r,o=some r∧Q r
theorem Ret.eq {o:Option β} {r:β} (h:Ret o fun x=>x=r):o=some r:=by
 obtain⟨_,e,rfl⟩:=h
 exact e
theorem Ret.mono {o:Option β} {Q Q':β→Prop} (h:Ret o Q) (hq:∀r,Q r→Q' r):Ret o Q':=by
 obtain⟨r,e,h⟩:=h
 exact⟨r,e,hq r h⟩
theorem jaj {r:β} {Q:β→Prop} (h:Q r):Ret (some r) Q:=⟨r,rfl,h⟩
theorem jaa {c:Bool} {x:Option β} {Q:β→Prop} (hc:c=true) (h:Ret x Q):Ret (chk c x) Q:=by
 rw[hc];exact h
theorem jtl {c:Bool} {x y:Option β} {Q:β→Prop} (h1:c=true→Ret x Q) (h2:c=false→Ret y Q):Ret (bif c then x else y) Q:=by
 cases c with
 | true=>exact h1 rfl
 | false=>exact h2 rfl
theorem jab {p:Prop} [Decidable p] {x y:Option β} {Q:β→Prop} (h1:p→Ret x Q) (h2:¬p→Ret y Q):Ret (bif decide p then x else y) Q:=by
 by_cases h:p
 ·rw[decide_eq_true h];exact h1 h
 ·rw[decide_eq_false h];exact h2 h
theorem jax {x:Option α} {f:α→Option β} {Q1:α→Prop} {Q:β→Prop} (h:Ret x Q1) (h2:∀r,Q1 r→Ret (f r) Q):Ret (x.bind f) Q:=by
 obtain⟨r,e,h⟩:=h
 rw[e]
 exact h2 r h
theorem jy7 {k:σ→Option β} {f:(σ→Option β)→Option β} {Q:β→Prop} (I:σ→Prop) (hk:∀x,I x→Ret (k x) Q) (hf:∀j:σ→Option β,(∀x,I x→Ret (j x) Q)→Ret (f j) Q):Ret (jn k f) Q:=hf k hk
theorem jan {step:(σ→Option β)→σ→Option β} (Inv:σ→Prop) (m:σ→Nat) {Q:β→Prop} (h:∀s rec,Inv s→(∀s',Inv s'→m s'<m s→Ret (rec s') Q)→Ret (step rec s) Q):∀n s,Inv s→m s<n→Ret (jav step n s) Q
 | 0,s,_,hm=>absurd hm (Nat.not_lt_zero _)
 | n+1,s,hi,hm=>h s _ hi fun s' h1 h2=>jan Inv m h n s' h1 (by omega)
theorem jah {n:Int} (h1: -9223372036854775808≤n) (h2:n≤9223372036854775807):jak n=true:=j7k.2 ⟨h1,h2⟩
theorem jap {i:Int} {n:Nat} (h1:0≤i) (h2:i< (n:Int)):inb i n=true:=j0m.2 ⟨h1,h2⟩
theorem ja7 {n:Nat} (h:n≤10000000):jbm n=true:=jm8.2 h
theorem jau {L:List Int} {i:Nat} (h:i<L.length):L.getD i 0∈L:=by
 simp[List.getD,List.getElem?_eq_getElem h]
end X
end Go.Vm
namespace Go.Vm
namespace X
open W Go.RowKit Go.Deep
variable {P:Program}
end X
end Go.Vm
namespace Go.Vm
namespace X
open W
variable {B:Base}
def jqb:(t:Ty)→t.den→List AV
 | .int k,x=>[.int k x]
 | .bool,x=>[.bool x]
 | .str,x=>[.str x]
 | .unit,_=>[]
 | .prod a b,x=>jqb a x.1++jqb b x.2
 | .arr _ t,x=>(x:List t.den).flatMap (jqb t)
 | .sl _,_=>[.nils]
 | .slx _,_=>[.nils]
def dOK:(t:Ty)→t.den→Bool
 | .prod a b,x=>dOK a x.1&&dOK b x.2
 | .arr n t,x=>Nat.beq (List.length (α:=t.den) x) n&&List.all (α:=t.den) x (dOK t)
 | .sl t,x=>List.isEmpty (α:=t.den) x
 | .slx t,x=>List.isEmpty (α:=t.den) x
 | _,_=>true
theorem jw7 {α:Type} {P:α→List AV→Prop} {f:α→List AV}:∀ {xs:List α},(∀x∈xs,P x (f x))→jc6 P xs (xs.flatMap f)
 | [],_=>rfl
 | x::xs,h=>⟨f x,xs.flatMap f,rfl,h x (List.mem_cons_self ..),jw7 fun y hy=>h y (List.mem_cons_of_mem _ hy)⟩
theorem jol {F:jal}:∀(t:Ty) (x:t.den),dOK t x=true→jb5 F t x (jqb t x)
 | .int k,x,_=>rfl
 | .bool,x,_=>rfl
 | .str,x,_=>rfl
 | .unit,x,_=>rfl
 | .prod a b,x,h=>by
   simp only[dOK,Bool.and_eq_true] at h
   exact⟨_,_,rfl,jol a _ h.1,jol b _ h.2⟩
 | .arr n t,x,h=>by
   simp only[dOK,Bool.and_eq_true,jac,decide_eq_true_eq] at h
   exact⟨h.1,jw7 fun y hy=>jol t y (List.all_eq_true.1 h.2 y hy)⟩
 | .sl t,x,h=>by
   simp only[dOK,List.isEmpty_iff] at h
   exact⟨.nils,rfl,.inl ⟨h,rfl⟩⟩
 | .slx t,x,h=>by
   simp only[dOK,List.isEmpty_iff] at h
   exact⟨.nils,rfl,.inl ⟨h,rfl⟩⟩
abbrev GD:=Nat×((t:Ty)×List t.den)
def kon (l:List GD):Mem:=l.map fun g=>(gB+g.1,.fix g.2.1 g.2.2.length g.2.2)
theorem j7c {b:Nat} {sb:SB}:∀ {l:List GD},lkM (kon l) b=some sb→∃g∈l,b=gB+g.1∧sb=.fix g.2.1 g.2.2.length g.2.2
 | [],h=>by cases h
 | g::l,h=>by
   simp only[kon,List.map_cons,lkM] at h
   cases hq:Nat.beq (gB+g.1) b<;>rw[hq] at h<;>simp only[cond_true,cond_false] at h
   ·obtain⟨g',h1,h2⟩:=j7c (l:=l) h
    exact⟨g',List.mem_cons_of_mem _ h1,h2⟩
   ·cases h
    exact⟨g,List.mem_cons_self ..,(Nat.eq_of_beq_eq_true hq).symm,rfl⟩
theorem kml {es:List (Nat×List AV)} (hH:B.H0=jl2 es) {l:List GD} (h1:l.all (fun g=>Nat.blt g.1 B.nx0&&g.2.2.all (dOK g.2.1))=true) (h2:l.map (fun g=>lkE es g.1)=l.map (fun g=>some (g.2.2.flatMap (jqb g.2.1)))):GRel B nu0 (kon l):=by
 refine⟨fun b=>by simp[nu0],fun b sb hb=>?_⟩
 obtain⟨g,hg,rfl,rfl⟩:=j7c hb
 have a1:=List.all_eq_true.1 h1 g hg
 simp only[Bool.and_eq_true,Nat.blt,jad,decide_eq_true_eq] at a1
 have a2:lkE es g.1=some (g.2.2.flatMap (jqb g.2.1)):=List.map_inj_left.1 h2 g hg
 obtain⟨k1,k2⟩:=kja (B:=B) hH (by omega) a2
 refine⟨by omega,fun n=>rfl,rfl,[⟨g.1,false,.cells (g.2.2.flatMap (jqb g.2.1))⟩],⟨false,_,?_,rfl,jw7 fun x hx=>jol _ _ (List.all_eq_true.1 a1.2 x hx)⟩,fun e he=>?_⟩
 ·simp[nu0]
 ·rw[List.mem_singleton.1 he]
  exact⟨k1,k2⟩
theorem jae {B:Base} {memo:jqk} {prog:Tr CFn} {m:Nat} {t:TE} {T:List TE} (h:OKs B memo prog m [t]) (h':OKs B memo prog m T):OKs B memo prog m (t::T):=fun t' ht n hn=>by
 rcases List.mem_cons.1 ht with rfl | ht
 ·exact h _ (List.mem_singleton.2 rfl) n hn
 ·exact h' _ ht n hn
theorem jag {memo:jqk} {prog:Tr CFn}:jn4 memo prog []:=fun x hx=>by cases hx
theorem jar {memo:jqk} {prog:Tr CFn} {f:FuncId} {z:Fx} {C:List (FuncId×Fx)} (h:(∀vs,memo f vs=none)∧prog.get f=some z.cfn) (h':jn4 memo prog C):jn4 memo prog ((f,z)::C):=fun x hx=>by
 rcases List.mem_cons.1 hx with rfl | hx
 ·exact h
 ·exact h' x hx
end X
end Go.Vm
namespace Go.Vm
namespace X
open W
set_option maxRecDepth 10000
variable {B:Base} {memo:jqk} {prog:Tr CFn} {ro:Nat} {O:List Ent} {H:Tr Blk} {nx:Nat} {F:jal}
theorem kdp {t:TE} (h:∀a r,t.run a=some r→∀ro O E0 H nx,HK B ro (E0++O) H nx→(∀x∈E0,x.w=true)→∀A:jal,(∀x∈A,Has O x.1 x.2∨ji3 B x)→∀vs,jnz A t.ins a vs E0→
  ∃g v E N H' nx' F',memo t.f vs=some g∧g H nx ro=some (v,H',nx')∧HK B ro (E++(N++O)) H' nx'∧(∀x∈E,x.w=true)∧(∀x∈F',Has N x.1 x.2∨x∈A∨ji3 B x)∧kgg F' t.outs r v E):OKs B memo prog 1 [t]:=by
 intro t' ht n hn
 rw[List.mem_singleton.1 ht]
 intro a r hr ro O E0 H nx hk hw A hA vs hv
 match n,hn with
 | n+1,_=>
   obtain⟨g,v,E,N,H',nx',F',h1,h2,h3,h4,h5,h6⟩:=h a r hr ro O E0 H nx hk hw A hA vs hv
   refine⟨v,E,N,H',nx',F',?_,h3,h4,h5,h6⟩
   simp only[jsn,h1]
   rw[if_pos hk.base]
   exact h2
theorem kbb {A:jal} {L:List Int} {v:AV} {E:List Ent} (h:j1p A (.int .i64) L none v E) (hL:0<L.length):∃b c w m,v=.sl b 0 L.length c 1∧E=[⟨b,w,.cells m⟩]∧L.length≤m.length∧m.take L.length=L.map (AV.int .i64):=by
 obtain⟨x,rfl,_,h⟩:=h
 have hsz:Ty.size (.int .i64)=1:=rfl
 rcases h with⟨h,rfl⟩ | ⟨w,m,rfl,h,hr,_⟩
 ·rcases h with⟨_,_,h,_⟩ | ⟨c,n,_,h,_⟩
  ·have h:L.length=0:=h
   omega
  ·cases h
 ·rcases h with⟨_,h,_⟩ | ⟨c,n,e,h1,h2,_⟩
  ·cases h
  ·cases h1
   have h2:L.length*1≤m.length:=h2
   refine⟨x.1,c,w,m,e,rfl,by omega,?_⟩
   have:=j1k (f:=AV.int .i64) (P:=jb5 A (.int .i64)) (fun x l h=>h) hr
   rw[hsz] at this
   have e2:List.length (α:=Int) L*1=L.length:=by omega
   rw[←this]
   congr 1
   exact e2.symm
theorem j4z {L:List Int} {b:Nat} {m:List AV} (h:HB.At H b (.cells m)) (hl:L.length≤m.length) (hm:m.take L.length=L.map (AV.int .i64)):j81 H b 0 L.length=some L:=by
 obtain⟨c,h1,h2⟩:=h
 unfold j81
 rw[h1]
 simp only
 rw[jad,decide_eq_true (by omega),cond_true]
 refine jkg fun i hi=>?_
 rw[Nat.zero_add,h2 i (by omega)]
 have:=congrArg (fun l=>l[i]?) hm
 simp only[List.getElem?_take,hi,if_true,List.getElem?_map,List.getElem?_eq_getElem hi,Option.map_some] at this
 exact this
theorem j47 {b:Nat} (L:List Int):j1p F (.int .i64) L none (.sl b 0 L.length none 1) [⟨b,true,.cells (L.map (AV.int .i64))⟩]:=by
 refine⟨(b,_),rfl,by simp[Ty.size],.inr ⟨true,_,rfl,.inr ⟨none,_,rfl,rfl,?_,fun _ h=>(by cases h),fun _ h=>(by cases h)⟩,?_,?_⟩⟩
 ·show L.length*1≤_
  simp
 ·rw[List.take_of_length_le (by show _≤L.length*1;simp)]
  exact jqj (P:=jb5 _ (.int .i64)) (f:=AV.int .i64) (fun _=>rfl) L
 ·rw[List.all_eq_true]
  intro x hx
  obtain⟨y,_,rfl⟩:=List.mem_map.1 hx
  rfl
def kby (a:List Int×(Int×(Int×List Int))):Option (List Int):=
 bif decide (0≤a.2.1)&&decide (a.2.1≤a.2.2.1)&&inb a.2.2.1 (a.1.length+1)&&(1:Nat).ble a.1.length&&a.1.length.ble 1000000&&(1:Nat).ble a.2.2.2.length&&a.2.2.2.length.ble 1000&&
  (decide (a.2.1=a.2.2.1)||decide (a.2.2.1<a.2.1+a.2.2.2.length)) then some (jxy a.1 a.2.1.toNat a.2.2.1.toNat a.2.2.2) else none
def kmi (a:List Int×(Int×(Int×List Int))):Option (List Int):=
 bif a.1.isEmpty then(bif decide (a.2.1=0)&&decide (a.2.2.1=0)&&(1:Nat).ble a.2.2.2.length&&a.2.2.2.length.ble 1000 then some a.2.2.2 else none) else kby a
theorem khf {A:jal} {v:AV} {E:List Ent} (h:j1p A (.int .i64) [] none v E):(v=.nils∧E=[])∨∃b c w m,v=.sl b 0 0 c 1∧E=[⟨b,w,.cells m⟩]:=by
 obtain⟨x,rfl,_,h⟩:=h
 rcases h with⟨h,rfl⟩ | ⟨w,m,rfl,h,hr,_⟩
 ·rcases h with⟨h,_⟩ | ⟨c,n,_,h,_⟩
  ·exact .inl ⟨h,rfl⟩
  ·cases h
 ·rcases h with⟨_,h,_⟩ | ⟨c,n,e,h1,h2,_⟩
  ·cases h
  ·exact .inr ⟨x.1,c,w,m,e,rfl⟩
theorem kes {L V:List Int} {i k:Int} {N:List Int} (hr:kby (L,i,k,V)=some N) {E1 E3:List Ent} (hk:HK B ro ((E3++E1)++O) H nx) (hw:∀x∈E3++E1,x.w=true) {A:jal} {v1 v3:AV}
  (h1:j1p A (.int .i64) L none v1 E1) (h3:j1p A (.int .i64) V none v3 E3):
  ∃(b:Nat) (c:Option Nat) (vb:Nat) (vc:Option Nat) (i' k':Nat),i=i'∧k=k'∧v1=.sl b 0 L.length c 1∧v3=.sl vb 0 V.length vc 1∧
   kf6 ro H nx b 0 L.length c i' k' vb 0 V.length vc=some (.sl nx 0 N.length none 1,(H.del b).set nx (.cells (put (N.map (AV.int .i64)) 0 .e) N.length),nx+1)∧
   HK B ro ([⟨nx,true,.cells (N.map (AV.int .i64))⟩]++([]++O)) ((H.del b).set nx (.cells (put (N.map (AV.int .i64)) 0 .e) N.length)) (nx+1):=by
 unfold kby at hr
 obtain⟨hc,hr⟩:=jaf hr
 cases hr
 simp only[Bool.and_eq_true,Bool.or_eq_true,jad,decide_eq_true_eq,j0m] at hc
 obtain⟨⟨⟨⟨⟨⟨⟨d1,d2⟩,d3⟩,d4⟩,d5⟩,d6⟩,d7⟩,d8⟩:=hc
 obtain⟨b,c,w,m,rfl,rfl,l1,l2⟩:=kbb h1 (by omega)
 obtain⟨vb,vc,w3,m3,rfl,rfl,l3,l4⟩:=kbb h3 (by omega)
 have q1:=hk.ent ⟨b,w,.cells m⟩ (by simp)
 have q3:=hk.ent ⟨vb,w3,.cells m3⟩ (by simp)
 have r1:=j4z q1.2.2 l1 l2
 have r3:=j4z q3.2.2 l3 l4
 have g1:=q1.2.1 (hw _ (by simp))
 have g3:=q3.2.1 (hw _ (by simp))
 simp only at g1 g3
 have hnd:=hk.nd
 simp only[List.append_assoc,List.cons_append,List.nil_append,List.map_cons,List.nodup_cons,List.mem_cons,not_or] at hnd
 have hbn:b≠vb:=fun e=>hnd.1.1 e.symm
 refine⟨b,c,vb,vc,i.toNat,k.toNat,by omega,by omega,rfl,rfl,?_,?_⟩
 ·unfold kf6
  simp only[r1,r3]
  have:(i.toNat.ble k.toNat&&k.toNat.ble L.length&&(1:Nat).ble L.length&&L.length.ble 1000000&&(1:Nat).ble V.length&&V.length.ble 1000&&(i.toNat.beq k.toNat||k.toNat.ble (i.toNat+V.length)&& !(k.toNat.beq (i.toNat+V.length)))&&(rx ro).ble b&&(rx ro).ble vb&& !(b.beq vb))=true:=by
   simp only[Bool.and_eq_true,Bool.or_eq_true,jad,jac,decide_eq_true_eq,Bool.not_eq_true',decide_eq_false_iff_not]
   exact⟨⟨⟨⟨⟨⟨⟨⟨⟨by omega,by omega⟩,by omega⟩,by omega⟩,by omega⟩,by omega⟩,by omega⟩,g1⟩,g3⟩,hbn⟩
  rw[this,cond_true]
 ·have hb:w=true:=hw ⟨b,w,.cells m⟩ (by simp)
  subst hb
  have hs:HK B ro (⟨b,true,.cells m⟩::O) H nx:=hk.sub (by simp)
  have:=(hs.del .here).cells ((jxy L i.toNat k.toNat V).map (AV.int .i64))
  rw[List.length_map] at this
  exact this
theorem kgr {f:FuncId} (hm:∀as g,kak f f as=some g→memo f as=some g):OKs B memo prog 1 [⟨f,[.own (.int .i64),.d (.int .i64),.own (.int .i64)],[.own (.int .i64)],fun a=>kmi (a.1,a.2.1,a.2.1,a.2.2)⟩]:=by
 refine kdp fun a N hr ro O E0 H nx hk hw A hA vs hv=>?_
 obtain⟨L,i,V⟩:=a
 obtain⟨v1,vs2,E1,E2,rfl,rfl,h1,v2,vs3,E4,E3,rfl,rfl,h2,v3,rfl,h3⟩:=hv
 obtain⟨v1',e1,h1⟩:=h1
 obtain⟨_,h2,rfl⟩:=h2
 obtain⟨v3',e3,h3⟩:=h3
 cases e1;cases e3
 have h2:[v2]=[AV.int .i64 i]:=h2
 cases h2
 rw[List.append_nil] at hk hw
 by_cases hL:L=[]
 ·subst hL
  unfold kmi at hr
  have hr:(bif decide (i=0)&&decide (i=0)&&(1:Nat).ble V.length&&V.length.ble 1000 then some V else none)=some N:=hr
  obtain⟨hc,hr⟩:=jaf hr
  have hVN:V=N:=Option.some.inj hr
  subst hVN
  simp only[Bool.and_eq_true,jad,decide_eq_true_eq] at hc
  obtain⟨⟨⟨hi,_⟩,m1⟩,m2⟩:=hc
  have hi:i=0:=hi
  subst hi
  obtain⟨vb,vc,w3,m3,rfl,rfl,l3,l4⟩:=kbb h3 (show 0<List.length (α:=Int) V from m1)
  have q3:=hk.ent ⟨vb,w3,.cells m3⟩ (by simp)
  have r3:=j4z q3.2.2 l3 l4
  have g3:=q3.2.1 (hw _ (by simp))
  simp only at g3
  rcases khf h1 with⟨rfl,rfl⟩ | ⟨b,c,w,m,rfl,rfl⟩
  ·have hs:HK B ro O H nx:=hk.sub (by simp)
   have hnew:=hs.cells (V.map (AV.int .i64))
   rw[List.length_map] at hnew
   refine⟨fun H nx ro=>bif(1:Nat).ble V.length&&V.length.ble 1000&&RO.ble vb then(match j81 H vb 0 V.length with
    | some V=>some (.sl nx 0 V.length none 1,H.set nx (.cells (put (V.map (AV.int .i64)) 0 .e) V.length),nx+1)
    | none=>none) else none,_,[⟨nx,true,.cells (V.map (AV.int .i64))⟩],[],_,_,[],hm _ _ ?_,?_,hnew,fun x hx=>?_,(fun x hx=>by cases hx),[_],rfl,_,rfl,_,rfl,j47 V⟩
   ·unfold kak
    rw[jac,decide_eq_true rfl,cond_true]
    rfl
   ·show(bif(1:Nat).ble V.length&&V.length.ble 1000&&RO.ble vb then _ else _)=_
    rw[show((1:Nat).ble V.length&&V.length.ble 1000&&RO.ble vb)=true by simp only[Bool.and_eq_true,jad,decide_eq_true_eq];exact⟨⟨m1,m2⟩,(jf4 g3).2⟩,cond_true,r3]
    rfl
   ·rw[List.mem_singleton.1 hx]
  ·have q1:=hk.ent ⟨b,w,.cells m⟩ (by simp)
   have g1:=q1.2.1 (hw _ (by simp))
   simp only at g1
   have hnd:=hk.nd
   simp only[List.append_assoc,List.cons_append,List.nil_append,List.map_cons,List.nodup_cons,List.mem_cons,not_or] at hnd
   have hbn:b≠vb:=fun e=>hnd.1.1 e.symm
   have hb:w=true:=hw ⟨b,w,.cells m⟩ (by simp)
   subst hb
   have hs:HK B ro (⟨b,true,.cells m⟩::O) H nx:=hk.sub (by simp)
   have hnew:=(hs.del .here).cells (V.map (AV.int .i64))
   rw[List.length_map] at hnew
   obtain⟨ct,b1,_⟩:=q1.2.2
   refine⟨fun H nx ro=>bif Nat.beq 0 0 then kia ro H nx b vb 0 V.length else none,_,[⟨nx,true,.cells (V.map (AV.int .i64))⟩],[],_,_,[],hm _ _ ?_,?_,hnew,fun x hx=>?_,(fun x hx=>by cases hx),[_],rfl,_,rfl,_,rfl,j47 V⟩
   ·unfold kak
    rw[jac,decide_eq_true rfl,cond_true]
    rfl
   ·show kia ro H nx b vb 0 V.length=_
    unfold kia
    rw[show((1:Nat).ble V.length&&V.length.ble 1000&&(rx ro).ble b&&RO.ble vb&& !(b.beq vb))=true by simp only[Bool.and_eq_true,jad,jac,decide_eq_true_eq,Bool.not_eq_true',decide_eq_false_iff_not];exact⟨⟨⟨⟨m1,m2⟩,g1⟩,(jf4 g3).2⟩,hbn⟩,cond_true]
    simp only at b1
    simp only[b1,r3]
    rfl
   ·rw[List.mem_singleton.1 hx]
 have hr:kby (L,i,i,V)=some N:=by
  unfold kmi at hr
  have:List.isEmpty (α:=Int) L=false:=by
   cases L with
   | nil=>exact absurd rfl hL
   | cons a l=>rfl
  simp only at hr
  erw[this] at hr
  exact hr
 obtain⟨b,c,vb,vc,i',k',rfl,ek,rfl,rfl,q1,q2⟩:=kes hr hk hw h1 h3
 have ek:(i':Int)=(k':Int):=ek
 obtain rfl:i'=k':=by omega
 have hL0:∃l,List.length (α:=Int) L=l+1:=by
  cases L with
  | nil=>exact absurd rfl hL
  | cons a l=>exact⟨l.length,rfl⟩
 obtain⟨l,hl⟩:=hL0
 refine⟨fun H nx ro=>kf6 ro H nx b 0 L.length c i' i' vb 0 V.length vc,_,_,[],_,_,[],hm _ _ ?_,q1,q2,fun x hx=>?_,(fun x hx=>by cases hx),[_],rfl,_,rfl,_,rfl,j47 N⟩
 ·unfold kak
  rw[jac,decide_eq_true rfl,cond_true]
  erw[hl]
  rfl
 ·rw[List.mem_singleton.1 hx]
theorem j6k {f:FuncId} {t:Ty} (ht:t.size=1) (hm:∀as g,jve f f as=some g→memo f as=some g):OKs B memo prog 1 [⟨f,[.nl,.d (.int .i64)],[.own t],fun a=>bif inb a.2 1000001 then some [] else none⟩]:=by
 refine jvc fun a N hr ro O H nx hk A hA vs hv=>?_
 obtain⟨⟨⟩,n⟩:=a
 obtain⟨hn,hr⟩:=jaf hr
 cases hr
 rw[j0m] at hn
 have hn:0≤n∧n< ((1000001:Nat):Int):=hn
 obtain⟨v1,vs2,E1,E2,rfl,he,h1,v2,rfl,h2⟩:=hv
 obtain⟨h1,rfl⟩:=h1
 cases h1
 obtain⟨_,h2,rfl⟩:=h2
 have h2:[v2]=[AV.int .i64 n]:=h2
 cases h2
 obtain⟨n,rfl⟩:∃m:Nat,n=m:=⟨n.toNat,(Int.toNat_of_nonneg hn.1).symm⟩
 have hn:n<1000001:=by have:=hn.2;omega
 rcases n with _ | n
 ·exact⟨fun H nx _=>some (.nils,H,nx),_,[],[],_,_,[],hm _ _ (by unfold jve;rw[jac,decide_eq_true rfl,cond_true]),rfl,hk,(fun x hx=>by cases hx),(fun x hx=>by cases hx),[_],rfl,_,rfl,_,rfl,⟨(0,.nils),rfl,by omega,.inl ⟨.inl ⟨rfl,rfl,rfl,.inl rfl⟩,rfl⟩⟩⟩
 ·refine⟨fun H nx _=>some (.sl nx 0 0 none 1,H.set nx (.cells .e 0),nx+1),_,[⟨nx,true,.cells []⟩],[],_,_,[],hm _ _ ?_,rfl,hk.cells [],fun x hx=>?_,(fun x hx=>by cases hx),[_],rfl,_,rfl,_,rfl,⟨(nx,_),rfl,by omega,.inr ⟨true,_,rfl,.inr ⟨none,_,by rw[ht];rfl,rfl,by simp,fun _ h=>(by cases h),fun _ h=>(by cases h)⟩,by simp[jc6],rfl⟩⟩⟩
  ·unfold jve
   rw[jac,decide_eq_true rfl,cond_true]
   show(bif n.ble 1000000 then _ else _)=_
   rw[jad,decide_eq_true (by omega),cond_true]
  ·rw[List.mem_singleton.1 hx]
end X
end Go.Vm
