/-
  Words: a text is cut at its spaces, and put together j00.
  Nets: texts: lines and jed; a net is jkm by its text.
  Nets: squares get their places, hinge by hinge.
  Nets: comparing, looking up, what hangs together, Check.
  Nets: what hangs together; Check; over and back.
  Nets: Place.
  Nets: the law's nets: squares sorted, hinges in order.
  Nets: the law's hinges in order; trees.
  Nets: the law's tree is a valid net.
  Nets: the law's net with all its hinges; the law's helpers.
  Nets: Text of valid nets.
-/
import Derived.Test.YtahplmacekfjgaaGreatDoorQ7
set_option linter.unusedSimpArgs false
set_option linter.unusedVariables false
set_option linter.unusedSectionVars false
set_option linter.unnecessarySimpa false
namespace Go.Vm
namespace X
open W
def jzf (c:UInt8):List UInt8→List (List UInt8)
 | []=>[[]]
 | b::l=>if b=c then []::jzf c l else match jzf c l with
   | w::ws=>(b::w)::ws
   | []=>[[b]]
theorem j2c {b c:UInt8} {l:List UInt8} (h:b≠c):Lib.index (b::l) [c]=if Lib.index l [c]== -1 then -1 else Lib.index l [c] +1:=by
 rw[Lib.index]
 have:([c]:List UInt8).isPrefixOf (b::l)=false:=by simp[List.isPrefixOf];exact fun e=>h e.symm
 rw[this];simp
theorem jul {c:UInt8} {l:List UInt8}:Lib.index (c::l) [c]=0:=by
 rw[Lib.index]
 simp[List.isPrefixOf]
theorem j5k {b c:UInt8} {l:List UInt8} (h:b≠c):∀k,∃w ws,Lib.splitK [c] 0 k l=w::ws∧Lib.splitK [c] 0 k (b::l)=(b::w)::ws
 | 0=>⟨l,[],rfl,rfl⟩
 | k+1=>by
   unfold Lib.splitK
   rw[j2c h]
   by_cases h1:Lib.index l [c]= -1
   ·simp only[h1]
    exact⟨l,[],by simp,by simp⟩
   ·have hge:=Lib.index_ge l [c]
    have e1:(Lib.index l [c]== -1)=false:=by simpa using h1
    have e2:(Lib.index l [c] +1== -1)=false:=by simp;omega
    simp only[e1,e2,Bool.false_eq_true,if_false]
    obtain⟨j,hj⟩:=Int.eq_ofNat_of_zero_le (show 0≤Lib.index l [c] by omega)
    rw[hj]
    refine⟨_,_,rfl,?_⟩
    have e3:((j:Int)+1).toNat=j+1:=by omega
    simp only[e3,Int.toNat_natCast,Nat.add_zero,List.take_succ_cons,List.length_singleton,List.drop_succ_cons]
theorem jrw (c:UInt8):∀s:List UInt8,Lib.split s [c]=jzf c s
 | []=>by
   unfold Lib.split
   rw[Lib.count_one]
   rfl
 | b::l=>by
   have ih:=jrw c l
   unfold Lib.split at ih ⊢
   by_cases h:b=c
   ·subst h
    rw[Lib.count_cons_eq,Nat.add_comm]
    unfold Lib.splitK
    rw[jul]
    simp only[jzf,if_true]
    rw[←ih]
    simp
   ·rw[Lib.count_cons_ne _ _ _ h]
    obtain⟨w,ws,e1,e2⟩:=j5k h (Lib.count l [c])
    rw[e2]
    simp only[jzf,h,if_false]
    rw[←ih,e1]
theorem jzs {c:UInt8} {r:List UInt8} {v:List UInt8} {vs:List (List UInt8)} (hr:jzf c r=v::vs):∀ {w:List UInt8},c∉w→jzf c (w++r)=(w++v)::vs
 | [],_=>hr
 | b::w,h=>by
   have hb:b≠c:=fun e=>h (by rw[e];exact List.mem_cons_self ..)
   rw[List.cons_append]
   unfold jzf
   rw[if_neg hb,jzs hr (fun hm=>h (List.mem_cons_of_mem _ hm))]
   rfl
theorem j1k {c:UInt8}:∀ {w:List UInt8} {ws:List (List UInt8)},(∀x∈w::ws,c∉x)→jzf c (Lib.join (w::ws) [c])=w::ws
 | w,[],h=>by
   rw[Lib.join_one]
   have:=jzs (c:=c) (r:=[]) (v:=[]) (vs:=[]) rfl (h w (List.mem_cons_self ..))
   simpa using this
 | w,w'::ws,h=>by
   have ih:=j1k (c:=c) (w:=w') (ws:=ws) fun x hx=>h x (List.mem_cons_of_mem _ hx)
   have e:Lib.join (w::w'::ws) [c]=w++(c::Lib.join (w'::ws) [c]):=by
    rw[Lib.join_cons,Lib.join_cons]
    simp[Lib.joinTail]
   rw[e]
   have:=jzs (c:=c) (r:=c::Lib.join (w'::ws) [c]) (v:=[]) (vs:=jzf c (Lib.join (w'::ws) [c])) (by rw[jzf,if_pos rfl]) (h w (List.mem_cons_self ..))
   rw[this,ih];simp
theorem jzk {w:List Nat} (h:∀x∈w,x<256):(u8 w).map UInt8.toNat=w:=by
 unfold u8
 rw[List.map_map]
 conv=>rhs;rw[←List.map_id w]
 refine List.map_congr_left fun x hx=>?_
 have:=h x hx
 simp[Function.comp,UInt8.toNat_ofNat,Nat.mod_eq_of_lt this]
theorem j7r (w:List UInt8):u8 (w.map UInt8.toNat)=w:=by
 unfold u8
 rw[List.map_map]
 conv=>rhs;rw[←List.map_id w]
 exact List.map_congr_left fun x hx=>by simp[Function.comp]
theorem j1l {c:UInt8}:∀s:List UInt8,(jzf c s).length≤s.length+1∧∀w∈jzf c s,w.length≤s.length
 | []=>by simp[jzf]
 | b::l=>by
   obtain⟨h1,h2⟩:=j1l (c:=c) l
   unfold jzf
   split
   ·refine⟨by simp;omega,fun w hw=>?_⟩
    rcases List.mem_cons.1 hw with rfl | hw
    ·simp
    ·have:=h2 w hw;simp;omega
   ·split
    ·rename_i w ws e
     rw[e] at h1 h2
     refine⟨by simp at h1 ⊢;omega,fun x hx=>?_⟩
     rcases List.mem_cons.1 hx with rfl | hx
     ·have:=h2 w (List.mem_cons_self ..);simpa using this
     ·have:=h2 x (List.mem_cons_of_mem _ hx);simp;omega
    ·refine⟨by simp,fun x hx=>?_⟩
     rw[List.mem_singleton.1 hx];simp
theorem j4w (s:List Nat):(jed s [32]).length≤s.length+1∧∀w∈jed s [32],w.length≤s.length:=by
 obtain⟨h1,h2⟩:=j1l (c:=32) (u8 s)
 unfold jed
 rw[show u8 [32]=[32] from rfl,jrw]
 refine⟨by simpa[u8] using h1,fun w hw=>?_⟩
 obtain⟨w',hw',rfl⟩:=List.mem_map.1 hw
 simpa[u8] using h2 w' hw'
end X
end Go.Vm
namespace Go.Vm
namespace X
open W
def jzg (c:UInt8):List UInt8→List (List UInt8)
 | []=>[[]]
 | b::l=>if b=c then [b]::jzg c l else match jzg c l with
   | w::ws=>(b::w)::ws
   | []=>[[b]]
theorem j5l {b c:UInt8} {l:List UInt8} (h:b≠c):∀k,∃w ws,Lib.splitK [c] 1 k l=w::ws∧Lib.splitK [c] 1 k (b::l)=(b::w)::ws
 | 0=>⟨l,[],rfl,rfl⟩
 | k+1=>by
   unfold Lib.splitK
   rw[j2c h]
   by_cases h1:Lib.index l [c]= -1
   ·simp only[h1]
    exact⟨l,[],by simp,by simp⟩
   ·have hge:=Lib.index_ge l [c]
    have e1:(Lib.index l [c]== -1)=false:=by simpa using h1
    have e2:(Lib.index l [c] +1== -1)=false:=by simp;omega
    simp only[e1,e2,Bool.false_eq_true,if_false]
    obtain⟨j,hj⟩:=Int.eq_ofNat_of_zero_le (show 0≤Lib.index l [c] by omega)
    rw[hj]
    refine⟨_,_,rfl,?_⟩
    have e3:((j:Int)+1).toNat=j+1:=by omega
    simp only[e3,Int.toNat_natCast,Nat.add_right_comm j 1 1,List.take_succ_cons,List.length_singleton,List.drop_succ_cons]
theorem jt5 (c:UInt8):∀s:List UInt8,Lib.splitK [c] 1 (Lib.count s [c]) s=jzg c s
 | []=>by
   rw[Lib.count_one]
   rfl
 | b::l=>by
   have ih:=jt5 c l
   by_cases h:b=c
   ·subst h
    rw[Lib.count_cons_eq,Nat.add_comm]
    unfold Lib.splitK
    rw[jul]
    simp only[jzg,if_true]
    rw[←ih]
    simp
   ·rw[Lib.count_cons_ne _ _ _ h]
    obtain⟨w,ws,e1,e2⟩:=j5l h (Lib.count l [c])
    rw[e2]
    simp only[jzg,h,if_false]
    rw[←ih,e1]
theorem j1n {c:UInt8} {r:List UInt8}:∀ {w:List UInt8},c∉w→jzg c (w++c::r)=(w++[c])::jzg c r
 | [],_=>by rw[List.nil_append,jzg,if_pos rfl];rfl
 | b::w,h=>by
   have hb:b≠c:=fun e=>h (by rw[e];exact List.mem_cons_self ..)
   rw[List.cons_append,jzg,if_neg hb,j1n (w:=w) (r:=r) (fun hm=>h (List.mem_cons_of_mem _ hm))]
   rfl
theorem jt6 {c:UInt8}:∀ {L:List (List UInt8)},(∀w∈L,∃v,w=v++[c]∧c∉v)→jzg c L.flatten=L++[[]]
 | [],_=>rfl
 | w::L,h=>by
   obtain⟨v,rfl,hv⟩:=h w (List.mem_cons_self ..)
   have ih:=jt6 (L:=L) fun x hx=>h x (List.mem_cons_of_mem _ hx)
   rw[List.flatten_cons,List.append_assoc,List.singleton_append,j1n hv,ih]
   rfl
theorem j1m {c:UInt8}:∀s:List UInt8,(jzg c s).length≤s.length+1∧∀w∈jzg c s,w.length≤s.length
 | []=>by simp[jzg]
 | b::l=>by
   obtain⟨h1,h2⟩:=j1m (c:=c) l
   unfold jzg
   split
   ·refine⟨by simp;omega,fun w hw=>?_⟩
    rcases List.mem_cons.1 hw with rfl | hw
    ·simp
    ·have:=h2 w hw;simp;omega
   ·split
    ·rename_i w ws e
     rw[e] at h1 h2
     refine⟨by simp at h1 ⊢;omega,fun x hx=>?_⟩
     rcases List.mem_cons.1 hx with rfl | hx
     ·have:=h2 w (List.mem_cons_self ..);simpa using this
     ·have:=h2 x (List.mem_cons_of_mem _ hx);simp;omega
    ·refine⟨by simp,fun x hx=>?_⟩
     rw[List.mem_singleton.1 hx];simp
structure Num (it:Int→ByteArray) (D:Int→Prop):Prop where
 ok:∀n,D n→∀y∈(it n).data.toList,y≠32∧y≠10
 inj:∀n m,D n→D m→(it n).data.toList=(it m).data.toList→n=m
def wdS (it:Int→ByteArray) (s:SqT):List (List UInt8):=[[115,113,117,97,114,101],(it s.1).data.toList,(it s.2).data.toList]
def wyB (u:Bool):List UInt8:=bif u then [117,112] else [114,105,103,104,116]
def wdH (it:Int→ByteArray) (g:HgT):List (List UInt8):=[[104,105,110,103,101],(it g.1.1).data.toList,(it g.1.2).data.toList,wyB g.2.1,(it g.2.2).data.toList]
theorem j1h (it:Int→ByteArray) (s:SqT):tlS it s=Lib.join (wdS it s) [32]++[10]:=rfl
theorem j47 (it:Int→ByteArray) (g:HgT):tlH it g=Lib.join (wdH it g) [32]++[10]:=by
 unfold tlH wdH tl5 wyB
 cases g.2.1<;>rfl
def DS (D:Int→Prop) (s:SqT):Prop:=D s.1∧D s.2
def DH (D:Int→Prop) (g:HgT):Prop:=D g.1.1∧D g.1.2∧D g.2.2
theorem kab {it:Int→ByteArray} {D:Int→Prop} (h:Num it D) {s:SqT} (hs:DS D s):∀w∈wdS it s,∀y∈w,y≠32∧y≠10:=by
 intro w hw
 simp only[wdS,List.mem_cons,List.not_mem_nil,or_false] at hw
 rcases hw with rfl | rfl | rfl
 ·decide
 ·exact h.ok _ hs.1
 ·exact h.ok _ hs.2
theorem kac {it:Int→ByteArray} {D:Int→Prop} (h:Num it D) {g:HgT} (hs:DH D g):∀w∈wdH it g,∀y∈w,y≠32∧y≠10:=by
 intro w hw
 simp only[wdH,List.mem_cons,List.not_mem_nil,or_false] at hw
 rcases hw with rfl | rfl | rfl | rfl | rfl
 ·decide
 ·exact h.ok _ hs.1
 ·exact h.ok _ hs.2.1
 ·unfold wyB;cases g.2.1<;>decide
 ·exact h.ok _ hs.2.2
theorem j19 {c:UInt8} {y:UInt8}:∀ {w:List UInt8} {ws:List (List UInt8)},y∈Lib.join (w::ws) [c]→y=c∨∃x∈w::ws,y∈x
 | w,[],h=>by rw[Lib.join_one] at h;exact .inr ⟨w,List.mem_cons_self ..,h⟩
 | w,w'::ws,h=>by
   have e:Lib.join (w::w'::ws) [c]=w++(c::Lib.join (w'::ws) [c]):=by
    rw[Lib.join_cons,Lib.join_cons]
    simp[Lib.joinTail]
   rw[e] at h
   rcases List.mem_append.1 h with h | h
   ·exact .inr ⟨w,List.mem_cons_self ..,h⟩
   ·rcases List.mem_cons.1 h with h | h
    ·exact .inl h
    ·rcases j19 h with h | ⟨x,hx,h⟩
     ·exact .inl h
     ·exact .inr ⟨x,List.mem_cons_of_mem _ hx,h⟩
theorem kjs {w:List UInt8} {ws:List (List UInt8)} (h:∀x∈w::ws,∀y∈x,y≠32∧y≠10):(10:UInt8)∉Lib.join (w::ws) [32]:=fun hm=>by
 rcases j19 hm with h1 | ⟨x,hx,h1⟩
 ·cases h1
 ·exact(h x hx _ h1).2 rfl
theorem j5m {w:List UInt8} {ws:List (List UInt8)} (h:∀x∈w::ws,∀y∈x,y≠32∧y≠10):jzf 32 (Lib.join (w::ws) [32])=w::ws:=j1k fun x hx hm=>(h x hx _ hm).1 rfl
def jxx (it:Int→ByteArray) (S:List SqT) (H:List HgT):List (List UInt8):=S.map (tlS it)++H.map (tlH it)
theorem j45 (it:Int→ByteArray) (S:List SqT) (H:List HgT):tlT it S H=(jxx it S H).flatten:=by
 unfold tlT jxx
 rw[List.flatten_append,List.flatMap_def,List.flatMap_def]
theorem j85 {it:Int→ByteArray} {D:Int→Prop} (h:Num it D) {S:List SqT} {H:List HgT} (hS:∀s∈S,DS D s) (hH:∀g∈H,DH D g):∀w∈jxx it S H,∃v,w=v++[10]∧(10:UInt8)∉v:=by
 intro w hw
 rcases List.mem_append.1 hw with h1 | h1
 ·obtain⟨s,hs,rfl⟩:=List.mem_map.1 h1
  exact⟨_,j1h it s,kjs (kab h (hS s hs))⟩
 ·obtain⟨g,hg,rfl⟩:=List.mem_map.1 h1
  exact⟨_,j47 it g,kjs (kac h (hH g hg))⟩
theorem kev {it:Int→ByteArray} {D:Int→Prop} (h:Num it D) {S:List SqT} {H:List HgT} (hS:∀s∈S,DS D s) (hH:∀g∈H,DH D g):jzg 10 (tlT it S H)=jxx it S H++[[]]:=by
 rw[j45,jt6 (j85 h hS hH)]
theorem khd (it:Int→ByteArray) (s:SqT):(tlS it s).head?=some 115:=by
 rw[j1h];unfold wdS;rw[Lib.join_cons];rfl
end X
end Go.Vm
namespace Go.Vm
namespace X
structure NetOK (S:List SqT) (H:List HgT):Prop where
 le:S.length≤64
 ge:1≤S.length
 srt:Sorted S
 bd:∀s∈S,(-64≤s.1∧s.1≤64)∧(-64≤s.2∧s.2≤64)
 hs:H.Pairwise ltH
 bend:∀h∈H, -1≤h.2.2∧h.2.2≤1
 ends:∀h∈H,h.1∈S∧jef h∈S
 con:Connd S H
abbrev frZ:FrT:=(List.replicate 3 0,(List.replicate 3 0,List.replicate 3 0))
structure Obey (S:List SqT) (H:List HgT) (l:List FrT):Prop where
 len:l.length=S.length
 first:l.getD 0 frZ=kau
 ok:∀i:Nat,i<S.length→FrOK 64 (l.getD i frZ)
 obey:∀h∈H,ovF (l.getD (idxS S h.1).toNat frZ) h=l.getD (idxS S (jef h)).toNat frZ
theorem kai (h:HgT):jef h≠h.1:=by
 obtain⟨⟨x,y⟩,u,b⟩:=h
 unfold jef
 cases u<;>simp<;>omega
structure Placed (S:List SqT) (H:List HgT) (K:List Bool) (O:List FrT):Prop where
 kl:K.length=S.length
 ol:O.length=S.length
 k0:K.getD 0 false=true
 o0:O.getD 0 frZ=kau
 ok:∀i:Nat,i<S.length→K.getD i false=true→FrOK (K.count true) (O.getD i frZ)
 tree:∃U:List HgT,U.Nodup∧(∀h∈U,h∈H)∧U.length+1=K.count true∧∀h∈U,K.getD (idxS S h.1).toNat false=true∧K.getD (idxS S (jef h)).toNat false=true∧ovF (O.getD (idxS S h.1).toNat frZ) h=O.getD (idxS S (jef h)).toNat frZ
 uni:∀l,Obey S H l→∀i:Nat,i<S.length→K.getD i false=true→O.getD i frZ=l.getD i frZ
end X
end Go.Vm
namespace Go.Vm
namespace X
open W
variable {nn:Nat}
theorem jtu {β:Type} {c:Bool} {x:Option β} (h:c=true):chk c x=x:=by rw[h];rfl
theorem jja (a b:Int):cmp_Compare_int (fu nn) (a,b)=some (if a<b then -1 else if b<a then 1 else 0):=by
 unfold cmp_Compare_int jff
 simp only[ne_eq,not_true_eq_false,decide_false,Option.bind_some,cond_false]
 by_cases h:a<b
 ·rw[decide_eq_true h,cond_true,if_pos h]
 ·rw[decide_eq_false h,cond_false,if_neg h]
  by_cases g:b<a
  ·rw[decide_eq_true g,cond_true,if_pos g]
  ·rw[decide_eq_false g,cond_false,if_neg g]
theorem jyn (a b:Int):jhl (fu nn) [a,b]=some (if a≠0 then a else b):=by
 apply Ret.eq
 unfold jhl
 have l2:((List.length [a,b]:Nat):Int)=2:=rfl
 have g0:[a,b].getD (Int.toNat 0) 0=a:=rfl
 have g1:[a,b].getD (Int.toNat 1) 0=b:=rfl
 refine jbb (Inv:=fun i:Int=>i=0∨(a=0∧(i=1∨(i=2∧b=0)))) (m:=fun i=>(2-i).toNat) ?_ _ _ (.inl rfl) (by simp only[fu];omega)
 rintro i rec hi ih
 rcases hi with rfl | ⟨ha,rfl | ⟨rfl,hb⟩⟩
 ·refine jag (fun _=>jac (by rfl) ?_) fun g=>absurd (show(0:Int)< ((List.length [a,b]:Nat):Int) by rw[l2];decide) g
  rw[g0]
  refine jag (fun g=>ja4 ?_) fun g=>jac (by rfl) (ih _ (.inr ⟨Classical.not_not.1 g,.inl rfl⟩) (by decide))
  rw[if_pos g]
 ·refine jag (fun _=>jac (by rfl) ?_) fun g=>absurd (show(1:Int)< ((List.length [a,b]:Nat):Int) by rw[l2];decide) g
  rw[g1]
  refine jag (fun g=>ja4 ?_) fun g=>jac (by rfl) (ih _ (.inr ⟨ha,.inr ⟨rfl,Classical.not_not.1 g⟩⟩) (by decide))
  rw[if_neg fun c=>c ha]
 ·refine jag (fun g=>absurd g (show ¬(2:Int)< ((List.length [a,b]:Nat):Int) by rw[l2];decide)) fun _=>ja4 ?_
  rw[if_neg fun c=>c ha,hb]
theorem jjz (s t:SqT):jam (fu nn) (s,t)=some (j37 s t):=by
 unfold jam
 simp only
 rw[jja,Option.bind_some,jja,Option.bind_some,jyn,Option.bind_some]
 congr 1
 obtain⟨x,y⟩:=s
 obtain⟨u,v⟩:=t
 unfold j37 ltS
 simp only[Prod.mk.injEq]
 rcases Int.lt_trichotomy y v with h | h | h
 ·rw[if_pos h,if_pos (by decide),if_pos (.inl h)]
 ·subst h
  rw[if_neg (Int.lt_irrefl _),if_neg (Int.lt_irrefl _),if_neg (by decide)]
  rcases Int.lt_trichotomy x u with g | g | g
  ·rw[if_pos g,if_pos (.inr ⟨rfl,g⟩)]
  ·subst g
   rw[if_neg (Int.lt_irrefl _),if_neg (Int.lt_irrefl _),if_neg (by omega),if_pos ⟨rfl,rfl⟩]
  ·rw[if_neg (by omega),if_pos g,if_neg (by omega),if_neg (by omega)]
 ·rw[if_neg (show ¬y<v by omega),if_pos h,if_pos (by decide),if_neg (by omega),if_neg (by omega)]
theorem jnw {s t:SqT}:j37 s t<0↔ltS s t:=by
 unfold j37
 by_cases h:ltS s t
 ·rw[if_pos h];simp[h]
 ·rw[if_neg h]
  by_cases g:s=t
  ·rw[if_pos g];simp[h]
  ·rw[if_neg g];simp[h]
theorem jwe {s t:SqT}:j37 s t=0↔s=t:=by
 unfold j37
 by_cases h:ltS s t
 ·rw[if_pos h]
  refine⟨fun c=>by omega,fun c=>by subst c;exact absurd h (jlr s)⟩
 ·rw[if_neg h]
  by_cases g:s=t
  ·rw[if_pos g];simp[g]
  ·rw[if_neg g];simp[g]
theorem kad (h:HgT):jb2 (fu nn) h=some (jtl h):=by
 unfold jb2 jtl
 cases h.2.1<;>rfl
theorem j1x {h:HgT} (hb: -1000000≤h.1.1∧h.1.1≤1000000∧ -1000000≤h.1.2∧h.1.2≤1000000):jar (fu nn) h=some (jef h):=by
 unfold jar jef
 cases h.2.1 with
 | true=>rw[cond_true,jtu (ja6 (by omega) (by omega))];rfl
 | false=>rw[cond_false,jtu (ja6 (by omega) (by omega))];rfl
theorem jxj (g h:HgT):∃r,jby (fu nn) (g,h)=some r∧(0≤r↔¬ltH g h):=by
 unfold jby
 simp only
 rw[show jam (fu nn) ((g.1.1,g.1.2),(h.1.1,h.1.2))=some (j37 g.1 h.1) from jjz _ _,Option.bind_some,show jb2 (fu nn) ((g.1.1,g.1.2),(g.2.1,g.2.2))=some (jtl g) from kad _,Option.bind_some,
  show jb2 (fu nn) ((h.1.1,h.1.2),(h.2.1,h.2.2))=some (jtl h) from kad _,Option.bind_some,jja,Option.bind_some,jyn,Option.bind_some]
 refine⟨_,rfl,?_⟩
 unfold ltH
 rcases j6o g.1 h.1 with c | c | c
 ·have:=jnw.2 c
  rw[if_pos (by omega)]
  refine⟨fun a=>by omega,fun a=>absurd (.inl c) a⟩
 ·have e:=jwe.2 c
  have nl:¬ltS g.1 h.1:=by rw[c];exact jlr _
  rw[if_neg fun a=>a e]
  by_cases k:jtl g<jtl h
  ·rw[if_pos k]
   exact⟨fun a=>by omega,fun a=>absurd (.inr ⟨c,k⟩) a⟩
  ·rw[if_neg k]
   refine⟨fun _ a=>?_,fun _=>by split<;>omega⟩
   rcases a with a | a
   ·exact nl a
   ·exact k a.2
 ·have n1:¬ltS g.1 h.1:=fun a=>jlr _ (jh4 a c)
  have n2:g.1≠h.1:=fun a=>by rw[a] at c;exact jlr _ c
  have e1:¬j37 g.1 h.1<0:=fun a=>n1 (jnw.1 a)
  have e2:j37 g.1 h.1≠0:=fun a=>n2 (jwe.1 a)
  rw[if_pos e2]
  refine⟨fun _ a=>?_,fun _=>by omega⟩
  rcases a with a | a
  ·exact n1 a
  ·exact n2 a.1
theorem kjt {z:Int} (h0:0≤z) (h1:z≤1000000):(IntKind.u64.wrap z).fdiv (2^ (min (1:Int).toNat (IntKind.u64).bits))=z / 2:=by
 rw[show IntKind.u64.wrap z=z by simp[IntKind.wrap,IntKind.bits,IntKind.signed];omega,show((2:Int)^ (min (1:Int).toNat (IntKind.u64).bits))=2 by decide,Int.fdiv_eq_ediv_of_nonneg _ (by omega)]
theorem jdx {L:List SqT} {i:Nat} (h:i<L.length):L.getD i (0,0)∈L:=by rw[List.getD,List.getElem?_eq_getElem h];exact List.getElem_mem _
theorem Sorted.lt {L:List SqT} (h:Sorted L) {i j:Nat} (hij:i<j) (hj:j<L.length):ltS (L.getD i (0,0)) (L.getD j (0,0)):=by
 rw[List.getD,List.getElem?_eq_getElem (by omega),List.getD,List.getElem?_eq_getElem hj]
 exact List.pairwise_iff_getElem.1 h i j (by omega) hj hij
theorem j5p {L:List SqT} (hL:Sorted L) (hl:L.length≤10000) (s:SqT):Ret (jas (fu nn) (L,(s,()))) fun r=>(r.2=true→r.1=idxS L s)∧(r.2=false→s∉L):=by
 unfold jas
 refine jbb (Inv:=fun x:Int×Int=>0≤x.1∧x.1≤x.2∧x.2≤L.length∧(∀k:Nat,(k:Int)<x.1→ltS (L.getD k (0,0)) s)∧∀k:Nat,x.2≤(k:Int)→k<L.length→¬ltS (L.getD k (0,0)) s) (m:=fun x=>(x.2-x.1).toNat) ?_ _ _ ⟨by simp,by simp,by simp,fun k hk=>by simp only at hk;omega,fun k hk h2=>by simp only at hk;omega⟩ (by simp only[fu];omega)
 rintro ⟨i,j⟩ rec ⟨i1,i2,i3,i4,i5⟩ ih
 simp only at i1 i2 i3 i4 i5 ⊢
 refine jag (fun hlt=>?_) fun hge=>?_
 ·rw[kjt (by omega) (by omega)]
  refine jac (ja6 (by omega) (by omega)) (jac (ja6 (by omega) (by omega)) (jac (jc8 (by omega) (by omega)) ?_))
  rw[show jam (fu nn) (((L.getD ((i+j) / 2).toNat (0,0)).1,(L.getD ((i+j) / 2).toNat (0,0)).2),(s.1,s.2))=some (j37 (L.getD ((i+j) / 2).toNat (0,0)) s) from jjz _ _,Option.bind_some]
  refine jag (fun g=>?_) fun g=>?_
  ·have hm:=jnw.1 g
   refine jac (ja6 (by omega) (by omega)) (ih _ ⟨by simp only;omega,by simp only;omega,by simp only;omega,fun k hk=>?_,i5⟩ (by simp only;omega))
   simp only at hk
   by_cases e:k=((i+j) / 2).toNat
   ·rw[e];exact hm
   ·exact jh4 (hL.lt (i:=k) (j:=((i+j) / 2).toNat) (by omega) (by omega)) hm
  ·have hm:¬ltS (L.getD ((i+j) / 2).toNat (0,0)) s:=fun c=>g (jnw.2 c)
   refine ih _ ⟨by simp only;omega,by simp only;omega,by simp only;omega,i4,fun k hk h2 c=>?_⟩ (by simp only;omega)
   simp only at hk
   by_cases e:k=((i+j) / 2).toNat
   ·rw[e] at c;exact hm c
   ·exact hm (jh4 (hL.lt (i:=((i+j) / 2).toNat) (j:=k) (by omega) h2) c)
 ·have hno:∀k:Nat,k<L.length→L.getD k (0,0)=s→(k:Int)=i:=fun k hk e=>by
   by_cases c1:(k:Int)<i
   ·have:=i4 k c1
    rw[e] at this
    exact absurd this (jlr s)
   ·by_cases c2:(k:Int)=i
    ·exact c2
    ·have:=hL.lt (i:=i.toNat) (j:=k) (by omega) hk
     rw[e] at this
     exact absurd this (i5 i.toNat (by omega) (by omega))
  refine jag (fun hlt=>?_) fun hge2=>?_
  ·refine jac (jc8 (by omega) (by omega)) ?_
   rw[show jam (fu nn) (((L.getD i.toNat (0,0)).1,(L.getD i.toNat (0,0)).2),(s.1,s.2))=some (j37 (L.getD i.toNat (0,0)) s) from jjz _ _,Option.bind_some]
   refine ja4 ⟨fun h=>?_,fun h=>?_⟩
   ·have e:=jwe.1 (of_decide_eq_true h)
    have:=js0 hL.nodup (i:=i.toNat) (by omega)
    rw[e] at this
    simp only
    omega
   ·have e:L.getD i.toNat (0,0)≠s:=fun c=>of_decide_eq_false h (jwe.2 c)
    intro hs
    obtain⟨a,b,c⟩:=jia hs
    have:=hno _ b c
    rw[show(idxS L s).toNat=i.toNat by omega] at c
    exact e c
  ·refine ja4 ⟨fun h=>(by cases h),fun _ hs=>?_⟩
   obtain⟨a,b,c⟩:=jia hs
   have:=hno _ b c
   omega
theorem jiv {L:List SqT} {H:List HgT} (hL:Sorted L) (hl:L.length≤10000) (s:SqT):jan (fu nn) ((L,H),s)=some (idxS L s):=by
 apply Ret.eq
 unfold jan
 refine jpe (j5p hL hl s) fun r ⟨h1,h2⟩=>?_
 cases hr:r.2 with
 | true=>exact j05 (fun g=>by cases g) fun _=>ja4 (h1 hr)
 | false=>
   refine j05 (fun _=>ja4 ?_) fun g=>by cases g
   have:=h2 hr
   rw[idxS,if_neg this]
theorem jqv {p:List Int} (hl:p.length≤10000) (x:Int):jbe (fu nn) (p,x)=some (decide (x∈p)):=by
 apply Ret.eq
 unfold jbe
 have key:Ret (jdc (fu nn) (p,x)) fun r=>(0≤r↔x∈p):=by
  unfold jdc
  simp only
  refine jbb (Inv:=fun i:Int=>0≤i∧i≤p.length∧∀k:Nat,(k:Int)<i→p.getD k 0≠x) (m:=fun i=>((p.length:Int)-i).toNat) ?_ _ _ ⟨by simp,by simp,fun k hk=>by omega⟩ (by simp only[fu];omega)
  rintro i rec ⟨i1,i2,i3⟩ ih
  refine jag (fun hlt=>?_) fun hge=>?_
  ·refine jac (jc8 (by omega) (by omega)) (jag (fun g=>ja4 ?_) fun g=>jac (ja6 (by omega) (by omega)) (ih _ ⟨by omega,by omega,fun k hk=>?_⟩ (by omega)))
   ·exact⟨fun _=>by rw[g];exact jv3 (by omega),fun _=>i1⟩
   ·by_cases e:(k:Int)=i
    ·rw[show k=i.toNat by omega];exact fun c=>g c.symm
    ·exact i3 k (by omega)
  ·refine ja4 ⟨fun c=>by omega,fun c=>?_⟩
   obtain⟨k,hk,e⟩:=List.mem_iff_getElem.1 c
   have:=i3 k (by omega)
   rw[List.getD,List.getElem?_eq_getElem hk] at this
   exact absurd e this
 refine jpe key fun r hr=>ja4 ?_
 rw[decide_eq_decide]
 exact hr
end X
end Go.Vm
namespace Go.Vm
namespace X
open W
variable {nn:Nat}
theorem ji7 {α:Type}:∀ {l p:List α},l.Nodup→(∀x∈l,x∈p)→l.length≤p.length
 | [],p,_,_=>Nat.zero_le _
 | a::l,p,hn,h=>by
   obtain⟨h1,h2⟩:=List.nodup_cons.1 hn
   obtain⟨A,B,rfl⟩:=List.append_of_mem (h a List.mem_cons_self)
   have:=ji7 (l:=l) (p:=A++B) h2 fun x hx=>by
    have:=h x (List.mem_cons_of_mem _ hx)
    simp only[List.mem_append,List.mem_cons] at this ⊢
    rcases this with g | g | g
    ·exact .inl g
    ·subst g;exact absurd hx h1
    ·exact .inr g
   rw[List.length_append] at this
   rw[List.length_cons,List.length_append,List.length_cons]
   omega
abbrev hZ:HgT:=((0,0),(false,0))
theorem jgf {H:List HgT} {i:Nat} (h:i<H.length):H.getD i hZ∈H:=by rw[List.getD,List.getElem?_eq_getElem h];exact List.getElem_mem _
structure Ends (S:List SqT) (H:List HgT):Prop where
 srt:Sorted S
 le:S.length≤64
 bd:∀s∈S,(-64≤s.1∧s.1≤64)∧(-64≤s.2∧s.2≤64)
 ends:∀h∈H,h.1∈S∧jef h∈S
theorem NetOK.ends' {S:List SqT} {H:List HgT} (h:NetOK S H):Ends S H:=⟨h.srt,h.le,h.bd,h.ends⟩
theorem Ends.other {S:List SqT} {H:List HgT} (h:Ends S H) {g:HgT} (hg:g∈H):jar (fu nn) g=some (jef g):=by
 have:=h.bd _ (h.ends g hg).1
 exact j1x (by omega)
def j1d (n:Nat):List Int:=(List.range n).map Int.ofNat
theorem jo0 {n:Nat} {x:Int}:x∈j1d n↔0≤x∧x<n:=by
 simp only[j1d,List.mem_map,List.mem_range]
 constructor
 ·rintro ⟨a,h,rfl⟩;exact⟨by simp,by simp;omega⟩
 ·intro h;exact⟨x.toNat,by omega,by simp;omega⟩
theorem j6x {S:List SqT} {H:List HgT} (h:Ends S H) (hne:1≤S.length) (hH:H.length≤10000):Ret (jb6 (fu nn) (S,H)) fun o=>o.Nodup∧(∀x∈o,0≤x∧x<S.length)∧(0:Int)∈o∧∀g∈H,(idxS S g.1∈o↔idxS S (jef g)∈o):=by
 have hle:=h.le
 unfold jb6
 refine jbb (Inv:=fun x:List Int×Int=>0≤x.2∧x.2≤x.1.length∧x.1.Nodup∧(∀y∈x.1,0≤y∧y<S.length)∧(0:Int)∈x.1∧∀m:Nat,(m:Int)<x.2→∀g∈H,(idxS S g.1=x.1.getD m 0→idxS S (jef g)∈x.1)∧(idxS S (jef g)=x.1.getD m 0→idxS S g.1∈x.1)) (m:=fun x=>((S.length:Int)-x.2).toNat) ?_ _ _ ⟨by simp,by simp,by simp,fun y hy=>by simp at hy;omega,by simp,fun m hm=>by simp only at hm;omega⟩ (by simp only[fu];omega)
 rintro ⟨o,k⟩ rec ⟨i1,i2,i3,i4,i5,i6⟩ ih
 simp only at i1 i2 i3 i4 i5 i6 ⊢
 have cnt:∀q:List Int,q.Nodup→(∀y∈q,0≤y∧y<S.length)→q.length≤S.length:=fun q a b=>by
  have:=ji7 a (p:=j1d S.length) fun x hx=>jo0.2 (b x hx)
  simpa[j1d] using this
 have hol:=cnt o i3 i4
 refine jag (fun hlt=>?_) fun hge=>?_
 ·refine jbb (Inv:=fun x:List Int×Int=>0≤x.2∧x.2≤H.length∧x.1.Nodup∧(∀y∈x.1,0≤y∧y<S.length)∧(∃more,x.1=o++more)∧∀m:Nat,(m:Int)<x.2→(idxS S (H.getD m hZ).1=o.getD k.toNat 0→idxS S (jef (H.getD m hZ))∈x.1)∧(idxS S (jef (H.getD m hZ))=o.getD k.toNat 0→idxS S (H.getD m hZ).1∈x.1)) (m:=fun x=>((H.length:Int)-x.2).toNat) ?_ _ _ ⟨by simp,by simp,i3,i4,⟨[],by simp⟩,fun m hm=>by simp only at hm;omega⟩ (by simp only[fu];omega)
  rintro ⟨p,i⟩ rec2 ⟨j1,j2,j3,j4,⟨more,j5⟩,j6⟩ ih2
  simp only at j1 j2 j3 j4 j5 j6 ⊢
  have hpl:=cnt p j3 j4
  have gk:p.getD k.toNat 0=o.getD k.toNat 0:=by rw[j5,List.getD,List.getD,List.getElem?_append_left (by omega)]
  have hpo:o.length≤p.length:=by rw[j5,List.length_append];omega
  refine jag (fun hlt2=>?_) fun hge2=>?_
  ·have hg:=jgf (H:=H) (i:=i.toNat) (by omega)
   obtain⟨e1,e2⟩:=h.ends _ hg
   refine jac (jc8 (by omega) (by omega)) ?_
   rw[show jan (fu nn) ((S,H),((H.getD i.toNat hZ).1.1,(H.getD i.toNat hZ).1.2))=some (idxS S (H.getD i.toNat hZ).1) from jiv h.srt (by omega) _,Option.bind_some,
    show jar (fu nn) (((H.getD i.toNat hZ).1.1,(H.getD i.toNat hZ).1.2),((H.getD i.toNat hZ).2.1,(H.getD i.toNat hZ).2.2))=some (jef (H.getD i.toNat hZ)) from h.other hg,Option.bind_some,
    show jan (fu nn) ((S,H),((jef (H.getD i.toNat hZ)).1,(jef (H.getD i.toNat hZ)).2))=some (idxS S (jef (H.getD i.toNat hZ))) from jiv h.srt (by omega) _,Option.bind_some]
   have a1:=jia e1
   have a2:=jia e2
   have hne':idxS S (H.getD i.toNat hZ).1≠idxS S (jef (H.getD i.toNat hZ)):=fun c=>kai _ (j2g e1 e2 c).symm
   refine jac (jc8 (by omega) (by omega)) ?_
   rw[gk]
   have nxt:∀q:List Int,q.Nodup→(∀y∈q,0≤y∧y<S.length)→(∃more',q=p++more')→((idxS S (H.getD i.toNat hZ).1=o.getD k.toNat 0→idxS S (jef (H.getD i.toNat hZ))∈q)∧(idxS S (jef (H.getD i.toNat hZ))=o.getD k.toNat 0→idxS S (H.getD i.toNat hZ).1∈q))→Ret (chk (jaq (i+1)) (rec2 (q,i+1))) fun o=>o.Nodup∧(∀x∈o,0≤x∧x<S.length)∧(0:Int)∈o∧∀g∈H,(idxS S g.1∈o↔idxS S (jef g)∈o):=fun q q1 q2 ⟨more',q3⟩ q4=>by
    refine jac (ja6 (by omega) (by omega)) (ih2 _ ⟨by simp only;omega,by simp only;omega,q1,q2,⟨more++more',by simp only;rw[q3,j5,List.append_assoc]⟩,fun m hm=>?_⟩ (by simp only;omega))
    simp only at hm ⊢
    by_cases e:(m:Int)=i
    ·rw[show m=i.toNat by omega];exact q4
    ·have:=j6 m (by omega)
     exact⟨fun c=>by rw[q3];exact List.mem_append_left _ (this.1 c),fun c=>by rw[q3];exact List.mem_append_left _ (this.2 c)⟩
   generalize idxS S (H.getD i.toNat hZ).1=a at *
   generalize idxS S (jef (H.getD i.toNat hZ))=b at *
   have add:∀y:Int,(0≤y∧y<S.length)→(∀q:List Int,y∈q→(a=o.getD k.toNat 0→b∈q)∧(b=o.getD k.toNat 0→a∈q))→Ret ((jbe (fu nn) (p,y)).bind fun r7=>bif(!r7) then(chk (jfo (p.length+1)) (chk (jaq (i+1)) (rec2 ((p++[y]),(i+1))))) else(chk (jaq (i+1)) (rec2 (p,(i+1))))) fun o=>o.Nodup∧(∀x∈o,0≤x∧x<S.length)∧(0:Int)∈o∧∀g∈H,(idxS S g.1∈o↔idxS S (jef g)∈o):=fun y hy hq=>by
    rw[jqv (by omega),Option.bind_some]
    by_cases hm:y∈p
    ·rw[decide_eq_true hm]
     exact nxt p j3 j4 ⟨[],by simp⟩ (hq p hm)
    ·rw[decide_eq_false hm]
     refine jac (jh5 (by omega)) (nxt (p++[y]) ?_ (fun z hz=>?_) ⟨[y],rfl⟩ (hq _ (by simp)))
     ·rw[List.nodup_append]
      exact⟨j3,by simp,fun u hu v hv e=>hm (by simp at hv;rw[←hv,←e];exact hu)⟩
     ·rcases List.mem_append.1 hz with c | c
      ·exact j4 z c
      ·simp at c;rw[c];exact hy
   refine j21 (fun x:Int×Int=>(x=(b,a)∧b=o.getD k.toNat 0)∨(x=(a,b)∧b≠o.getD k.toNat 0)) (fun x hx=>?_) fun j hj=>?_
   ·refine jac (jc8 (by omega) (by omega)) ?_
    rcases hx with⟨rfl,hb⟩ | ⟨rfl,hb⟩
    ·refine jag (fun _=>add a (by omega) fun q hq=>⟨fun c=>absurd (c.trans hb.symm) hne',fun _=>hq⟩) fun g=>absurd hb g
    ·refine jag (fun ha=>add b (by omega) fun q hq=>⟨fun _=>hq,fun c=>absurd c hb⟩) fun ha=>nxt p j3 j4 ⟨[],by simp⟩ ⟨fun c=>absurd c ha,fun c=>absurd c hb⟩
   ·exact jag (fun g=>hj _ (.inl ⟨rfl,g⟩)) fun g=>hj _ (.inr ⟨rfl,g⟩)
  ·refine jac (ja6 (by omega) (by omega)) (ih _ ⟨by simp only;omega,by simp only;omega,j3,j4,by simp only;rw[j5];exact List.mem_append_left _ i5,fun m hm g hg=>?_⟩ (by simp only;omega))
   simp only at hm ⊢
   by_cases e:(m:Int)=k
   ·obtain⟨q,hq,rfl⟩:=List.mem_iff_getElem.1 hg
    have:=j6 q (by omega)
    rw[List.getD,List.getElem?_eq_getElem hq,Option.getD_some] at this
    rw[show m=k.toNat by omega,gk]
    exact this
   ·have:=i6 m (by omega) g hg
    have gm:p.getD m 0=o.getD m 0:=by rw[j5,List.getD,List.getD,List.getElem?_append_left (by omega)]
    rw[gm]
    exact⟨fun c=>by rw[j5];exact List.mem_append_left _ (this.1 c),fun c=>by rw[j5];exact List.mem_append_left _ (this.2 c)⟩
 ·refine ja4 ⟨i3,i4,i5,fun g hg=>?_⟩
  have at_:∀y∈o,∃m:Nat,(m:Int)<k∧o.getD m 0=y:=fun y hy=>by
   obtain⟨m,hm,e⟩:=List.mem_iff_getElem.1 hy
   exact⟨m,by omega,by rw[List.getD,List.getElem?_eq_getElem hm];exact e⟩
  constructor
  ·intro c
   obtain⟨m,hm,e⟩:=at_ _ c
   exact(i6 m hm g hg).1 e.symm
  ·intro c
   obtain⟨m,hm,e⟩:=at_ _ c
   exact(i6 m hm g hg).2 e.symm
theorem j3a {S:List SqT} {H:List HgT} (h:NetOK S H) (hH:H.length≤10000):jce (fu nn) (S,H)=some 0:=by
 have hle:=h.le
 have hge:=h.ge
 apply Ret.eq
 unfold jce
 simp only
 refine jag (fun g=>by omega) fun _=>?_
 refine jbb (Inv:=fun x:Int=>0≤x∧x≤S.length) (m:=fun x=>((S.length:Int)-x).toNat) ?_ _ _ ⟨by simp,by simp⟩ (by simp only[fu];omega)
 rintro i rec ⟨i1,i2⟩ ih
 refine jag (fun hlt=>?_) fun hge'=>?_
 ·have hb:=h.bd _ (jdx (L:=S) (i:=i.toNat) (by omega))
  have nxt:Ret (chk (jaq (i+1)) (rec (i+1))) fun x=>x=0:=jac (ja6 (by omega) (by omega)) (ih _ ⟨by omega,by omega⟩ (by omega))
  refine jac (jc8 (by omega) (by omega)) (jag (fun g=>by omega) fun _=>jag (fun g=>by omega) fun _=>jag (fun g=>by omega) fun _=>jag (fun g=>by omega) fun _=>jag (fun g=>?_) fun _=>nxt)
  refine jac (ja6 (by omega) (by omega)) (jac (jc8 (by omega) (by omega)) ?_)
  rw[show jam (fu nn) (((S.getD (i-1).toNat (0,0)).1,(S.getD (i-1).toNat (0,0)).2),((S.getD i.toNat (0,0)).1,(S.getD i.toNat (0,0)).2))=some (j37 (S.getD (i-1).toNat (0,0)) (S.getD i.toNat (0,0))) from jjz _ _,Option.bind_some]
  have:=jnw.2 (h.srt.lt (i:=(i-1).toNat) (j:=i.toNat) (by omega) (by omega))
  exact jag (fun g=>by omega) fun _=>nxt
 refine jbb (Inv:=fun x:Int=>0≤x∧x≤H.length) (m:=fun x=>((H.length:Int)-x).toNat) ?_ _ _ ⟨by simp,by simp⟩ (by simp only[fu];omega)
 rintro i rec ⟨i1,i2⟩ ih
 refine jag (fun hlt=>?_) fun hge'=>?_
 ·have hb: -1≤(H.getD i.toNat ((0,0),(false,0))).2.2∧(H.getD i.toNat ((0,0),(false,0))).2.2≤1:=h.bend _ (jgf (H:=H) (i:=i.toNat) (by omega))
  have nxt:Ret (chk (jaq (i+1)) (rec (i+1))) fun x=>x=0:=jac (ja6 (by omega) (by omega)) (ih _ ⟨by omega,by omega⟩ (by omega))
  refine jac (jc8 (by omega) (by omega)) (jag (fun g=>by omega) fun _=>jag (fun g=>by omega) fun _=>jag (fun g=>?_) fun _=>nxt)
  refine jac (ja6 (by omega) (by omega)) (jac (jc8 (by omega) (by omega)) ?_)
  obtain⟨r,hr,hr2⟩:=jxj (H.getD (i-1).toNat hZ) (H.getD i.toNat hZ)
  rw[show jby (fu nn) ((((H.getD (i-1).toNat hZ).1.1,(H.getD (i-1).toNat hZ).1.2),((H.getD (i-1).toNat hZ).2.1,(H.getD (i-1).toNat hZ).2.2)),(((H.getD i.toNat hZ).1.1,(H.getD i.toNat hZ).1.2),((H.getD i.toNat hZ).2.1,(H.getD i.toNat hZ).2.2)))=some r from hr,Option.bind_some]
  have lt:ltH (H.getD (i-1).toNat hZ) (H.getD i.toNat hZ):=by
   rw[List.getD,List.getElem?_eq_getElem (by omega),List.getD,List.getElem?_eq_getElem (by omega)]
   exact List.pairwise_iff_getElem.1 h.hs _ _ (by omega) (by omega) (by omega)
  exact jag (fun g=>absurd lt (hr2.1 g)) fun _=>nxt
 refine jag (fun g=>by omega) fun _=>?_
 refine jbb (Inv:=fun x:Int=>0≤x∧x≤H.length) (m:=fun x=>((H.length:Int)-x).toNat) ?_ _ _ ⟨by simp,by simp⟩ (by simp only[fu];omega)
 rintro i rec ⟨i1,i2⟩ ih
 refine jag (fun hlt=>?_) fun hge'=>?_
 ·have hg:=jgf (H:=H) (i:=i.toNat) (by omega)
  obtain⟨e1,e2⟩:=h.ends _ hg
  have a1:=jia e1
  have a2:=jia e2
  refine jac (jc8 (by omega) (by omega)) ?_
  rw[show jan (fu nn) ((S,H),((H.getD i.toNat hZ).1.1,(H.getD i.toNat hZ).1.2))=some (idxS S (H.getD i.toNat hZ).1) from jiv h.srt (by omega) _,Option.bind_some]
  refine jag (fun g=>by omega) fun _=>?_
  rw[show jar (fu nn) (((H.getD i.toNat hZ).1.1,(H.getD i.toNat hZ).1.2),((H.getD i.toNat hZ).2.1,(H.getD i.toNat hZ).2.2))=some (jef (H.getD i.toNat hZ)) from h.ends'.other hg,Option.bind_some,
   show jan (fu nn) ((S,H),((jef (H.getD i.toNat hZ)).1,(jef (H.getD i.toNat hZ)).2))=some (idxS S (jef (H.getD i.toNat hZ))) from jiv h.srt (by omega) _,Option.bind_some]
  exact jag (fun g=>by omega) fun _=>jac (ja6 (by omega) (by omega)) (ih _ ⟨by omega,by omega⟩ (by omega))
 refine jpe (j6x h.ends' hge hH) fun o ⟨o1,o2,o3,o4⟩=>?_
 have all:∀s∈S,idxS S s∈o:=h.con (fun s=>idxS S s∈o) ⟨_,jdx (L:=S) (i:=0) (by omega),by
  rw[js0 h.srt.nodup (by omega)];exact o3⟩ o4
 have:S.length≤o.length:=by
  have:=ji7 (l:=j1d S.length) (p:=o) (by
   unfold j1d
   exact List.nodup_range.map (f:=Int.ofNat) (fun a b h h2=>h (Int.ofNat.inj h2))) fun x hx=>by
    have hx:=jo0.1 hx
    have:=all _ (jdx (L:=S) (i:=x.toNat) (by omega))
    rw[js0 h.srt.nodup (by omega)] at this
    rwa[show((x.toNat:Nat):Int)=x by omega] at this
  simpa[j1d] using this
 exact jag (fun g=>by omega) fun _=>ja4 rfl
end X
end Go.Vm
namespace Go.Vm
namespace X
open W
variable {nn:Nat}
end X
end Go.Vm
namespace Go.Vm
namespace X
open W
variable {nn:Nat}
def j4c (s:SqT) (d:Int):SqT:=if d=0 then(s.1+1,s.2) else if d=1 then(s.1,s.2+1) else if d=2 then(s.1-1,s.2) else(s.1,s.2-1)
def jip (B:Int) (s:SqT):Prop:=(-B≤s.1∧s.1≤B)∧(-B≤s.2∧s.2≤B)
theorem j4b {B:Int} {s:SqT} {d:Int} (h:jip B s):jip (B+1) (j4c s d):=by
 unfold jip j4c at *
 repeat' split
 all_goals (simp only;omega)
theorem j7q {B:Int} {s:SqT} {d:Int} (h:jip B s) (hB:B≤1000):je1 (fu nn) (s,d)=some (j4c s d):=by
 unfold jip at h
 unfold je1 j4c
 simp only
 by_cases h0:d=0
 ·rw[decide_eq_true h0,cond_true,if_pos h0,jtu (ja6 (by omega) (by omega))]
 rw[decide_eq_false h0,cond_false,if_neg h0]
 by_cases h1:d=1
 ·rw[decide_eq_true h1,cond_true,if_pos h1,jtu (ja6 (by omega) (by omega))]
 rw[decide_eq_false h1,cond_false,if_neg h1]
 by_cases h2:d=2
 ·rw[decide_eq_true h2,cond_true,if_pos h2,jtu (ja6 (by omega) (by omega))]
 rw[decide_eq_false h2,cond_false,if_neg h2,jtu (ja6 (by omega) (by omega))]
theorem kce (s t:SqT):jhj (fu nn) (s,t)=some (decide (ltS s t)):=by
 apply Ret.eq
 unfold jhj
 refine jag (fun g=>ja4 ?_) fun g=>jag (fun g2=>ja4 ?_) fun g2=>ja4 ?_
 ·rw[decide_eq_true (show ltS s t from .inl g)]
 ·rw[decide_eq_decide]
  exact⟨fun c=>.inr ⟨g2,c⟩,fun c=>by rcases c with c | c;exact absurd c g;exact c.2⟩
 ·rw[decide_eq_false]
  rintro (c | c)
  ·exact g c
  ·exact g2 c.1
theorem keu (s t:SqT):(decide (s.1=t.1)&&decide (s.2=t.2))=decide (s=t):=by
 rw[Bool.eq_iff_iff]
 simp only[Bool.and_eq_true,decide_eq_true_eq]
 exact⟨fun h=>Prod.ext h.1 h.2,fun h=>by rw[h];exact⟨rfl,rfl⟩⟩
theorem khe {L:List SqT} (hl:L.length≤10000) (s:SqT):jjt (fu nn) (L,s)=some (decide (s∈L)):=by
 apply Ret.eq
 unfold jjt
 simp only
 refine jbb (Inv:=fun i:Int=>0≤i∧i≤L.length∧∀k:Nat,(k:Int)<i→L.getD k (0,0)≠s) (m:=fun i=>((L.length:Int)-i).toNat) ?_ _ _ ⟨by simp,by simp,fun k hk=>by omega⟩ (by simp only[fu];omega)
 rintro i rec ⟨i1,i2,i3⟩ ih
 refine jag (fun hlt=>?_) fun hge=>?_
 ·rw[show(decide ((L.getD i.toNat (0,0)).1=s.1)&&decide ((L.getD i.toNat (0,0)).2=s.2))=decide (L.getD i.toNat (0,0)=s) from keu _ _]
  refine jac (jc8 (by omega) (by omega)) (jag (fun g=>ja4 ?_) fun g=>jac (ja6 (by omega) (by omega)) (ih _ ⟨by omega,by omega,fun k hk=>?_⟩ (by omega)))
  ·rw[decide_eq_true]
   rw[←g];exact jdx (by omega)
  ·by_cases e:(k:Int)=i
   ·rw[show k=i.toNat by omega];exact g
   ·exact i3 k (by omega)
 ·refine ja4 ?_
  rw[decide_eq_false]
  intro c
  obtain⟨k,hk,e⟩:=List.mem_iff_getElem.1 c
  have:=i3 k (by omega)
  rw[List.getD,List.getElem?_eq_getElem hk] at this
  exact this e
theorem j5n {L:List SqT} (hn:L.Nodup) (hl:L.length≤1000):Ret (jb3 (fu nn) L) fun o=>Sorted o∧o.Perm L:=by
 unfold jb3
 refine jbb (Inv:=fun x:List SqT×Int=>0≤x.2∧x.2≤L.length∧Sorted x.1∧x.1.Perm (L.take x.2.toNat)) (m:=fun x=>((L.length:Int)-x.2).toNat) ?_ _ _ ⟨by simp,by simp,List.Pairwise.nil,by simp⟩ (by simp only[fu];omega)
 rintro ⟨o,i⟩ rec ⟨i1,i2,i3,i4⟩ ih
 simp only at i1 i2 i3 i4 ⊢
 have hol:o.length=i.toNat:=by rw[i4.length_eq,List.length_take];omega
 refine jag (fun hlt=>?_) fun hge=>ja4 ⟨i3,by rw[List.take_of_length_le (by omega)] at i4;exact i4⟩
 have hs:L.getD i.toNat (0,0)=L[i.toNat]:=by rw[List.getD,List.getElem?_eq_getElem (by omega)];rfl
 have hno:L.getD i.toNat (0,0)∉o:=fun c=>by
  have:=i4.mem_iff.1 c
  obtain⟨m,hm,e⟩:=List.mem_iff_getElem.1 this
  rw[List.length_take] at hm
  rw[List.getElem_take,hs] at e
  have q1:=hn.idxOf_getElem m (by omega)
  have q2:=hn.idxOf_getElem i.toNat (by omega)
  rw[e] at q1
  omega
 have het:L.take (i+1).toNat=L.take i.toNat++[L.getD i.toNat (0,0)]:=by
  rw[show(i+1).toNat=i.toNat+1 by omega,List.take_add_one,List.getD,List.getElem?_eq_getElem (by omega)];rfl
 generalize L.getD i.toNat (0,0)=s at *
 have put:∀a:Nat,a≤o.length→(∀k:Nat,a≤k→k<o.length→ltS s (o.getD k (0,0)))→(∀k:Nat,k<a→ltS (o.getD k (0,0)) s)→Sorted ((o.take a++[s])++o.drop a)∧((o.take a++[s])++o.drop a).Perm (L.take (i+1).toNat):=fun a ha h1 h2=>by
  refine⟨?_,?_⟩
  ·unfold Sorted
   rw[List.pairwise_append,List.pairwise_append]
   have p1:∀x∈o.take a,ltS x s:=fun x hx=>by
    obtain⟨m,hm,e⟩:=List.mem_iff_getElem.1 hx
    rw[List.length_take] at hm
    have:=h2 m (by omega)
    rw[List.getElem_take] at e
    rw[List.getD,List.getElem?_eq_getElem (by omega),Option.getD_some,e] at this
    exact this
   have p2:∀x∈o.drop a,ltS s x:=fun x hx=>by
    obtain⟨m,hm,e⟩:=List.mem_iff_getElem.1 hx
    rw[List.length_drop] at hm
    have:=h1 (a+m) (by omega) (by omega)
    rw[List.getElem_drop] at e
    rw[List.getD,List.getElem?_eq_getElem (by omega),Option.getD_some,e] at this
    exact this
   refine⟨⟨List.Pairwise.sublist (List.take_sublist _ _) i3,List.pairwise_singleton _ _,fun x hx y hy=>by simp at hy;rw[hy];exact p1 x hx⟩,List.Pairwise.sublist (List.drop_sublist _ _) i3,fun x hx y hy=>?_⟩
   rcases List.mem_append.1 hx with c | c
   ·exact jh4 (p1 x c) (p2 y hy)
   ·simp at c;rw[c];exact p2 y hy
  ·rw[het]
   refine List.Perm.trans ?_ (List.Perm.append_right [s] i4)
   rw[List.append_assoc]
   refine List.Perm.trans (List.Perm.append_left _ List.perm_append_comm) ?_
   rw[←List.append_assoc,List.take_append_drop]
 have fin:∀a:Int,0≤a→a≤o.length→(∀k:Nat,a≤(k:Int)→k<o.length→ltS s (o.getD k (0,0)))→(∀k:Nat,(k:Int)<a→ltS (o.getD k (0,0)) s)→
   Ret (chk (bnb 0 a o.length) (chk (inb i L.length) (chk (bnb a ((o.length:Nat):Int) o.length) (chk (jfo (0+ ((o.drop 0).take a.toNat).length)) (chk (jfo (([]++((o.drop 0).take a.toNat)).length+1)) (chk (jfo ((([]++((o.drop 0).take a.toNat))++[(s.1,s.2)]).length+ ((o.drop a.toNat).take (o.length-a.toNat)).length)) (chk (jaq (i+1)) (rec (((([]++((o.drop 0).take a.toNat))++[(s.1,s.2)])++((o.drop a.toNat).take (o.length-a.toNat))),(i+1)))))))))) (fun o=>Sorted o∧o.Perm L):=fun a a0 a1 h1 h2=>by
  obtain⟨q1,q2⟩:=put a.toNat (by omega) (fun k hk h=>h1 k (by omega) h) fun k hk=>h2 k (by omega)
  have et:(o.drop a.toNat).take (o.length-a.toNat)=o.drop a.toNat:=List.take_of_length_le (by simp)
  rw[et,List.drop_zero,List.nil_append]
  refine jac (by simp[bnb];omega) (jac (jc8 (by omega) (by omega)) (jac (by simp[bnb];omega) (jac (jh5 (by simp;omega)) (jac (jh5 (by simp;omega)) (jac (jh5 (by simp;omega)) (jac (ja6 (by omega) (by omega)) (ih _ ⟨by simp only;omega,by simp only;omega,q1,q2⟩ (by simp only;omega))))))))
 refine jbb (Inv:=fun a:Int=>0≤a∧a≤o.length∧∀k:Nat,a≤(k:Int)→k<o.length→ltS s (o.getD k (0,0))) (m:=fun a=>a.toNat) ?_ _ _ ⟨by omega,by omega,fun k hk h=>by omega⟩ (by simp only[fu];omega)
 rintro a rec2 ⟨a0,a1,a2⟩ ih2
 refine jag (fun hpos=>?_) fun hz=>fin a a0 a1 a2 fun k hk=>by omega
 refine jac (jc8 (by omega) (by omega)) (jac (ja6 (by omega) (by omega)) (jac (jc8 (by omega) (by omega)) ?_))
 rw[show jhj (fu nn) ((s.1,s.2),((o.getD (a-1).toNat (0,0)).1,(o.getD (a-1).toNat (0,0)).2))=some (decide (ltS s (o.getD (a-1).toNat (0,0)))) from kce _ _,Option.bind_some]
 refine jag (fun g=>jac (ja6 (by omega) (by omega)) (ih2 _ ⟨by omega,by omega,fun k hk h=>?_⟩ (by omega))) fun g=>fin a a0 a1 a2 fun k hk=>?_
 ·by_cases e:(k:Int)=a-1
  ·rw[show k=(a-1).toNat by omega];exact g
  ·exact a2 k (by omega) h
 ·have top:ltS (o.getD (a-1).toNat (0,0)) s:=by
   rcases j6o (o.getD (a-1).toNat (0,0)) s with c | c | c
   ·exact c
   ·exact absurd (by rw[←c];exact jdx (by omega)) hno
   ·exact absurd c g
  by_cases e:k=(a-1).toNat
  ·rw[e];exact top
  ·exact jh4 (i3.lt (i:=k) (j:=(a-1).toNat) (by omega) (by omega)) top
end X
end Go.Vm
namespace Go.Vm
namespace X
open W
variable {nn:Nat}
def KD (H:List HgT):Prop:=H.Pairwise fun a b=>¬(a.1=b.1∧a.2.1=b.2.1)
theorem ju6 (h:HgT):jtl h=0∨jtl h=1:=by unfold jtl;split<;>simp
theorem j4x {g h:HgT}:jtl g=jtl h↔g.2.1=h.2.1:=by
 unfold jtl
 cases g.2.1<;>cases h.2.1<;>simp
theorem j0e (h:HgT):¬ltH h h:=by
 rintro (c | c)
 ·exact jlr _ c
 ·omega
def MH (S:List SqT) (H:List HgT) (i w k:Int) (g:HgT):Prop:=(∃m:Nat,(m:Int)<i∧g.1=S.getD m (0,0))∨(g.1=S.getD i.toNat (0,0)∧(jtl g<w∨(jtl g=w∧∃q:Nat,(q:Int)<k∧H.getD q hZ=g)))
theorem jx8 {S:List SqT} {H:List HgT} (hS:Sorted S) (hK:KD H) (hs:S.length≤1000) (hl:H.length≤1000):Ret (jc2 (fu nn) (S,H)) fun o=>o.Pairwise ltH∧∀g,g∈o↔g∈H∧g.1∈S:=by
 have cnt:∀o:List HgT,o.Pairwise ltH→(∀g∈o,g∈H)→o.length≤H.length:=fun o h1 h2=>ji7 (h1.imp fun {a b} hab e=>by subst e;exact j0e a hab) h2
 unfold jc2
 refine jbb (Inv:=fun x:List HgT×Int=>0≤x.2∧x.2≤S.length∧x.1.Pairwise ltH∧∀g,g∈x.1↔g∈H∧MH S H x.2 0 0 g) (m:=fun x=>((S.length:Int)-x.2).toNat) ?_ _ _ ⟨by simp,by simp,List.Pairwise.nil,fun g=>?_⟩ (by simp only[fu];omega)
 rotate_left
 ·simp only[List.not_mem_nil,false_iff]
  rintro ⟨_,⟨m,hm,_⟩ | ⟨_,h | ⟨_,q,hq,_⟩⟩⟩
  ·omega
  ·rcases ju6 g with e | e<;>omega
  ·omega
 rintro ⟨o,i⟩ rec ⟨i1,i2,i3,i4⟩ ih
 simp only at i1 i2 i3 i4 ⊢
 refine jag (fun hlt=>?_) fun hge=>?_
 ·refine jbb (Inv:=fun x:List HgT×Int=>0≤x.2∧x.2≤2∧x.1.Pairwise ltH∧∀g,g∈x.1↔g∈H∧MH S H i x.2 0 g) (m:=fun x=>(2-x.2).toNat) ?_ _ _ ⟨by simp,by simp,i3,i4⟩ (by simp only[fu];omega)
  rintro ⟨o1,w⟩ rec1 ⟨w1,w2,w3,w4⟩ ih1
  simp only at w1 w2 w3 w4 ⊢
  refine jag (fun hw=>?_) fun hw=>?_
  ·refine jbb (Inv:=fun x:List HgT×Int=>0≤x.2∧x.2≤H.length∧x.1.Pairwise ltH∧∀g,g∈x.1↔g∈H∧MH S H i w x.2 g) (m:=fun x=>((H.length:Int)-x.2).toNat) ?_ _ _ ⟨by simp,by simp,w3,w4⟩ (by simp only[fu];omega)
   rintro ⟨o2,k⟩ rec2 ⟨k1,k2,k3,k4⟩ ih2
   simp only at k1 k2 k3 k4 ⊢
   have hc:=cnt o2 k3 fun g hg=>((k4 g).1 hg).1
   refine jag (fun hk=>?_) fun hk=>?_
   ·have hin:=jc8 (i:=k) (n:=H.length) (by omega) (by omega)
    have hsn:=jc8 (i:=i) (n:=S.length) (by omega) (by omega)
    have hm:=jgf (H:=H) (i:=k.toNat) (by omega)
    have skip:¬((H.getD k.toNat hZ).1=S.getD i.toNat (0,0)∧jtl (H.getD k.toNat hZ)=w)→Ret (chk (jaq (k+1)) (rec2 (o2,(k+1)))) (fun o=>o.Pairwise ltH∧∀g,g∈o↔g∈H∧g.1∈S):=fun hne=>by
     refine jac (ja6 (by omega) (by omega)) (ih2 _ ⟨by simp only;omega,by simp only;omega,k3,fun g=>(k4 g).trans ?_⟩ (by simp only;omega))
     refine and_congr Iff.rfl (or_congr Iff.rfl (and_congr_right fun h1=>or_congr Iff.rfl (and_congr_right fun h2=>⟨fun⟨q,hq,e⟩=>⟨q,by omega,e⟩,fun⟨q,hq,e⟩=>?_⟩)))
     by_cases c:(q:Int)=k
     ·rw[show q=k.toNat by omega] at e
      exact absurd ⟨by rw[e];exact h1,by rw[e];exact h2⟩ hne
     ·exact⟨q,by omega,e⟩
    refine jac hin (jac hsn ?_)
    rw[show(decide ((H.getD k.toNat ((0,0),(false,0))).1.1=(S.getD i.toNat (0,0)).1)&&decide ((H.getD k.toNat ((0,0),(false,0))).1.2=(S.getD i.toNat (0,0)).2))=decide ((H.getD k.toNat hZ).1=S.getD i.toNat (0,0)) from keu _ _]
    refine jag (fun g1=>?_) fun g1=>skip fun c=>g1 c.1
    refine jac hin (j05 (fun g2=>?_) fun g2=>skip fun c=>?_)
    ·have hway:jtl (H.getD k.toNat hZ)=w:=by
      have g2:=eq_of_beq g2
      unfold jtl
      change (H.getD k.toNat hZ).2.1=decide (w=1) at g2
      rw[g2]
      rcases(by omega:w=0∨w=1) with rfl | rfl<;>rfl
     refine jac hin (jac (jh5 (by omega)) (jac (ja6 (by omega) (by omega)) (ih2 _ ⟨by simp only;omega,by simp only;omega,?_,fun g=>?_⟩ (by simp only;omega))))
     ·simp only
      rw[List.pairwise_append]
      refine⟨k3,List.pairwise_singleton _ _,fun x hx y hy=>?_⟩
      simp only[List.mem_singleton] at hy
      rw[hy]
      show ltH x (H.getD k.toNat hZ)
      rcases((k4 x).1 hx).2 with⟨m,hm',e⟩ | ⟨e,c | ⟨c,q,hq,eq⟩⟩
      ·exact .inl (by rw[e,g1];exact hS.lt (by omega) (by omega))
      ·exact .inr ⟨e.trans g1.symm,by omega⟩
      ·exfalso
       have:=List.pairwise_iff_getElem.1 hK q k.toNat (by omega) (by omega) (by omega)
       rw[List.getD,List.getElem?_eq_getElem (by omega),Option.getD_some] at eq
       have hk':H.getD k.toNat hZ=H[k.toNat]:=by rw[List.getD,List.getElem?_eq_getElem (by omega)];rfl
       rw[eq,←hk'] at this
       exact this ⟨e.trans g1.symm,j4x.1 (c.trans hway.symm)⟩
     ·simp only
      rw[List.mem_append,k4 g,List.mem_singleton]
      show(g∈H∧MH S H i w k g)∨g=H.getD k.toNat hZ↔_
      constructor
      ·rintro (⟨a,b | ⟨b,c | ⟨c,q,hq,e⟩⟩⟩ | rfl)
       ·exact⟨a,.inl b⟩
       ·exact⟨a,.inr ⟨b,.inl c⟩⟩
       ·exact⟨a,.inr ⟨b,.inr ⟨c,q,by omega,e⟩⟩⟩
       ·exact⟨hm,.inr ⟨g1,.inr ⟨hway,k.toNat,by omega,rfl⟩⟩⟩
      ·rintro ⟨a,b | ⟨b,c | ⟨c,q,hq,e⟩⟩⟩
       ·exact .inl ⟨a,.inl b⟩
       ·exact .inl ⟨a,.inr ⟨b,.inl c⟩⟩
       ·by_cases c':(q:Int)=k
        ·right;rw[←e,show q=k.toNat by omega]
        ·exact .inl ⟨a,.inr ⟨b,.inr ⟨c,q,by omega,e⟩⟩⟩
    ·have e2:=c.2
     have:((H.getD k.toNat hZ).2.1==decide (w=1))=false:=g2
     unfold jtl at e2
     cases hb:(H.getD k.toNat hZ).2.1 with
     | true=>
       rw[hb] at this e2
       rw[if_pos rfl] at e2
       rw[←e2] at this
       cases this
     | false=>
       rw[hb] at this e2
       rw[if_neg (by decide)] at e2
       rw[←e2] at this
       cases this
   ·refine jac (ja6 (by omega) (by omega)) (ih1 _ ⟨by simp only;omega,by simp only;omega,k3,fun g=>(k4 g).trans ?_⟩ (by simp only;omega))
    refine and_congr_right fun hg=>or_congr Iff.rfl (and_congr_right fun _=>⟨fun c=>?_,fun c=>?_⟩)
    ·rcases c with c | ⟨c,_⟩
     ·exact .inl (by omega)
     ·exact .inl (by omega)
    ·rcases c with c | ⟨_,q,hq,_⟩
     ·by_cases c':jtl g=w
      ·obtain⟨q,hq,e⟩:=List.mem_iff_getElem.1 hg
       exact .inr ⟨c',q,by omega,by rw[List.getD,List.getElem?_eq_getElem hq];exact e⟩
      ·exact .inl (by omega)
     ·omega
  ·refine jac (ja6 (by omega) (by omega)) (ih _ ⟨by simp only;omega,by simp only;omega,w3,fun g=>(w4 g).trans ?_⟩ (by simp only;omega))
   refine and_congr_right fun hg=>⟨fun c=>?_,fun c=>?_⟩
   ·rcases c with⟨m,hm,e⟩ | ⟨e,_⟩
    ·exact .inl ⟨m,by omega,e⟩
    ·exact .inl ⟨i.toNat,by omega,e⟩
   ·rcases c with⟨m,hm,e⟩ | ⟨e,c | ⟨_,q,hq,_⟩⟩
    ·by_cases c':(m:Int)=i
     ·refine .inr ⟨by rw[e,show m=i.toNat by omega],.inl ?_⟩
      rcases ju6 g with b | b<;>omega
     ·exact .inl ⟨m,by omega,e⟩
    ·rcases ju6 g with b | b<;>omega
    ·omega
 ·refine ja4 ⟨i3,fun g=>(i4 g).trans (and_congr_right fun hg=>⟨fun c=>?_,fun c=>?_⟩)⟩
  ·rcases c with⟨m,hm,e⟩ | ⟨_,c | ⟨_,q,hq,_⟩⟩
   ·rw[e];exact jdx (by omega)
   ·rcases ju6 g with b | b<;>omega
   ·omega
  ·obtain⟨m,hm,e⟩:=List.mem_iff_getElem.1 c
   exact .inl ⟨m,by omega,by rw[List.getD,List.getElem?_eq_getElem hm];exact e.symm⟩
def jyw (L:List (List Int)):Prop:=∀x∈L,x.length=3∧∀y∈x,0≤y∧y≤255
structure Grown (l:List SqT) (h:List HgT):Prop where
 ge:1≤l.length
 le:l.length≤20
 nd:l.Nodup
 tree:h.length+1=l.length
 sm:∀s∈l,jip l.length s
 ends:∀g∈h,g.1∈l∧jef g∈l
 bend:∀g∈h, -1≤g.2.2∧g.2.2≤1
 kd:KD h
 con:Connd l h
theorem Grown.start:Grown [(0,0)] []:=⟨by decide,by decide,by simp,rfl,fun s hs=>by simp at hs;subst hs;unfold jip;simp,fun g hg=>by simp at hg,fun g hg=>by simp at hg,List.Pairwise.nil,Connd.one _⟩
theorem jnb {B B':Int} {s:SqT} (h:jip B s) (hB:B≤B'):jip B' s:=by unfold jip at *;omega
theorem Grown.add {l:List SqT} {h:List HgT} (hg:Grown l h) (hl:l.length<20) {f s:SqT} {g:HgT} (hf:f∈l) (hs:s∉l) (hsm:jip (l.length+1) s) (hb: -1≤g.2.2∧g.2.2≤1) (he:(g.1=f∧jef g=s)∨(g.1=s∧jef g=f)):Grown (l++[s]) (h++[g]):=by
 refine⟨by simp,by simp;omega,?_,by simp;have:=hg.tree;omega,fun t ht=>?_,fun x hx=>?_,fun x hx=>?_,?_,?_⟩
 ·rw[List.nodup_append]
  exact⟨hg.nd,by simp,fun a ha b hb e=>hs (by simp at hb;rw[←hb,←e];exact ha)⟩
 ·rw[List.length_append,List.length_singleton]
  rcases List.mem_append.1 ht with c | c
  ·exact jnb (hg.sm t c) (by omega)
  ·simp at c;rw[c];exact jnb hsm (by omega)
 ·rcases List.mem_append.1 hx with c | c
  ·exact⟨List.mem_append_left _ (hg.ends x c).1,List.mem_append_left _ (hg.ends x c).2⟩
  ·simp at c
   rw[c]
   rcases he with⟨a,b⟩ | ⟨a,b⟩
   ·rw[a,b];exact⟨List.mem_append_left _ hf,by simp⟩
   ·rw[a,b];exact⟨by simp,List.mem_append_left _ hf⟩
 ·rcases List.mem_append.1 hx with c | c
  ·exact hg.bend x c
  ·simp at c;rw[c];exact hb
 ·unfold KD
  rw[List.pairwise_append]
  refine⟨hg.kd,List.pairwise_singleton _ _,fun x hx y hy ⟨e1,e2⟩=>?_⟩
  simp at hy
  rw[hy] at e1 e2
  have eo:jef x=jef g:=by unfold jef;rw[e1,e2]
  have:=hg.ends x hx
  rcases he with⟨a,b⟩ | ⟨a,b⟩
  ·rw[eo,b] at this;exact hs this.2
  ·rw[e1,a] at this;exact hs this.1
 ·refine hg.con.cons (s:=s) (g:=g) ?_
  rcases he with⟨a,b⟩ | ⟨a,b⟩
  ·exact .inr ⟨b,by rw[a];exact hf⟩
  ·exact .inl ⟨a,by rw[b];exact hf⟩
theorem Grown.net {l o:List SqT} {h q:List HgT} (hg:Grown l h) (ho:Sorted o) (hp:o.Perm l) (hq:q.Pairwise ltH) (hm:∀g,g∈q↔g∈h∧g.1∈o):NetOK o q∧q.length+1=o.length∧∀g,g∈q↔g∈h:=by
 have hl:=hp.length_eq
 have h1:=hg.ge;have h2:=hg.le;have h3:=hg.tree
 have mm:∀g,g∈q↔g∈h:=fun g=>(hm g).trans ⟨fun c=>c.1,fun c=>⟨c,hp.mem_iff.2 (hg.ends g c).1⟩⟩
 have nq:q.Nodup:=hq.imp fun {a b} hab e=>by subst e;exact j0e a hab
 have nh:h.Nodup:=hg.kd.imp fun {a b} hab e=>hab (by rw[e];exact⟨rfl,rfl⟩)
 have l1:=ji7 nq fun x hx=>(mm x).1 hx
 have l2:=ji7 nh fun x hx=>(mm x).2 hx
 refine⟨⟨by omega,by omega,ho,fun s hs=>?_,hq,fun x hx=>hg.bend x ((mm x).1 hx),fun x hx=>?_,hg.con.more (fun s=>hp.mem_iff.symm) fun x hx=>(mm x).2 hx⟩,by omega,mm⟩
 ·have:=hg.sm s (hp.mem_iff.1 hs)
  unfold jip at this
  omega
 ·have:=hg.ends x ((mm x).1 hx)
  exact⟨hp.mem_iff.2 this.1,hp.mem_iff.2 this.2⟩
end X
end Go.Vm
namespace Go.Vm
namespace X
open W
variable {nn:Nat}
theorem j4v {b:Int} (h: -1≤b∧b≤2):IntKind.i8.wrap b=b:=by
 rcases(by omega:b= -1∨b=0∨b=1∨b=2) with rfl | rfl | rfl | rfl<;>decide
def jvb (f:SqT) (d b:Int):HgT:=(if 1<d then j4c f d else f,(decide (d%2=1),b))
theorem j3k {f:SqT} {d b:Int} (h:0≤d∧d<4):((jvb f d b).1=f∧jef (jvb f d b)=j4c f d)∨((jvb f d b).1=j4c f d∧jef (jvb f d b)=f):=by
 obtain⟨x,y⟩:=f
 rcases(by omega:d=0∨d=1∨d=2∨d=3) with rfl | rfl | rfl | rfl
 ·exact .inl ⟨rfl,rfl⟩
 ·exact .inl ⟨rfl,rfl⟩
 ·refine .inr ⟨rfl,?_⟩
  show((x-1+1,y):SqT)=(x,y)
  rw[show x-1+1=x by omega]
 ·refine .inr ⟨rfl,?_⟩
  show((x,y-1+1):SqT)=(x,y)
  rw[show y-1+1=y by omega]
theorem js1 {L:List Int} {k:Nat} (hl:L.length=3) (hk:k<3):L.getD k 0∈L:=jv3 (by omega)
theorem kdk {a:List (List Int)} {c b:Int} (hb:jyw a) (hn:a.length≤nn) (hbig:a.length≤140737488355328):Ret (je2 (fu nn) (a,(c,b))) fun n=>NetOK n.1 n.2∧n.2.length+1=n.1.length∧n.1.length≤20∧∀s∈n.1,jip 20 s:=by
 unfold je2
 refine jbb (Inv:=fun x:List SqT×(List HgT×Int)=>0≤x.2.2∧x.2.2≤a.length∧Grown x.1 x.2.1) (m:=fun x=>((a.length:Int)-x.2.2).toNat) ?_ _ _ ⟨by simp,by simp,Grown.start⟩ (by simp only[fu];omega)
 rintro ⟨l,h,i⟩ rec ⟨i1,i2,hg⟩ ih
 simp only at i1 i2 hg ⊢
 have g1:=hg.ge;have g2:=hg.le;have g3:=hg.tree
 have fin:Ret ((jb3 (fu nn) l).bind fun r4=>(jb3 (fu nn) l).bind fun r5=>(jc2 (fu nn) (r5,h)).bind fun r6=>some (r4,r6)) (fun n=>NetOK n.1 n.2∧n.2.length+1=n.1.length∧n.1.length≤20∧∀s∈n.1,jip 20 s):=by
  obtain⟨o,e,o1,o2⟩:=j5n (nn:=nn) hg.nd (by omega)
  rw[e,Option.bind_some,Option.bind_some]
  have hol:=o2.length_eq
  refine jpe (jx8 o1 hg.kd (by omega) (by omega)) fun q ⟨q1,q2⟩=>ja4 ?_
  obtain⟨n1,n2,_⟩:=hg.net o1 o2 q1 q2
  exact⟨n1,n2,by simp only;omega,fun s hs=>jnb (hg.sm s (o2.subset hs)) (by omega)⟩
 refine jag (fun hlt=>jag (fun h20=>?_) fun _=>fin) fun _=>fin
 have hst:a.getD i.toNat (List.replicate 3 0)∈a:=by rw[List.getD,List.getElem?_eq_getElem (by omega)];exact List.getElem_mem _
 obtain⟨s1,s2⟩:=hb _ hst
 generalize a.getD i.toNat (List.replicate 3 0)=st at *
 have v0:=s2 _ (js1 s1 (show 0<3 by omega))
 have v1:=s2 _ (js1 s1 (show 1<3 by omega))
 have v2:=s2 _ (js1 s1 (show 2<3 by omega))
 have hin:=jc8 (i:=i) (n:=a.length) (by omega) (by omega)
 have m0:=Int.emod_nonneg (st.getD 0 0) (show((l.length:Nat):Int)≠0 by omega)
 have m1:=Int.emod_lt_of_pos (st.getD 0 0) (show(0:Int)< ((l.length:Nat):Int) by omega)
 have hfm:l.getD (st.getD 0 0% ((l.length:Nat):Int)).toNat (0,0)∈l:=jdx (by omega)
 have ei:=jc8 (i:=st.getD 0 0% ((l.length:Nat):Int)) (n:=l.length) m0 m1
 generalize l.getD (st.getD 0 0% ((l.length:Nat):Int)).toNat (0,0)=f at *
 have hd:0≤st.getD 1 0%4∧st.getD 1 0%4<4:=by omega
 generalize hdd:st.getD 1 0%4=d at *
 have hfs:=hg.sm f hfm
 refine jac hin (jac (ja6 (by omega) (by omega)) (jac (by simp only[Bool.and_eq_true,decide_eq_true_eq];omega) (jac ei (jac hin (jac (ja6 (by omega) (by omega)) (jac (by simp only[Bool.and_eq_true,decide_eq_true_eq];omega) ?_))))))
 rw[show je1 (fu nn) ((f.1,f.2),d)=some (j4c f d) from j7q hfs (by omega),Option.bind_some,show jjt (fu nn) (l,((j4c f d).1,(j4c f d).2))=some (decide (j4c f d∈l)) from khe (by omega) _,Option.bind_some]
 refine jag (fun hm=>jac (ja6 (by omega) (by omega)) (ih _ ⟨by simp only;omega,by simp only;omega,hg⟩ (by simp only;omega))) fun hm=>?_
 have hw:IntKind.i8.wrap ((IntKind.i8.wrap (st.getD 2 0%3))-1)=st.getD 2 0%3-1:=by
  rw[j4v (b:=st.getD 2 0%3) (by omega),j4v (by omega)]
 rw[hw]
 have grow:=hg.add (f:=f) (s:=j4c f d) (g:=jvb f d (st.getD 2 0%3-1)) (by omega) hfm hm (j4b hfs) (by show -1≤st.getD 2 0%3-1∧st.getD 2 0%3-1≤1;omega) (j3k hd)
 refine jac (jh5 (by omega)) (jac (by simp only[Bool.and_eq_true,decide_eq_true_eq];omega) (jac hin (jac (by simp only[Bool.and_eq_true,decide_eq_true_eq];omega) ?_)))
 refine jag (fun hd1=>?_) fun hd1=>?_
 ·refine jac (jh5 (by omega)) (jac (ja6 (by omega) (by omega)) (ih _ ⟨by simp only;omega,by simp only;omega,?_⟩ (by simp only;omega)))
  have e:jvb f d (st.getD 2 0%3-1)=(j4c f d,(decide (d%2=1),st.getD 2 0%3-1)):=by unfold jvb;rw[if_pos hd1]
  rw[e] at grow
  exact grow
 ·refine jac (jh5 (by omega)) (jac (ja6 (by omega) (by omega)) (ih _ ⟨by simp only;omega,by simp only;omega,?_⟩ (by simp only;omega)))
  have e:jvb f d (st.getD 2 0%3-1)=(f,(decide (d%2=1),st.getD 2 0%3-1)):=by unfold jvb;rw[if_neg hd1]
  rw[e] at grow
  exact grow
end X
end Go.Vm
namespace Go.Vm
namespace X
open W
variable {nn:Nat}
theorem kji {H:List HgT} (h:H.Pairwise ltH):H.Pairwise fun a b=>¬(a.1=b.1∧a.2.1=b.2.1):=h.imp fun {a b} hab ⟨e1,e2⟩=>by
 rcases hab with h | ⟨_,h⟩
 ·rw[e1] at h;exact jlr _ h
 ·rw[j4x.2 e2] at h;omega
theorem j6q {H:List HgT} (h:H.Pairwise ltH):H.Nodup:=h.imp fun {a b} hab e=>by subst e;exact j0e a hab
theorem kjh {a:List (List Int)} {c b:Int} {n:List SqT×List HgT} (en:je2 (fu nn) (a,(c,b))=some n) (h:NetOK n.1 n.2) (ht:n.2.length+1=n.1.length) (h20:n.1.length≤20)
  (hc:0≤c∧c≤18446744073709551615) (hb:0≤b∧b≤18446744073709551615):
  ∃q,jhk (fu nn) (a,(c,b))=some (n.1,q)∧NetOK n.1 q∧(∀g∈n.2,g∈q)∧q.length≤100:=by
 have hge:=h.ge
 have inv:=kb8 (S:=n.1) (H:=n.2) c hb.1 h.srt.nodup (kji h.hs)
 have len:=inv.len
 rw[jz0] at len
 obtain⟨X,eX,hX⟩:=inv.pre
 have kd:=inv.kd
 have eL:(jxp n.1 n.2 c b (prs n.1)).1=ofL n.1 n.2 c b:=rfl
 rw[eL] at eX kd len
 generalize hL:ofL n.1 n.2 c b=L at *
 obtain⟨q,eq,q1,q2⟩:=jx8 (nn:=nn) h.srt kd (by omega) (by omega)
 have sub:∀g∈n.2,g∈q:=fun g hg=>(q2 g).2 ⟨by rw[eX];exact List.mem_append_left _ hg,(h.ends g hg).1⟩
 have mem:∀g∈q,(-1≤g.2.2∧g.2.2≤1)∧g.1∈n.1∧jef g∈n.1:=fun g hg=>by
  obtain⟨g1,g2⟩:=(q2 g).1 hg
  rw[eX] at g1
  rcases List.mem_append.1 g1 with g1 | g1
  ·exact⟨h.bend g g1,h.ends g g1⟩
  ·obtain⟨_,x2,_,x4⟩:=hX g g1
   exact⟨x4,g2,x2⟩
 have okt:okT n.1 n.2=true:=by
  unfold okT
  simp only[Bool.and_eq_true,List.all_eq_true,decide_eq_true_eq,Nat.ble_eq]
  exact⟨⟨by omega,by omega⟩,fun s hs=>by have:=h.bd s hs;omega⟩
 refine⟨q,?_,⟨h.le,h.ge,h.srt,h.bd,q1,fun g hg=>(mem g hg).1,fun g hg=>(mem g hg).2,h.con.more (fun s=>Iff.rfl) sub⟩,sub,?_⟩
 ·have e1:(okT n.1 n.2&& !(List.length (α:=SqT) n.1).beq 0&&decide (0≤c∧c≤18446744073709551615)&&decide (0≤b∧b≤18446744073709551615))=true:=by
   rw[okt,decide_eq_true hc,decide_eq_true hb]
   simp only[Bool.true_and,Bool.and_true,Bool.not_eq_true',jaa,decide_eq_false_iff_not]
   omega
  unfold jhk ofR
  rw[en,Option.bind_some]
  erw[e1,cond_true]
  rw[hL,eq]
  rfl
 ·have:=ji7 (j6q q1) (p:=L) fun g hg=>((q2 g).1 hg).1
  omega
end X
end Go.Vm
namespace Go.Vm
namespace X
open W
variable {nn:Nat}
def kjv (s:List Nat):Int:=match s with
 | 45::r=> - (r.foldl (fun(a:Int) (c:Nat)=>10*a+ ((c:Int)-48)) 0)
 | r=>r.foldl (fun(a:Int) (c:Nat)=>10*a+ ((c:Int)-48)) 0
def kfd (n:Int) (s:List Nat):Bool:=s.length.ble 3&& !(s.length.beq 0)&&s.all (fun y=>Nat.ble 33 y&&y.ble 255)&&ieq (kjv s) n
theorem j9b:((List.range 129).all fun k=>match jah (fu nn) ((k:Int)-64) with | some s=>kfd ((k:Int)-64) s | none=>false)=true:=by kernel_rfl
def itN (nn:Nat) (n:Int):List Nat:=(jah (fu nn) n).getD []
theorem jg1 {n:Int} (h1: -64≤n) (h2:n≤64):jah (fu nn) n=some (itN nn n)∧(itN nn n).length≤3∧1≤(itN nn n).length∧(∀y∈itN nn n,y<256∧33≤y)∧kjv (itN nn n)=n:=by
 have:=List.all_eq_true.1 (j9b (nn:=nn)) (n+64).toNat (List.mem_range.2 (by omega))
 rw[show(((n+64).toNat:Nat):Int)-64=n by omega] at this
 unfold itN
 split at this
 ·rename_i s e
  rw[e]
  unfold kfd at this
  simp only[Bool.and_eq_true,jab,jaa,decide_eq_true_eq,List.all_eq_true,jlv,Bool.not_eq_true',decide_eq_false_iff_not] at this
  obtain⟨⟨⟨q1,q2⟩,q3⟩,q4⟩:=this
  exact⟨rfl,q1,by show 1≤s.length;omega,fun y hy=>by have:=q3 y hy;omega,q4⟩
 ·cases this
abbrev D64 (n:Int):Prop:= -64≤n∧n≤64
theorem j2a {n:Int} (h:D64 n):(itB (jah (fu nn)) n).data.toList=u8 (itN nn n):=by
 obtain⟨e,l,_⟩:=jg1 (nn:=nn) h.1 h.2
 unfold itB
 rw[e]
 simp only
 rw[jab,decide_eq_true (by omega),cond_true]
 rfl
theorem kca:Num (itB (jah (fu nn))) D64 where
 ok n hn y hy:=by
  obtain⟨e,l,_,hb,_⟩:=jg1 (nn:=nn) hn.1 hn.2
  rw[j2a hn] at hy
  obtain⟨z,hz,rfl⟩:=List.mem_map.1 hy
  have:=hb z hz
  constructor
  ·intro e
   have:=congrArg UInt8.toNat e
   simp[Nat.mod_eq_of_lt (hb z hz).1] at this
   omega
  ·intro e
   have:=congrArg UInt8.toNat e
   simp[Nat.mod_eq_of_lt (hb z hz).1] at this
   omega
 inj n m hn hm e:=by
  rw[j2a hn,j2a hm] at e
  obtain⟨_,_,_,hb,d1⟩:=jg1 (nn:=nn) hn.1 hn.2
  obtain⟨_,_,_,kb,d2⟩:=jg1 (nn:=nn) hm.1 hm.2
  have e:(u8 (itN nn n)).map UInt8.toNat=(u8 (itN nn m)).map UInt8.toNat:=by rw[e]
  rw[jzk fun x hx=>(hb x hx).1,jzk fun x hx=>(kb x hx).1] at e
  rw[←d1,←d2,e]
def txN (nn:Nat) (n:List SqT×List HgT):List Nat:=(tlT (itB (jah (fu nn))) n.1 n.2).map UInt8.toNat
theorem NetOK.dS {S:List SqT} {H:List HgT} (h:NetOK S H):∀s∈S,DS D64 s:=fun s hs=>h.bd s hs
theorem NetOK.dH {S:List SqT} {H:List HgT} (h:NetOK S H):∀g∈H,DH D64 g:=fun g hg=>by
 have h1:=h.bd _ (h.ends g hg).1
 have h2:=h.bend g hg
 exact⟨h1.1,h1.2,by unfold D64;omega⟩
theorem j72 {S:List SqT} {H:List HgT} (h:NetOK S H) (hH:H.length≤1000):jdd (fu nn) (S,H)=some (txN nn (S,H)):=by
 have hle:=h.le
 have hge:=h.ge
 unfold jdd j3f
 rw[j3a h (by omega),Option.bind_some,decide_eq_true rfl,cond_true]
 have o1:kfc S H=true:=by
  unfold kfc
  simp only[Bool.and_eq_true,jab,decide_eq_true_eq,List.all_eq_true]
  exact⟨⟨by omega,hH⟩,fun g hg=>by have:=h.bend g hg;omega⟩
 have o2:okI (jah (fu nn)) (jp4 S H)=true:=by
  unfold okI
  rw[List.all_eq_true]
  intro x hx
  have hd:D64 x:=by
   unfold jp4 at hx
   rcases List.mem_append.1 hx with g | g
   ·obtain⟨s,hs,e⟩:=List.mem_flatMap.1 g
    have:=h.dS s hs
    simp only[List.mem_cons,List.not_mem_nil,or_false] at e
    rcases e with rfl | rfl
    ·exact this.1
    ·exact this.2
   ·obtain⟨s,hs,e⟩:=List.mem_flatMap.1 g
    have:=h.dH s hs
    simp only[List.mem_cons,List.not_mem_nil,or_false] at e
    rcases e with rfl | rfl | rfl
    ·exact this.1
    ·exact this.2.1
    ·exact this.2.2
  obtain⟨e,l,_⟩:=jg1 (nn:=nn) hd.1 hd.2
  rw[e]
  show(itN nn x).length.ble 100=true
  rw[jab]
  exact decide_eq_true (by omega)
 have o3:(!(List.length (α:=SqT) S).beq 0)=true:=by
  rw[jaa,decide_eq_false (by omega)]
  rfl
 simp only
 rw[o1,o2,o3]
 rfl
end X
end Go.Vm
