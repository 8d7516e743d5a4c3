/-
  Words: a text is cut at its spaces, and put together j02.
  Nets: texts: lines and words; a net is jn7 by its text.
  Nets: the order of nets, as the order of lists of numbers.
  Nets: squares get their places, hinge by hinge.
  Nets: comparing, looking up, what hangs together, Check.
  Nets: what hangs together; Check; over and back.
  Nets: Place.
  Nets: the law's nets: squares sorted, hinges in order.
  Nets: the law's hinges in order; trees.
  Nets: the law's tree is a valid net.
  Nets: the law's net with all its hinges; the law's helpers.
  Nets: Compare and Text of valid nets.
  Nets: the law NetsCompare.
-/
import Derived.Test.YtahplmacekfjgaaGreatDoorQ7
set_option linter.unusedSimpArgs false
set_option linter.unusedVariables false
set_option linter.unusedSectionVars false
set_option linter.unnecessarySimpa false
namespace Go.Vm
namespace X
open W
end X
end Go.Vm
namespace Go.Vm
namespace X
open W
structure Num (it:Int→ByteArray) (D:Int→Prop):Prop where
 ok:∀n,D n→∀y∈(it n).data.toList,y≠32∧y≠10
 inj:∀n m,D n→D m→(it n).data.toList=(it m).data.toList→n=m
def wdS (it:Int→ByteArray) (s:SqT):List (List UInt8):=[[115,113,117,97,114,101],(it s.1).data.toList,(it s.2).data.toList]
theorem ked (it:Int→ByteArray) (s:SqT):tlS it s=Lib.join (wdS it s) [32]++[10]:=rfl
def DS (D:Int→Prop) (s:SqT):Prop:=D s.1∧D s.2
def DH (D:Int→Prop) (g:HgT):Prop:=D g.1.1∧D g.1.2∧D g.2.2
theorem kg9 (it:Int→ByteArray) (s:SqT):(tlS it s).head?=some 115:=by
 rw[ked];unfold wdS;rw[Lib.join_cons];rfl
end X
end Go.Vm
namespace Go.Vm
namespace X
theorem jrq {α:Type} {f:α→List Int} {z:Nat} (hf:∀x,(f x).length=z):∀l:List α,(l.flatMap f).length=l.length*z
 | []=>by simp
 | x::l=>by rw[List.flatMap_cons,List.length_append,hf,jrq hf l,List.length_cons,Nat.add_mul];omega
end X
end Go.Vm
namespace Go.Vm
namespace X
structure NetOK (S:List SqT) (H:List HgT):Prop where
 le:S.length≤64
 ge:1≤S.length
 srt:Sorted S
 bd:∀s∈S,(-64≤s.1∧s.1≤64)∧(-64≤s.2∧s.2≤64)
 hs:H.Pairwise ltH
 bend:∀h∈H, -1≤h.2.2∧h.2.2≤1
 ends:∀h∈H,h.1∈S∧ja8 h∈S
 con:j09 S H
abbrev frZ:FrT:=(List.replicate 3 0,(List.replicate 3 0,List.replicate 3 0))
structure Obey (S:List SqT) (H:List HgT) (l:List FrT):Prop where
 len:l.length=S.length
 first:l.getD 0 frZ=juz
 ok:∀i:Nat,i<S.length→FrOK 64 (l.getD i frZ)
 obey:∀h∈H,ovF (l.getD (idxS S h.1).toNat frZ) h=l.getD (idxS S (ja8 h)).toNat frZ
theorem j98 (h:HgT):ja8 h≠h.1:=by
 obtain⟨⟨x,y⟩,u,b⟩:=h
 unfold ja8
 cases u<;>simp<;>omega
structure Placed (S:List SqT) (H:List HgT) (K:List Bool) (O:List FrT):Prop where
 kl:K.length=S.length
 ol:O.length=S.length
 k0:K.getD 0 false=true
 o0:O.getD 0 frZ=juz
 ok:∀i:Nat,i<S.length→K.getD i false=true→FrOK (K.count true) (O.getD i frZ)
 tree:∃U:List HgT,U.Nodup∧(∀h∈U,h∈H)∧U.length+1=K.count true∧∀h∈U,K.getD (idxS S h.1).toNat false=true∧K.getD (idxS S (ja8 h)).toNat false=true∧ovF (O.getD (idxS S h.1).toNat frZ) h=O.getD (idxS S (ja8 h)).toNat frZ
 uni:∀l,Obey S H l→∀i:Nat,i<S.length→K.getD i false=true→O.getD i frZ=l.getD i frZ
theorem jb0 {α:Type} {L:List α} {i k:Nat} {v d:α} (hi:i<L.length):(L.set i v).getD k d=if k=i then v else L.getD k d:=by
 rw[List.getD,List.getD,List.getElem?_set]
 by_cases e:i=k
 ·rw[if_pos e,if_pos hi,if_pos e.symm];rfl
 ·rw[if_neg e,if_neg fun c=>e c.symm]
theorem jjt {K:List Bool} {b:Nat} (hb:b<K.length) (h:K.getD b false=false):(K.set b true).count true=K.count true+1:=by
 have e:K[b]=false:=by rw[List.getD,List.getElem?_eq_getElem hb] at h;exact h
 rw[List.count_set hb,e]
 simp
theorem Placed.start {S:List SqT} {H:List HgT} (h:NetOK S H):Placed S H ((List.replicate S.length false).set 0 true) ((List.replicate S.length frZ).set 0 juz):=by
 have hg:=h.ge
 have ct:((List.replicate S.length false).set 0 true).count true=1:=by
  rw[jjt (by simp;omega) (by simp[List.getD,List.getElem?_replicate,show 0<S.length by omega])]
  simp[List.count_replicate]
 have kn:∀i:Nat,((List.replicate S.length false).set 0 true).getD i false=true→i=0:=fun i hi=>by
  rw[jb0 (by simp;omega)] at hi
  by_cases e:i=0
  ·exact e
  ·rw[if_neg e] at hi
   simp[List.getD,List.getElem?_replicate] at hi
   split at hi<;>simp at hi
 have o0:((List.replicate S.length frZ).set 0 juz).getD 0 frZ=juz:=by rw[jb0 (by simp;omega),if_pos rfl]
 refine⟨by simp,by simp,by rw[jb0 (by simp;omega),if_pos rfl],o0,fun i hi hk=>?_,⟨[],List.nodup_nil,fun h hh=>by simp at hh,by rw[ct];rfl,fun h hh=>by simp at hh⟩,fun l hl i hi hk=>?_⟩
 ·rw[kn i hk,o0]
  exact j6o.mono (by omega)
 ·rw[kn i hk,o0,hl.first]
theorem Placed.step {S:List SqT} {H:List HgT} {K:List Bool} {O:List FrT} (hn:NetOK S H) (hp:Placed S H K O) {h:HgT} (hh:h∈H) {a b:Nat} {F:FrT}
  (hab:(a=(idxS S h.1).toNat∧b=(idxS S (ja8 h)).toNat∧F=ovF (O.getD a frZ) h)∨(b=(idxS S h.1).toNat∧a=(idxS S (ja8 h)).toNat∧F=bkF (O.getD a frZ) h))
  (ha:K.getD a false=true) (hb:K.getD b false=false):Placed S H (K.set b true) (O.set b F):=by
 obtain⟨e1,e2⟩:=hn.ends h hh
 have i1:=jef e1
 have i2:=jef e2
 have hbd:=hn.bend h hh
 have hlt:a<S.length∧b<S.length:=by rcases hab with⟨rfl,rfl,_⟩ | ⟨rfl,rfl,_⟩<;>omega
 have hk:=hp.kl
 have ho:=hp.ol
 have ct:=jjt (K:=K) (b:=b) (by omega) hb
 have hne:a≠b:=fun e=>by rw[e] at ha;rw[ha] at hb;cases hb
 have fa:=hp.ok a hlt.1 ha
 have fF:FrOK (K.count true+1) F:=by
  rcases hab with⟨_,_,rfl⟩ | ⟨_,_,rfl⟩
  ·exact fa.ov hbd
  ·exact fa.bk hbd
 have kn:∀i:Nat,(K.set b true).getD i false=true→i=b∨(i≠b∧K.getD i false=true):=fun i hi=>by
  rw[jb0 (by omega)] at hi
  by_cases e:i=b
  ·exact .inl e
  ·rw[if_neg e] at hi;exact .inr ⟨e,hi⟩
 have b0:b≠0:=fun e=>by rw[e,hp.k0] at hb;cases hb
 have obeyed:ovF ((O.set b F).getD (idxS S h.1).toNat frZ) h=(O.set b F).getD (idxS S (ja8 h)).toNat frZ:=by
  rw[jb0 (by omega),jb0 (by omega)]
  rcases hab with⟨h1,h2,rfl⟩ | ⟨h1,h2,rfl⟩
  ·rw[←h1,←h2,if_neg hne,if_pos rfl]
  ·rw[←h1,←h2,if_pos rfl,if_neg hne,kex fa hbd]
 refine⟨by simp[hk],by simp[ho],?_,?_,fun i hi hki=>?_,?_,fun l hl i hi hki=>?_⟩
 ·rw[jb0 (by omega),if_neg fun e=>b0 e.symm];exact hp.k0
 ·rw[jb0 (by omega),if_neg fun e=>b0 e.symm];exact hp.o0
 ·rw[jb0 (by omega),ct]
  rcases kn i hki with e | ⟨e,hk2⟩
  ·rw[if_pos e];exact fF
  ·rw[if_neg e];exact(hp.ok i hi hk2).mono (by omega)
 ·obtain⟨U,u1,u2,u3,u4⟩:=hp.tree
  have hU:h∉U:=fun c=>by
   obtain⟨c1,c2,_⟩:=u4 h c
   rcases hab with⟨h1,h2,_⟩ | ⟨h1,h2,_⟩
   ·rw[←h2,hb] at c2;cases c2
   ·rw[←h1,hb] at c1;cases c1
  refine⟨h::U,List.nodup_cons.2 ⟨hU,u1⟩,fun g hg=>?_,by rw[ct,List.length_cons];omega,fun g hg=>?_⟩
  ·rcases List.mem_cons.1 hg with e | e
   ·rw[e];exact hh
   ·exact u2 g e
  ·rcases List.mem_cons.1 hg with e | e
   ·subst e
    refine⟨?_,?_,obeyed⟩
    ·rw[jb0 (by omega)]
     rcases hab with⟨h1,h2,_⟩ | ⟨h1,h2,_⟩
     ·rw[←h1,if_neg hne];exact ha
     ·rw[←h1,if_pos rfl]
    ·rw[jb0 (by omega)]
     rcases hab with⟨h1,h2,_⟩ | ⟨h1,h2,_⟩
     ·rw[←h2,if_pos rfl]
     ·rw[←h2,if_neg hne];exact ha
   ·obtain⟨c1,c2,c3⟩:=u4 g e
    have n1:(idxS S g.1).toNat≠b:=fun c=>by rw[c,hb] at c1;cases c1
    have n2:(idxS S (ja8 g)).toNat≠b:=fun c=>by rw[c,hb] at c2;cases c2
    rw[jb0 (by omega),jb0 (by omega),jb0 (by omega),jb0 (by omega),if_neg n1,if_neg n2,if_neg n1,if_neg n2]
    exact⟨c1,c2,c3⟩
 ·rw[jb0 (by omega)]
  rcases kn i hki with e | ⟨e,hk2⟩
  ·rw[if_pos e,e]
   have ua:=hp.uni l hl a hlt.1 ha
   have oh:=hl.obey h hh
   rcases hab with⟨h1,h2,rfl⟩ | ⟨h1,h2,rfl⟩
   ·rw[ua,h1,h2];exact oh
   ·rw[ua,h1,h2,←oh]
    exact kjl (hl.ok _ (by omega)) hbd
  ·rw[if_neg e];exact hp.uni l hl i hi hk2
theorem Placed.all {S:List SqT} {H:List HgT} {K:List Bool} {O:List FrT} (hn:NetOK S H) (hp:Placed S H K O) (hc:∀h∈H,K.getD (idxS S h.1).toNat false=K.getD (idxS S (ja8 h)).toNat false):∀i:Nat,i<S.length→K.getD i false=true:=fun i hi=>by
 have hge:=hn.ge
 have h0:S.getD 0 (0,0)∈S:=by rw[List.getD,List.getElem?_eq_getElem (by omega)];exact List.getElem_mem _
 have:=hn.con (fun s=>K.getD (idxS S s).toNat false=true) ⟨_,h0,by
  have:=jnt hn.srt.nodup (i:=0) (by omega)
  rw[this];exact hp.k0⟩ (fun h hh=>by rw[hc h hh]) (S.getD i (0,0)) (by rw[List.getD,List.getElem?_eq_getElem hi];exact List.getElem_mem _)
 have e:=jnt hn.srt.nodup hi
 simp only[e,Int.toNat_natCast] at this
 exact this
theorem jph {K:List Bool}:K.count true≤K.length:=List.count_le_length
theorem jyn {K:List Bool} (h:∀i:Nat,i<K.length→K.getD i false=true):K.count true=K.length:=by
 rw[List.count_eq_length]
 intro x hx
 obtain⟨i,hi,rfl⟩:=List.mem_iff_getElem.1 hx
 have:=h i hi
 rw[List.getD,List.getElem?_eq_getElem hi] at this
 exact this.symm
end X
end Go.Vm
namespace Go.Vm
namespace X
open W
variable {nn:Nat}
theorem jgv {β:Type} {c:Bool} {x:Option β} (h:c=true):chk c x=x:=by rw[h];rfl
theorem ji2 (a b:Int):cmp_Compare_int (fu nn) (a,b)=some (if a<b then -1 else if b<a then 1 else 0):=by
 unfold cmp_Compare_int jfs
 simp only[ne_eq,not_true_eq_false,decide_false,Option.bind_some,cond_false]
 by_cases h:a<b
 ·rw[decide_eq_true h,cond_true,if_pos h]
 ·rw[decide_eq_false h,cond_false,if_neg h]
  by_cases g:b<a
  ·rw[decide_eq_true g,cond_true,if_pos g]
  ·rw[decide_eq_false g,cond_false,if_neg g]
theorem jyq (a b:Int):jhg (fu nn) [a,b]=some (if a≠0 then a else b):=by
 apply Ret.eq
 unfold jhg
 have l2:((List.length [a,b]:Nat):Int)=2:=rfl
 have g0:[a,b].getD (Int.toNat 0) 0=a:=rfl
 have g1:[a,b].getD (Int.toNat 1) 0=b:=rfl
 refine ja0 (Inv:=fun i:Int=>i=0∨(a=0∧(i=1∨(i=2∧b=0)))) (m:=fun i=>(2-i).toNat) ?_ _ _ (.inl rfl) (by simp only[fu];omega)
 rintro i rec hi ih
 rcases hi with rfl | ⟨ha,rfl | ⟨rfl,hb⟩⟩
 ·refine jac (fun _=>jab (by rfl) ?_) fun g=>absurd (show(0:Int)< ((List.length [a,b]:Nat):Int) by rw[l2];decide) g
  rw[g0]
  refine jac (fun g=>jak ?_) fun g=>jab (by rfl) (ih _ (.inr ⟨Classical.not_not.1 g,.inl rfl⟩) (by decide))
  rw[if_pos g]
 ·refine jac (fun _=>jab (by rfl) ?_) fun g=>absurd (show(1:Int)< ((List.length [a,b]:Nat):Int) by rw[l2];decide) g
  rw[g1]
  refine jac (fun g=>jak ?_) fun g=>jab (by rfl) (ih _ (.inr ⟨ha,.inr ⟨rfl,Classical.not_not.1 g⟩⟩) (by decide))
  rw[if_neg fun c=>c ha]
 ·refine jac (fun g=>absurd g (show ¬(2:Int)< ((List.length [a,b]:Nat):Int) by rw[l2];decide)) fun _=>jak ?_
  rw[if_neg fun c=>c ha,hb]
theorem jhf (s t:SqT):jan (fu nn) (s,t)=some (jzi s t):=by
 unfold jan
 simp only
 rw[ji2,Option.bind_some,ji2,Option.bind_some,jyq,Option.bind_some]
 congr 1
 obtain⟨x,y⟩:=s
 obtain⟨u,v⟩:=t
 unfold jzi ltS
 simp only[Prod.mk.injEq]
 rcases Int.lt_trichotomy y v with h | h | h
 ·rw[if_pos h,if_pos (by decide),if_pos (.inl h)]
 ·subst h
  rw[if_neg (Int.lt_irrefl _),if_neg (Int.lt_irrefl _),if_neg (by decide)]
  rcases Int.lt_trichotomy x u with g | g | g
  ·rw[if_pos g,if_pos (.inr ⟨rfl,g⟩)]
  ·subst g
   rw[if_neg (Int.lt_irrefl _),if_neg (Int.lt_irrefl _),if_neg (by omega),if_pos ⟨rfl,rfl⟩]
  ·rw[if_neg (by omega),if_pos g,if_neg (by omega),if_neg (by omega)]
 ·rw[if_neg (show ¬y<v by omega),if_pos h,if_pos (by decide),if_neg (by omega),if_neg (by omega)]
theorem jnw {s t:SqT}:jzi s t<0↔ltS s t:=by
 unfold jzi
 by_cases h:ltS s t
 ·rw[if_pos h];simp[h]
 ·rw[if_neg h]
  by_cases g:s=t
  ·rw[if_pos g];simp[h]
  ·rw[if_neg g];simp[h]
theorem jwr {s t:SqT}:jzi s t=0↔s=t:=by
 unfold jzi
 by_cases h:ltS s t
 ·rw[if_pos h]
  refine⟨fun c=>by omega,fun c=>by subst c;exact absurd h (jj8 s)⟩
 ·rw[if_neg h]
  by_cases g:s=t
  ·rw[if_pos g];simp[g]
  ·rw[if_neg g];simp[g]
theorem j94 (h:HgT):jce (fu nn) h=some (jpw h):=by
 unfold jce jpw
 cases h.2.1<;>rfl
theorem jvx {h:HgT} (hb: -1000000≤h.1.1∧h.1.1≤1000000∧ -1000000≤h.1.2∧h.1.2≤1000000):jao (fu nn) h=some (ja8 h):=by
 unfold jao ja8
 cases h.2.1 with
 | true=>rw[cond_true,jgv (jaq (by omega) (by omega))];rfl
 | false=>rw[cond_false,jgv (jaq (by omega) (by omega))];rfl
theorem jxr (g h:HgT):∃r,jb8 (fu nn) (g,h)=some r∧(0≤r↔¬ltH g h):=by
 unfold jb8
 simp only
 rw[show jan (fu nn) ((g.1.1,g.1.2),(h.1.1,h.1.2))=some (jzi g.1 h.1) from jhf _ _,Option.bind_some,show jce (fu nn) ((g.1.1,g.1.2),(g.2.1,g.2.2))=some (jpw g) from j94 _,Option.bind_some,
  show jce (fu nn) ((h.1.1,h.1.2),(h.2.1,h.2.2))=some (jpw h) from j94 _,Option.bind_some,ji2,Option.bind_some,jyq,Option.bind_some]
 refine⟨_,rfl,?_⟩
 unfold ltH
 rcases j0c g.1 h.1 with c | c | c
 ·have:=jnw.2 c
  rw[if_pos (by omega)]
  refine⟨fun a=>by omega,fun a=>absurd (.inl c) a⟩
 ·have e:=jwr.2 c
  have nl:¬ltS g.1 h.1:=by rw[c];exact jj8 _
  rw[if_neg fun a=>a e]
  by_cases k:jpw g<jpw h
  ·rw[if_pos k]
   exact⟨fun a=>by omega,fun a=>absurd (.inr ⟨c,k⟩) a⟩
  ·rw[if_neg k]
   refine⟨fun _ a=>?_,fun _=>by split<;>omega⟩
   rcases a with a | a
   ·exact nl a
   ·exact k a.2
 ·have n1:¬ltS g.1 h.1:=fun a=>jj8 _ (jfr a c)
  have n2:g.1≠h.1:=fun a=>by rw[a] at c;exact jj8 _ c
  have e1:¬jzi g.1 h.1<0:=fun a=>n1 (jnw.1 a)
  have e2:jzi g.1 h.1≠0:=fun a=>n2 (jwr.1 a)
  rw[if_pos e2]
  refine⟨fun _ a=>?_,fun _=>by omega⟩
  rcases a with a | a
  ·exact n1 a
  ·exact n2 a.1
theorem kj3 {z:Int} (h0:0≤z) (h1:z≤1000000):(IntKind.u64.wrap z).fdiv (2^ (min (1:Int).toNat (IntKind.u64).bits))=z / 2:=by
 rw[show IntKind.u64.wrap z=z by simp[IntKind.wrap,IntKind.bits,IntKind.signed];omega,show((2:Int)^ (min (1:Int).toNat (IntKind.u64).bits))=2 by decide,Int.fdiv_eq_ediv_of_nonneg _ (by omega)]
theorem jdu {L:List SqT} {i:Nat} (h:i<L.length):L.getD i (0,0)∈L:=by rw[List.getD,List.getElem?_eq_getElem h];exact List.getElem_mem _
theorem Sorted.lt {L:List SqT} (h:Sorted L) {i j:Nat} (hij:i<j) (hj:j<L.length):ltS (L.getD i (0,0)) (L.getD j (0,0)):=by
 rw[List.getD,List.getElem?_eq_getElem (by omega),List.getD,List.getElem?_eq_getElem hj]
 exact List.pairwise_iff_getElem.1 h i j (by omega) hj hij
theorem j49 {L:List SqT} (hL:Sorted L) (hl:L.length≤10000) (s:SqT):Ret (jaw (fu nn) (L,(s,()))) fun r=>(r.2=true→r.1=idxS L s)∧(r.2=false→s∉L):=by
 unfold jaw
 refine ja0 (Inv:=fun x:Int×Int=>0≤x.1∧x.1≤x.2∧x.2≤L.length∧(∀k:Nat,(k:Int)<x.1→ltS (L.getD k (0,0)) s)∧∀k:Nat,x.2≤(k:Int)→k<L.length→¬ltS (L.getD k (0,0)) s) (m:=fun x=>(x.2-x.1).toNat) ?_ _ _ ⟨by simp,by simp,by simp,fun k hk=>by simp only at hk;omega,fun k hk h2=>by simp only at hk;omega⟩ (by simp only[fu];omega)
 rintro ⟨i,j⟩ rec ⟨i1,i2,i3,i4,i5⟩ ih
 simp only at i1 i2 i3 i4 i5 ⊢
 refine jac (fun hlt=>?_) fun hge=>?_
 ·rw[kj3 (by omega) (by omega)]
  refine jab (jaq (by omega) (by omega)) (jab (jaq (by omega) (by omega)) (jab (jb2 (by omega) (by omega)) ?_))
  rw[show jan (fu nn) (((L.getD ((i+j) / 2).toNat (0,0)).1,(L.getD ((i+j) / 2).toNat (0,0)).2),(s.1,s.2))=some (jzi (L.getD ((i+j) / 2).toNat (0,0)) s) from jhf _ _,Option.bind_some]
  refine jac (fun g=>?_) fun g=>?_
  ·have hm:=jnw.1 g
   refine jab (jaq (by omega) (by omega)) (ih _ ⟨by simp only;omega,by simp only;omega,by simp only;omega,fun k hk=>?_,i5⟩ (by simp only;omega))
   simp only at hk
   by_cases e:k=((i+j) / 2).toNat
   ·rw[e];exact hm
   ·exact jfr (hL.lt (i:=k) (j:=((i+j) / 2).toNat) (by omega) (by omega)) hm
  ·have hm:¬ltS (L.getD ((i+j) / 2).toNat (0,0)) s:=fun c=>g (jnw.2 c)
   refine ih _ ⟨by simp only;omega,by simp only;omega,by simp only;omega,i4,fun k hk h2 c=>?_⟩ (by simp only;omega)
   simp only at hk
   by_cases e:k=((i+j) / 2).toNat
   ·rw[e] at c;exact hm c
   ·exact hm (jfr (hL.lt (i:=((i+j) / 2).toNat) (j:=k) (by omega) h2) c)
 ·have hno:∀k:Nat,k<L.length→L.getD k (0,0)=s→(k:Int)=i:=fun k hk e=>by
   by_cases c1:(k:Int)<i
   ·have:=i4 k c1
    rw[e] at this
    exact absurd this (jj8 s)
   ·by_cases c2:(k:Int)=i
    ·exact c2
    ·have:=hL.lt (i:=i.toNat) (j:=k) (by omega) hk
     rw[e] at this
     exact absurd this (i5 i.toNat (by omega) (by omega))
  refine jac (fun hlt=>?_) fun hge2=>?_
  ·refine jab (jb2 (by omega) (by omega)) ?_
   rw[show jan (fu nn) (((L.getD i.toNat (0,0)).1,(L.getD i.toNat (0,0)).2),(s.1,s.2))=some (jzi (L.getD i.toNat (0,0)) s) from jhf _ _,Option.bind_some]
   refine jak ⟨fun h=>?_,fun h=>?_⟩
   ·have e:=jwr.1 (of_decide_eq_true h)
    have:=jnt hL.nodup (i:=i.toNat) (by omega)
    rw[e] at this
    simp only
    omega
   ·have e:L.getD i.toNat (0,0)≠s:=fun c=>of_decide_eq_false h (jwr.2 c)
    intro hs
    obtain⟨a,b,c⟩:=jef hs
    have:=hno _ b c
    rw[show(idxS L s).toNat=i.toNat by omega] at c
    exact e c
  ·refine jak ⟨fun h=>(by cases h),fun _ hs=>?_⟩
   obtain⟨a,b,c⟩:=jef hs
   have:=hno _ b c
   omega
theorem jez {L:List SqT} {H:List HgT} (hL:Sorted L) (hl:L.length≤10000) (s:SqT):jal (fu nn) ((L,H),s)=some (idxS L s):=by
 apply Ret.eq
 unfold jal
 refine jfv (j49 hL hl s) fun r ⟨h1,h2⟩=>?_
 cases hr:r.2 with
 | true=>exact j7t (fun g=>by cases g) fun _=>jak (h1 hr)
 | false=>
   refine j7t (fun _=>jak ?_) fun g=>by cases g
   have:=h2 hr
   rw[idxS,if_neg this]
theorem jq1 {p:List Int} (hl:p.length≤10000) (x:Int):jbl (fu nn) (p,x)=some (decide (x∈p)):=by
 apply Ret.eq
 unfold jbl
 have key:Ret (jdq (fu nn) (p,x)) fun r=>(0≤r↔x∈p):=by
  unfold jdq
  simp only
  refine ja0 (Inv:=fun i:Int=>0≤i∧i≤p.length∧∀k:Nat,(k:Int)<i→p.getD k 0≠x) (m:=fun i=>((p.length:Int)-i).toNat) ?_ _ _ ⟨by simp,by simp,fun k hk=>by omega⟩ (by simp only[fu];omega)
  rintro i rec ⟨i1,i2,i3⟩ ih
  refine jac (fun hlt=>?_) fun hge=>?_
  ·refine jab (jb2 (by omega) (by omega)) (jac (fun g=>jak ?_) fun g=>jab (jaq (by omega) (by omega)) (ih _ ⟨by omega,by omega,fun k hk=>?_⟩ (by omega)))
   ·exact⟨fun _=>by rw[g];exact j2g (by omega),fun _=>i1⟩
   ·by_cases e:(k:Int)=i
    ·rw[show k=i.toNat by omega];exact fun c=>g c.symm
    ·exact i3 k (by omega)
  ·refine jak ⟨fun c=>by omega,fun c=>?_⟩
   obtain⟨k,hk,e⟩:=List.mem_iff_getElem.1 c
   have:=i3 k (by omega)
   rw[List.getD,List.getElem?_eq_getElem hk] at this
   exact absurd e this
 refine jfv key fun r hr=>jak ?_
 rw[decide_eq_decide]
 exact hr
end X
end Go.Vm
namespace Go.Vm
namespace X
open W
variable {nn:Nat}
theorem jj9 {α:Type}:∀ {l p:List α},l.Nodup→(∀x∈l,x∈p)→l.length≤p.length
 | [],p,_,_=>Nat.zero_le _
 | a::l,p,hn,h=>by
   obtain⟨h1,h2⟩:=List.nodup_cons.1 hn
   obtain⟨A,B,rfl⟩:=List.append_of_mem (h a List.mem_cons_self)
   have:=jj9 (l:=l) (p:=A++B) h2 fun x hx=>by
    have:=h x (List.mem_cons_of_mem _ hx)
    simp only[List.mem_append,List.mem_cons] at this ⊢
    rcases this with g | g | g
    ·exact .inl g
    ·subst g;exact absurd hx h1
    ·exact .inr g
   rw[List.length_append] at this
   rw[List.length_cons,List.length_append,List.length_cons]
   omega
abbrev hZ:HgT:=((0,0),(false,0))
theorem jdv {H:List HgT} {i:Nat} (h:i<H.length):H.getD i hZ∈H:=by rw[List.getD,List.getElem?_eq_getElem h];exact List.getElem_mem _
structure Ends (S:List SqT) (H:List HgT):Prop where
 srt:Sorted S
 le:S.length≤64
 bd:∀s∈S,(-64≤s.1∧s.1≤64)∧(-64≤s.2∧s.2≤64)
 ends:∀h∈H,h.1∈S∧ja8 h∈S
theorem NetOK.ends' {S:List SqT} {H:List HgT} (h:NetOK S H):Ends S H:=⟨h.srt,h.le,h.bd,h.ends⟩
theorem Ends.other {S:List SqT} {H:List HgT} (h:Ends S H) {g:HgT} (hg:g∈H):jao (fu nn) g=some (ja8 g):=by
 have:=h.bd _ (h.ends g hg).1
 exact jvx (by omega)
def j1e (n:Nat):List Int:=(List.range n).map Int.ofNat
theorem jo8 {n:Nat} {x:Int}:x∈j1e n↔0≤x∧x<n:=by
 simp only[j1e,List.mem_map,List.mem_range]
 constructor
 ·rintro ⟨a,h,rfl⟩;exact⟨by simp,by simp;omega⟩
 ·intro h;exact⟨x.toNat,by omega,by simp;omega⟩
theorem j6h {S:List SqT} {H:List HgT} (h:Ends S H) (hne:1≤S.length) (hH:H.length≤10000):Ret (jci (fu nn) (S,H)) fun o=>o.Nodup∧(∀x∈o,0≤x∧x<S.length)∧(0:Int)∈o∧∀g∈H,(idxS S g.1∈o↔idxS S (ja8 g)∈o):=by
 have hle:=h.le
 unfold jci
 refine ja0 (Inv:=fun x:List Int×Int=>0≤x.2∧x.2≤x.1.length∧x.1.Nodup∧(∀y∈x.1,0≤y∧y<S.length)∧(0:Int)∈x.1∧∀m:Nat,(m:Int)<x.2→∀g∈H,(idxS S g.1=x.1.getD m 0→idxS S (ja8 g)∈x.1)∧(idxS S (ja8 g)=x.1.getD m 0→idxS S g.1∈x.1)) (m:=fun x=>((S.length:Int)-x.2).toNat) ?_ _ _ ⟨by simp,by simp,by simp,fun y hy=>by simp at hy;omega,by simp,fun m hm=>by simp only at hm;omega⟩ (by simp only[fu];omega)
 rintro ⟨o,k⟩ rec ⟨i1,i2,i3,i4,i5,i6⟩ ih
 simp only at i1 i2 i3 i4 i5 i6 ⊢
 have cnt:∀q:List Int,q.Nodup→(∀y∈q,0≤y∧y<S.length)→q.length≤S.length:=fun q a b=>by
  have:=jj9 a (p:=j1e S.length) fun x hx=>jo8.2 (b x hx)
  simpa[j1e] using this
 have hol:=cnt o i3 i4
 refine jac (fun hlt=>?_) fun hge=>?_
 ·refine ja0 (Inv:=fun x:List Int×Int=>0≤x.2∧x.2≤H.length∧x.1.Nodup∧(∀y∈x.1,0≤y∧y<S.length)∧(∃more,x.1=o++more)∧∀m:Nat,(m:Int)<x.2→(idxS S (H.getD m hZ).1=o.getD k.toNat 0→idxS S (ja8 (H.getD m hZ))∈x.1)∧(idxS S (ja8 (H.getD m hZ))=o.getD k.toNat 0→idxS S (H.getD m hZ).1∈x.1)) (m:=fun x=>((H.length:Int)-x.2).toNat) ?_ _ _ ⟨by simp,by simp,i3,i4,⟨[],by simp⟩,fun m hm=>by simp only at hm;omega⟩ (by simp only[fu];omega)
  rintro ⟨p,i⟩ rec2 ⟨j1,j2,j3,j4,⟨more,j5⟩,j6⟩ ih2
  simp only at j1 j2 j3 j4 j5 j6 ⊢
  have hpl:=cnt p j3 j4
  have gk:p.getD k.toNat 0=o.getD k.toNat 0:=by rw[j5,List.getD,List.getD,List.getElem?_append_left (by omega)]
  have hpo:o.length≤p.length:=by rw[j5,List.length_append];omega
  refine jac (fun hlt2=>?_) fun hge2=>?_
  ·have hg:=jdv (H:=H) (i:=i.toNat) (by omega)
   obtain⟨e1,e2⟩:=h.ends _ hg
   refine jab (jb2 (by omega) (by omega)) ?_
   rw[show jal (fu nn) ((S,H),((H.getD i.toNat hZ).1.1,(H.getD i.toNat hZ).1.2))=some (idxS S (H.getD i.toNat hZ).1) from jez h.srt (by omega) _,Option.bind_some,
    show jao (fu nn) (((H.getD i.toNat hZ).1.1,(H.getD i.toNat hZ).1.2),((H.getD i.toNat hZ).2.1,(H.getD i.toNat hZ).2.2))=some (ja8 (H.getD i.toNat hZ)) from h.other hg,Option.bind_some,
    show jal (fu nn) ((S,H),((ja8 (H.getD i.toNat hZ)).1,(ja8 (H.getD i.toNat hZ)).2))=some (idxS S (ja8 (H.getD i.toNat hZ))) from jez h.srt (by omega) _,Option.bind_some]
   have a1:=jef e1
   have a2:=jef e2
   have hne':idxS S (H.getD i.toNat hZ).1≠idxS S (ja8 (H.getD i.toNat hZ)):=fun c=>j98 _ (j2c e1 e2 c).symm
   refine jab (jb2 (by omega) (by omega)) ?_
   rw[gk]
   have nxt:∀q:List Int,q.Nodup→(∀y∈q,0≤y∧y<S.length)→(∃more',q=p++more')→((idxS S (H.getD i.toNat hZ).1=o.getD k.toNat 0→idxS S (ja8 (H.getD i.toNat hZ))∈q)∧(idxS S (ja8 (H.getD i.toNat hZ))=o.getD k.toNat 0→idxS S (H.getD i.toNat hZ).1∈q))→Ret (chk (jap (i+1)) (rec2 (q,i+1))) fun o=>o.Nodup∧(∀x∈o,0≤x∧x<S.length)∧(0:Int)∈o∧∀g∈H,(idxS S g.1∈o↔idxS S (ja8 g)∈o):=fun q q1 q2 ⟨more',q3⟩ q4=>by
    refine jab (jaq (by omega) (by omega)) (ih2 _ ⟨by simp only;omega,by simp only;omega,q1,q2,⟨more++more',by simp only;rw[q3,j5,List.append_assoc]⟩,fun m hm=>?_⟩ (by simp only;omega))
    simp only at hm ⊢
    by_cases e:(m:Int)=i
    ·rw[show m=i.toNat by omega];exact q4
    ·have:=j6 m (by omega)
     exact⟨fun c=>by rw[q3];exact List.mem_append_left _ (this.1 c),fun c=>by rw[q3];exact List.mem_append_left _ (this.2 c)⟩
   generalize idxS S (H.getD i.toNat hZ).1=a at *
   generalize idxS S (ja8 (H.getD i.toNat hZ))=b at *
   have add:∀y:Int,(0≤y∧y<S.length)→(∀q:List Int,y∈q→(a=o.getD k.toNat 0→b∈q)∧(b=o.getD k.toNat 0→a∈q))→Ret ((jbl (fu nn) (p,y)).bind fun r7=>bif(!r7) then(chk (jnq (p.length+1)) (chk (jap (i+1)) (rec2 ((p++[y]),(i+1))))) else(chk (jap (i+1)) (rec2 (p,(i+1))))) fun o=>o.Nodup∧(∀x∈o,0≤x∧x<S.length)∧(0:Int)∈o∧∀g∈H,(idxS S g.1∈o↔idxS S (ja8 g)∈o):=fun y hy hq=>by
    rw[jq1 (by omega),Option.bind_some]
    by_cases hm:y∈p
    ·rw[decide_eq_true hm]
     exact nxt p j3 j4 ⟨[],by simp⟩ (hq p hm)
    ·rw[decide_eq_false hm]
     refine jab (js7 (by omega)) (nxt (p++[y]) ?_ (fun z hz=>?_) ⟨[y],rfl⟩ (hq _ (by simp)))
     ·rw[List.nodup_append]
      exact⟨j3,by simp,fun u hu v hv e=>hm (by simp at hv;rw[←hv,←e];exact hu)⟩
     ·rcases List.mem_append.1 hz with c | c
      ·exact j4 z c
      ·simp at c;rw[c];exact hy
   refine jh2 (fun x:Int×Int=>(x=(b,a)∧b=o.getD k.toNat 0)∨(x=(a,b)∧b≠o.getD k.toNat 0)) (fun x hx=>?_) fun j hj=>?_
   ·refine jab (jb2 (by omega) (by omega)) ?_
    rcases hx with⟨rfl,hb⟩ | ⟨rfl,hb⟩
    ·refine jac (fun _=>add a (by omega) fun q hq=>⟨fun c=>absurd (c.trans hb.symm) hne',fun _=>hq⟩) fun g=>absurd hb g
    ·refine jac (fun ha=>add b (by omega) fun q hq=>⟨fun _=>hq,fun c=>absurd c hb⟩) fun ha=>nxt p j3 j4 ⟨[],by simp⟩ ⟨fun c=>absurd c ha,fun c=>absurd c hb⟩
   ·exact jac (fun g=>hj _ (.inl ⟨rfl,g⟩)) fun g=>hj _ (.inr ⟨rfl,g⟩)
  ·refine jab (jaq (by omega) (by omega)) (ih _ ⟨by simp only;omega,by simp only;omega,j3,j4,by simp only;rw[j5];exact List.mem_append_left _ i5,fun m hm g hg=>?_⟩ (by simp only;omega))
   simp only at hm ⊢
   by_cases e:(m:Int)=k
   ·obtain⟨q,hq,rfl⟩:=List.mem_iff_getElem.1 hg
    have:=j6 q (by omega)
    rw[List.getD,List.getElem?_eq_getElem hq,Option.getD_some] at this
    rw[show m=k.toNat by omega,gk]
    exact this
   ·have:=i6 m (by omega) g hg
    have gm:p.getD m 0=o.getD m 0:=by rw[j5,List.getD,List.getD,List.getElem?_append_left (by omega)]
    rw[gm]
    exact⟨fun c=>by rw[j5];exact List.mem_append_left _ (this.1 c),fun c=>by rw[j5];exact List.mem_append_left _ (this.2 c)⟩
 ·refine jak ⟨i3,i4,i5,fun g hg=>?_⟩
  have at_:∀y∈o,∃m:Nat,(m:Int)<k∧o.getD m 0=y:=fun y hy=>by
   obtain⟨m,hm,e⟩:=List.mem_iff_getElem.1 hy
   exact⟨m,by omega,by rw[List.getD,List.getElem?_eq_getElem hm];exact e⟩
  constructor
  ·intro c
   obtain⟨m,hm,e⟩:=at_ _ c
   exact(i6 m hm g hg).1 e.symm
  ·intro c
   obtain⟨m,hm,e⟩:=at_ _ c
   exact(i6 m hm g hg).2 e.symm
theorem jr3 {S:List SqT} {H:List HgT} (h:NetOK S H) (hH:H.length≤10000):jba (fu nn) (S,H)=some 0:=by
 have hle:=h.le
 have hge:=h.ge
 apply Ret.eq
 unfold jba
 simp only
 refine jac (fun g=>by omega) fun _=>?_
 refine ja0 (Inv:=fun x:Int=>0≤x∧x≤S.length) (m:=fun x=>((S.length:Int)-x).toNat) ?_ _ _ ⟨by simp,by simp⟩ (by simp only[fu];omega)
 rintro i rec ⟨i1,i2⟩ ih
 refine jac (fun hlt=>?_) fun hge'=>?_
 ·have hb:=h.bd _ (jdu (L:=S) (i:=i.toNat) (by omega))
  have nxt:Ret (chk (jap (i+1)) (rec (i+1))) fun x=>x=0:=jab (jaq (by omega) (by omega)) (ih _ ⟨by omega,by omega⟩ (by omega))
  refine jab (jb2 (by omega) (by omega)) (jac (fun g=>by omega) fun _=>jac (fun g=>by omega) fun _=>jac (fun g=>by omega) fun _=>jac (fun g=>by omega) fun _=>jac (fun g=>?_) fun _=>nxt)
  refine jab (jaq (by omega) (by omega)) (jab (jb2 (by omega) (by omega)) ?_)
  rw[show jan (fu nn) (((S.getD (i-1).toNat (0,0)).1,(S.getD (i-1).toNat (0,0)).2),((S.getD i.toNat (0,0)).1,(S.getD i.toNat (0,0)).2))=some (jzi (S.getD (i-1).toNat (0,0)) (S.getD i.toNat (0,0))) from jhf _ _,Option.bind_some]
  have:=jnw.2 (h.srt.lt (i:=(i-1).toNat) (j:=i.toNat) (by omega) (by omega))
  exact jac (fun g=>by omega) fun _=>nxt
 refine ja0 (Inv:=fun x:Int=>0≤x∧x≤H.length) (m:=fun x=>((H.length:Int)-x).toNat) ?_ _ _ ⟨by simp,by simp⟩ (by simp only[fu];omega)
 rintro i rec ⟨i1,i2⟩ ih
 refine jac (fun hlt=>?_) fun hge'=>?_
 ·have hb: -1≤(H.getD i.toNat ((0,0),(false,0))).2.2∧(H.getD i.toNat ((0,0),(false,0))).2.2≤1:=h.bend _ (jdv (H:=H) (i:=i.toNat) (by omega))
  have nxt:Ret (chk (jap (i+1)) (rec (i+1))) fun x=>x=0:=jab (jaq (by omega) (by omega)) (ih _ ⟨by omega,by omega⟩ (by omega))
  refine jab (jb2 (by omega) (by omega)) (jac (fun g=>by omega) fun _=>jac (fun g=>by omega) fun _=>jac (fun g=>?_) fun _=>nxt)
  refine jab (jaq (by omega) (by omega)) (jab (jb2 (by omega) (by omega)) ?_)
  obtain⟨r,hr,hr2⟩:=jxr (H.getD (i-1).toNat hZ) (H.getD i.toNat hZ)
  rw[show jb8 (fu nn) ((((H.getD (i-1).toNat hZ).1.1,(H.getD (i-1).toNat hZ).1.2),((H.getD (i-1).toNat hZ).2.1,(H.getD (i-1).toNat hZ).2.2)),(((H.getD i.toNat hZ).1.1,(H.getD i.toNat hZ).1.2),((H.getD i.toNat hZ).2.1,(H.getD i.toNat hZ).2.2)))=some r from hr,Option.bind_some]
  have lt:ltH (H.getD (i-1).toNat hZ) (H.getD i.toNat hZ):=by
   rw[List.getD,List.getElem?_eq_getElem (by omega),List.getD,List.getElem?_eq_getElem (by omega)]
   exact List.pairwise_iff_getElem.1 h.hs _ _ (by omega) (by omega) (by omega)
  exact jac (fun g=>absurd lt (hr2.1 g)) fun _=>nxt
 refine jac (fun g=>by omega) fun _=>?_
 refine ja0 (Inv:=fun x:Int=>0≤x∧x≤H.length) (m:=fun x=>((H.length:Int)-x).toNat) ?_ _ _ ⟨by simp,by simp⟩ (by simp only[fu];omega)
 rintro i rec ⟨i1,i2⟩ ih
 refine jac (fun hlt=>?_) fun hge'=>?_
 ·have hg:=jdv (H:=H) (i:=i.toNat) (by omega)
  obtain⟨e1,e2⟩:=h.ends _ hg
  have a1:=jef e1
  have a2:=jef e2
  refine jab (jb2 (by omega) (by omega)) ?_
  rw[show jal (fu nn) ((S,H),((H.getD i.toNat hZ).1.1,(H.getD i.toNat hZ).1.2))=some (idxS S (H.getD i.toNat hZ).1) from jez h.srt (by omega) _,Option.bind_some]
  refine jac (fun g=>by omega) fun _=>?_
  rw[show jao (fu nn) (((H.getD i.toNat hZ).1.1,(H.getD i.toNat hZ).1.2),((H.getD i.toNat hZ).2.1,(H.getD i.toNat hZ).2.2))=some (ja8 (H.getD i.toNat hZ)) from h.ends'.other hg,Option.bind_some,
   show jal (fu nn) ((S,H),((ja8 (H.getD i.toNat hZ)).1,(ja8 (H.getD i.toNat hZ)).2))=some (idxS S (ja8 (H.getD i.toNat hZ))) from jez h.srt (by omega) _,Option.bind_some]
  exact jac (fun g=>by omega) fun _=>jab (jaq (by omega) (by omega)) (ih _ ⟨by omega,by omega⟩ (by omega))
 refine jfv (j6h h.ends' hge hH) fun o ⟨o1,o2,o3,o4⟩=>?_
 have all:∀s∈S,idxS S s∈o:=h.con (fun s=>idxS S s∈o) ⟨_,jdu (L:=S) (i:=0) (by omega),by
  rw[jnt h.srt.nodup (by omega)];exact o3⟩ o4
 have:S.length≤o.length:=by
  have:=jj9 (l:=j1e S.length) (p:=o) (by
   unfold j1e
   exact List.nodup_range.map (f:=Int.ofNat) (fun a b h h2=>h (Int.ofNat.inj h2))) fun x hx=>by
    have hx:=jo8.1 hx
    have:=all _ (jdu (L:=S) (i:=x.toNat) (by omega))
    rw[jnt h.srt.nodup (by omega)] at this
    rwa[show((x.toNat:Nat):Int)=x by omega] at this
  simpa[j1e] using this
 exact jac (fun g=>by omega) fun _=>jak rfl
theorem jko {a:List Int} (h:a.length=3):[a.getD 0 0,a.getD 1 0,a.getD 2 0]=a:=by
 match a,h with
 | [x,y,z],_=>rfl
theorem jvt {a b:List Int} {k:Int} (ha:∀i:Nat,i<3→ -1000000≤a.getD i 0∧a.getD i 0≤1000000) (hb:∀i:Nat,i<3→ -1≤b.getD i 0∧b.getD i 0≤1) (hk:k=1∨k= -1):jcb (fu nn) (a,(b,k))=some (jzl a b k):=by
 unfold jcb
 have a0:=ha 0 (by omega);have a1:=ha 1 (by omega);have a2:=ha 2 (by omega)
 have b0:=hb 0 (by omega);have b1:=hb 1 (by omega);have b2:=hb 2 (by omega)
 have m:∀z:Int, -1≤z∧z≤1→ -1≤k*z∧k*z≤1:=fun z hz=>by
  rcases hk with rfl | rfl<;>omega
 have m0:=m _ b0;have m1:=m _ b1;have m2:=m _ b2
 simp only
 rw[jgv (jaq (by omega) (by omega)),jgv (jaq (by omega) (by omega)),jgv (jaq (by omega) (by omega)),jgv (jaq (by omega) (by omega)),jgv (jaq (by omega) (by omega)),jgv (jaq (by omega) (by omega))]
 rfl
theorem j9a:∀p∈RU,jat 0 ([0,0,0],p)=some (jhm p.1 p.2):=by decide +kernel
theorem jpe {f:FrT} (h:f.2∈RU) (a:List Int):jat (fu nn) (a,f.2)=some (jhm f.2.1 f.2.2):=(j9a _ h:jat 0 ([0,0,0],f.2)=_)
theorem j7c:∀p∈RU,∀b∈jn3,jdr 0 (p.2,(jhm p.1 p.2,b))=some (jgp p.2 (jhm p.1 p.2) b)∧jdr 0 (p.1,(jhm p.1 p.2,b))=some (jgp p.1 (jhm p.1 p.2) b):=by decide +kernel
theorem jiv:∀p∈RU,p.1.length=3∧p.2.length=3:=by decide +kernel
theorem jz0 {B:Int} {f:FrT} {h:HgT} (hf:FrOK B f) (hB:B≤1000) (hb: -1≤h.2.2∧h.2.2≤1):jbj (fu nn) (f,h)=some (ovF f h):=by
 obtain⟨l1,l2⟩:=jiv _ hf.ru
 obtain⟨u1,u2⟩:=jl4 _ hf.ru
 have b1:=(jgs _ u1).2
 have b2:=(jgs _ u2).2
 have ha:∀i:Nat,i<3→ -1000000≤f.1.getD i 0∧f.1.getD i 0≤1000000:=fun i hi=>by have:=hf.lo i hi;have:=hf.hi i hi;omega
 obtain⟨r1,r2,_,_⟩:=jn6 _ hf.ru _ (jev hb)
 have c1:=(jiv _ r1).2
 have c2:=(jiv _ r2).1
 have bt:jdr (fu nn) (f.2.2,(jhm f.2.1 f.2.2,h.2.2))=some (jgp f.2.2 (jhm f.2.1 f.2.2) h.2.2)∧jdr (fu nn) (f.2.1,(jhm f.2.1 f.2.2,h.2.2))=some (jgp f.2.1 (jhm f.2.1 f.2.2) h.2.2):=j7c _ hf.ru _ (jev hb)
 unfold jbj ovF
 simp only
 rw[jko hf.len,jko l1,jko l2]
 cases h.2.1 with
 | true=>
   rw[cond_true,jvt ha b2 (.inl rfl),Option.bind_some,show jat (fu nn) (f.1,(f.2.1,f.2.2))=_ from jpe hf.ru _,Option.bind_some,bt.1,Option.bind_some,jko jod,jko c1,if_pos rfl]
 | false=>
   rw[cond_false,jvt ha b1 (.inl rfl),Option.bind_some,show jat (fu nn) (f.1,(f.2.1,f.2.2))=_ from jpe hf.ru _,Option.bind_some,bt.2,Option.bind_some,jko jod,jko c2,if_neg (by decide)]
theorem kd9 {b:Int} (h: -1≤b∧b≤1):IntKind.i8.wrap (-b)= -b:=by
 rcases(by omega:b= -1∨b=0∨b=1) with rfl | rfl | rfl<;>decide
theorem j7d {B:Int} {f:FrT} {h:HgT} (hf:FrOK B f) (hB:B≤1000) (hb: -1≤h.2.2∧h.2.2≤1):jbk (fu nn) (f,h)=some (bkF f h):=by
 obtain⟨l1,l2⟩:=jiv _ hf.ru
 have hb': -1≤ -h.2.2∧ -h.2.2≤1:=by omega
 obtain⟨r1,r2,_,_⟩:=jn6 _ hf.ru _ (jev hb')
 have c1:=(jiv _ r1).2
 have c2:=(jiv _ r2).1
 have b2:=(jgs _ (jl4 _ r1).2).2
 have b1:=(jgs _ (jl4 _ r2).1).2
 have ha:∀i:Nat,i<3→ -1000000≤f.1.getD i 0∧f.1.getD i 0≤1000000:=fun i hi=>by have:=hf.lo i hi;have:=hf.hi i hi;omega
 have bt:jdr (fu nn) (f.2.2,(jhm f.2.1 f.2.2, -h.2.2))=some (jgp f.2.2 (jhm f.2.1 f.2.2) (-h.2.2))∧jdr (fu nn) (f.2.1,(jhm f.2.1 f.2.2, -h.2.2))=some (jgp f.2.1 (jhm f.2.1 f.2.2) (-h.2.2)):=j7c _ hf.ru _ (jev hb')
 unfold jbk bkF
 simp only
 rw[jko hf.len,jko l1,jko l2,kd9 hb]
 cases h.2.1 with
 | true=>
   rw[cond_true,show jat (fu nn) (f.1,(f.2.1,f.2.2))=_ from jpe hf.ru _,Option.bind_some,bt.1,Option.bind_some,jko c1,jvt ha b2 (.inr rfl),Option.bind_some,jko jod,if_pos rfl]
 | false=>
   rw[cond_false,show jat (fu nn) (f.1,(f.2.1,f.2.2))=_ from jpe hf.ru _,Option.bind_some,bt.2,Option.bind_some,jko c2,jvt ha b1 (.inr rfl),Option.bind_some,jko jod,if_neg (by decide)]
end X
end Go.Vm
namespace Go.Vm
namespace X
open W
variable {nn:Nat}
theorem j9e {B:Int} {f:FrT} (h:FrOK B f):(([f.1.getD 0 0,f.1.getD 1 0,f.1.getD 2 0],([f.2.1.getD 0 0,f.2.1.getD 1 0,f.2.1.getD 2 0],[f.2.2.getD 0 0,f.2.2.getD 1 0,f.2.2.getD 2 0])):FrT)=f:=by
 obtain⟨l1,l2⟩:=jiv _ h.ru
 rw[jko h.len,jko l1,jko l2]
theorem eq9 {B B':Int} {f g:FrT} (h:FrOK B f) (k:FrOK B' g):(decide (f.1.getD 0 0=g.1.getD 0 0)&&(decide (f.1.getD 1 0=g.1.getD 1 0)&&(decide (f.1.getD 2 0=g.1.getD 2 0)&&(decide (f.2.1.getD 0 0=g.2.1.getD 0 0)&&(decide (f.2.1.getD 1 0=g.2.1.getD 1 0)&&(decide (f.2.1.getD 2 0=g.2.1.getD 2 0)&&(decide (f.2.2.getD 0 0=g.2.2.getD 0 0)&&(decide (f.2.2.getD 1 0=g.2.2.getD 1 0)&&decide (f.2.2.getD 2 0=g.2.2.getD 2 0)))))))))=decide (f=g):=by
 obtain⟨l1,l2⟩:=jiv _ h.ru
 obtain⟨m1,m2⟩:=jiv _ k.ru
 rw[Bool.eq_iff_iff]
 simp only[Bool.and_eq_true,decide_eq_true_eq]
 constructor
 ·rintro ⟨a0,a1,a2,b0,b1,b2,c0,c1,c2⟩
  exact Prod.ext (kan h.len k.len a0 a1 a2) (Prod.ext (kan l1 m1 b0 b1 b2) (kan l2 m2 c0 c1 c2))
 ·rintro rfl
  exact⟨rfl,rfl,rfl,rfl,rfl,rfl,rfl,rfl,rfl⟩
abbrev j7y (S:List SqT) (H:List HgT) (r:List FrT×Int):Prop:=∃K O,Placed S H K O∧(∀i:Nat,i<S.length→K.getD i false=true)∧
 ((∀g∈H,ovF (O.getD (idxS S g.1).toNat frZ) g=O.getD (idxS S (ja8 g)).toNat frZ)→r=(O,0))∧(¬(∀g∈H,ovF (O.getD (idxS S g.1).toNat frZ) g=O.getD (idxS S (ja8 g)).toNat frZ)→r=([],11))
set_option maxHeartbeats 1000000 in
theorem j9y {S:List SqT} {H:List HgT} (h:NetOK S H) (hH:H.length≤10000):Ret (jbu (fu nn) (S,H)) (j7y S H):=by
 have hle:=h.le
 have hge:=h.ge
 unfold jbu
 rw[show jba (fu nn) ((S,H).1,(S,H).2)=some 0 from jr3 h hH,Option.bind_some]
 refine jac (fun g=>absurd rfl g) fun _=>?_
 have e0:((List.replicate (α:=((List Int)×((List Int)×(List Int)))) S.length ([0,0,0],([0,0,0],[0,0,0]))).set 0 ([0,0,0],([1,0,0],[0,1,0]))).length=S.length:=by simp
 simp only
 refine jab (by simp;omega) (jab (jb2 (by omega) (by simp;omega)) (jab (by simp;omega) (jab (jb2 (by omega) (by simp;omega)) ?_)))
 rw[e0]
 refine ja0 (Inv:=fun x:Int×((List FrT×Option Nat)×(List Bool×Option Nat))=>0≤x.1∧x.1≤S.length∧x.2.1.2=some S.length∧x.2.2.2=some S.length∧Placed S H x.2.2.1 x.2.1.1∧((∀i:Nat,i<S.length→x.2.2.1.getD i false=true)∨x.1+1≤x.2.2.1.count true)) (m:=fun x=>((S.length:Int)-x.1).toNat) ?_ _ _ ⟨by simp,by simp,rfl,rfl,Placed.start h,.inr ?_⟩ (by simp only[fu];omega)
 rotate_left
 ·have hp:=Placed.start h
  have:1≤((List.replicate S.length false).set 0 true).count true:=by
   rw[jjt (by simp;omega) (by simp[List.getD,List.getElem?_replicate,show 0<S.length by omega])]
   omega
  simp only
  omega
 rintro ⟨r,⟨O,c1⟩,K,c2⟩ rec ⟨i1,i2,i3,i4,hp,i6⟩ ih
 simp only at i1 i2 i3 i4 hp i6 ⊢
 subst i3;subst i4
 have hkl:=hp.kl
 have hol:=hp.ol
 refine jac (fun hlt=>?_) fun hge'=>?_
 ·refine ja0 (Inv:=fun x:Int×((List FrT×Option Nat)×(List Bool×Option Nat))=>0≤x.1∧x.1≤H.length∧x.2.1.2=some S.length∧x.2.2.2=some S.length∧Placed S H x.2.2.1 x.2.1.1∧(K.count true+1≤x.2.2.1.count true∨(x.2.2.1=K∧∀m:Nat,(m:Int)<x.1→K.getD (idxS S (H.getD m hZ).1).toNat false=K.getD (idxS S (ja8 (H.getD m hZ))).toNat false))) (m:=fun x=>((H.length:Int)-x.1).toNat) ?_ _ _ ⟨by simp,by simp,rfl,rfl,hp,.inr ⟨rfl,fun m hm=>by simp only at hm;omega⟩⟩ (by simp only[fu];omega)
  rintro ⟨i,⟨O2,d1⟩,K2,d2⟩ rec2 ⟨j1,j2,j3,j4,hq,j6⟩ ih2
  simp only at j1 j2 j3 j4 hq j6 ⊢
  subst j3;subst j4
  have hkl2:=hq.kl
  have hol2:=hq.ol
  refine jac (fun hlt2=>?_) fun hge2=>?_
  ·have hg:=jdv (H:=H) (i:=i.toNat) (by omega)
   obtain⟨e1,e2⟩:=h.ends _ hg
   have hb:=h.bend _ hg
   have a1:=jef e1
   have a2:=jef e2
   have hcnt:K2.count true≤64:=by have:=jph (K:=K2);omega
   refine jab (jb2 (by omega) (by omega)) ?_
   rw[show jal (fu nn) ((S,H),((H.getD i.toNat hZ).1.1,(H.getD i.toNat hZ).1.2))=some (idxS S (H.getD i.toNat hZ).1) from jez h.srt (by omega) _,Option.bind_some,
    show jao (fu nn) (((H.getD i.toNat hZ).1.1,(H.getD i.toNat hZ).1.2),((H.getD i.toNat hZ).2.1,(H.getD i.toNat hZ).2.2))=some (ja8 (H.getD i.toNat hZ)) from h.ends'.other hg,Option.bind_some,
    show jal (fu nn) ((S,H),((ja8 (H.getD i.toNat hZ)).1,(ja8 (H.getD i.toNat hZ)).2))=some (idxS S (ja8 (H.getD i.toNat hZ))) from jez h.srt (by omega) _,Option.bind_some]
   have kA:=jb2 (i:=idxS S (H.getD i.toNat hZ).1) (n:=K2.length) (by omega) (by omega)
   have kB:=jb2 (i:=idxS S (ja8 (H.getD i.toNat hZ))) (n:=K2.length) (by omega) (by omega)
   have oA:=jb2 (i:=idxS S (H.getD i.toNat hZ).1) (n:=O2.length) (by omega) (by omega)
   have oB:=jb2 (i:=idxS S (ja8 (H.getD i.toNat hZ))) (n:=O2.length) (by omega) (by omega)
   have skip:K2.getD (idxS S (H.getD i.toNat hZ).1).toNat false=K2.getD (idxS S (ja8 (H.getD i.toNat hZ))).toNat false→Ret (chk (jap (i+1)) (rec2 (i+1,((O2,some S.length),(K2,some S.length))))) (j7y S H):=fun he=>by
    refine jab (jaq (by omega) (by omega)) (ih2 _ ⟨by simp only;omega,by simp only;omega,rfl,rfl,hq,?_⟩ (by simp only;omega))
    rcases j6 with c | ⟨c,c'⟩
    ·exact .inl c
    ·refine .inr ⟨c,fun m hm=>?_⟩
     simp only at hm
     by_cases e:(m:Int)=i
     ·rw[show m=i.toNat by omega,←c];exact he
     ·exact c' m (by omega)
   have back:K2.getD (idxS S (H.getD i.toNat hZ).1).toNat false=false→K2.getD (idxS S (ja8 (H.getD i.toNat hZ))).toNat false=true→Ret (chk (inb (idxS S (ja8 (H.getD i.toNat hZ))) O2.length) ((jbk (fu nn) (([((O2.getD (idxS S (ja8 (H.getD i.toNat hZ))).toNat frZ).1.getD 0 0),((O2.getD (idxS S (ja8 (H.getD i.toNat hZ))).toNat frZ).1.getD 1 0),((O2.getD (idxS S (ja8 (H.getD i.toNat hZ))).toNat frZ).1.getD 2 0)],([((O2.getD (idxS S (ja8 (H.getD i.toNat hZ))).toNat frZ).2.1.getD 0 0),((O2.getD (idxS S (ja8 (H.getD i.toNat hZ))).toNat frZ).2.1.getD 1 0),((O2.getD (idxS S (ja8 (H.getD i.toNat hZ))).toNat frZ).2.1.getD 2 0)],[((O2.getD (idxS S (ja8 (H.getD i.toNat hZ))).toNat frZ).2.2.getD 0 0),((O2.getD (idxS S (ja8 (H.getD i.toNat hZ))).toNat frZ).2.2.getD 1 0),((O2.getD (idxS S (ja8 (H.getD i.toNat hZ))).toNat frZ).2.2.getD 2 0)])),(((H.getD i.toNat hZ).1.1,(H.getD i.toNat hZ).1.2),((H.getD i.toNat hZ).2.1,(H.getD i.toNat hZ).2.2)))).bind fun r8=>chk (inb (idxS S (H.getD i.toNat hZ).1) O2.length) (chk (inb (idxS S (H.getD i.toNat hZ).1) K2.length) (chk (jap (i+1)) (rec2 ((i+1),(((O2.set (idxS S (H.getD i.toNat hZ).1).toNat ([(r8.1.getD 0 0),(r8.1.getD 1 0),(r8.1.getD 2 0)],([(r8.2.1.getD 0 0),(r8.2.1.getD 1 0),(r8.2.1.getD 2 0)],[(r8.2.2.getD 0 0),(r8.2.2.getD 1 0),(r8.2.2.getD 2 0)]))),some S.length),((K2.set (idxS S (H.getD i.toNat hZ).1).toNat true),some S.length)))))))) (j7y S H):=fun hA hB=>by
    have fk:=hq.ok _ a2.2.1 hB
    refine jab oB ?_
    rw[j9e fk,show jbk (fu nn) (O2.getD (idxS S (ja8 (H.getD i.toNat hZ))).toNat frZ,(((H.getD i.toNat hZ).1.1,(H.getD i.toNat hZ).1.2),((H.getD i.toNat hZ).2.1,(H.getD i.toNat hZ).2.2)))=some (bkF (O2.getD (idxS S (ja8 (H.getD i.toNat hZ))).toNat frZ) (H.getD i.toNat hZ)) from j7d fk (by omega) hb,Option.bind_some,j9e (fk.bk hb)]
    refine jab oA (jab kA (jab (jaq (by omega) (by omega)) (ih2 _ ⟨by simp only;omega,by simp only;omega,rfl,rfl,hq.step h hg (a:=(idxS S (ja8 (H.getD i.toNat hZ))).toNat) (b:=(idxS S (H.getD i.toNat hZ).1).toNat) (.inr ⟨rfl,rfl,rfl⟩) hB hA,.inl ?_⟩ (by simp only;omega))))
    simp only
    rw[jjt (by omega) hA]
    rcases j6 with c | ⟨c,_⟩
    ·omega
    ·rw[c];omega
   refine jab kA ?_
   cases hA:K2.getD (idxS S (H.getD i.toNat hZ).1).toNat false with
   | true=>
     try simp only[cond_true]
     refine jab kB ?_
     cases hB:K2.getD (idxS S (ja8 (H.getD i.toNat hZ))).toNat false with
     | true=>
       try simp only[Bool.not_true,cond_false]
       refine jab kB ?_
       try simp only[cond_true]
       refine jab kA ?_
       try simp only[Bool.not_true,cond_false]
       exact skip (by rw[hA,hB])
     | false=>
       try simp only[Bool.not_false,cond_true]
       have fk:=hq.ok _ a1.2.1 hA
       refine jab oA ?_
       rw[j9e fk,show jbj (fu nn) (O2.getD (idxS S (H.getD i.toNat hZ).1).toNat frZ,(((H.getD i.toNat hZ).1.1,(H.getD i.toNat hZ).1.2),((H.getD i.toNat hZ).2.1,(H.getD i.toNat hZ).2.2)))=some (ovF (O2.getD (idxS S (H.getD i.toNat hZ).1).toNat frZ) (H.getD i.toNat hZ)) from jz0 fk (by omega) hb,Option.bind_some,j9e (fk.ov hb)]
       refine jab oB (jab kB (jab (jaq (by omega) (by omega)) (ih2 _ ⟨by simp only;omega,by simp only;omega,rfl,rfl,hq.step h hg (a:=(idxS S (H.getD i.toNat hZ).1).toNat) (b:=(idxS S (ja8 (H.getD i.toNat hZ))).toNat) (.inl ⟨rfl,rfl,rfl⟩) hA hB,.inl ?_⟩ (by simp only;omega))))
       simp only
       rw[jjt (by omega) hB]
       rcases j6 with c | ⟨c,_⟩
       ·omega
       ·rw[c];omega
   | false=>
     try simp only[cond_false]
     refine jab kB ?_
     cases hB:K2.getD (idxS S (ja8 (H.getD i.toNat hZ))).toNat false with
     | true=>
       try simp only[cond_true]
       refine jab kA ?_
       try simp only[Bool.not_false,cond_true]
       exact back hA hB
     | false=>
       try simp only[cond_false]
       exact skip (by rw[hA,hB])
  ·refine jab (jaq (by omega) (by omega)) (ih _ ⟨by simp only;omega,by simp only;omega,rfl,rfl,hq,?_⟩ (by simp only;omega))
   simp only
   rcases j6 with c | ⟨c,c'⟩
   ·rcases i6 with d | d
    ·left
     have:=jyn (K:=K) (fun i hi=>d i (by omega))
     have:=jph (K:=K2)
     omega
    ·right;omega
   ·left
    refine hq.all h fun g hg=>?_
    obtain⟨q,hq',rfl⟩:=List.mem_iff_getElem.1 hg
    have:=c' q (by omega)
    rw[show H.getD q hZ=H[q] by rw[List.getD,List.getElem?_eq_getElem hq'];rfl] at this
    rw[c]
    exact this
 ·have all:∀i:Nat,i<S.length→K.getD i false=true:=by
   rcases i6 with d | d
   ·exact d
   ·have:=jph (K:=K)
    omega
  have hcnt:K.count true≤64:=by have:=jph (K:=K);omega
  refine ja0 (Inv:=fun x:Int=>0≤x∧x≤H.length∧∀m:Nat,(m:Int)<x→ovF (O.getD (idxS S (H.getD m hZ).1).toNat frZ) (H.getD m hZ)=O.getD (idxS S (ja8 (H.getD m hZ))).toNat frZ) (m:=fun x=>((H.length:Int)-x).toNat) ?_ _ _ ⟨by simp,by simp,fun m hm=>by omega⟩ (by simp only[fu];omega)
  rintro i rec2 ⟨j1,j2,j3⟩ ih2
  refine jac (fun hlt2=>?_) fun hge2=>?_
  ·have hg:=jdv (H:=H) (i:=i.toNat) (by omega)
   obtain⟨e1,e2⟩:=h.ends _ hg
   have hb:=h.bend _ hg
   have a1:=jef e1
   have a2:=jef e2
   have fa:=hp.ok _ a1.2.1 (all _ a1.2.1)
   have fb:=hp.ok _ a2.2.1 (all _ a2.2.1)
   refine jab (jb2 (by omega) (by omega)) ?_
   rw[show jal (fu nn) ((S,H),((H.getD i.toNat hZ).1.1,(H.getD i.toNat hZ).1.2))=some (idxS S (H.getD i.toNat hZ).1) from jez h.srt (by omega) _,Option.bind_some]
   refine jab (jb2 (by omega) (by omega)) ?_
   rw[j9e fa,show jbj (fu nn) (O.getD (idxS S (H.getD i.toNat hZ).1).toNat frZ,(((H.getD i.toNat hZ).1.1,(H.getD i.toNat hZ).1.2),((H.getD i.toNat hZ).2.1,(H.getD i.toNat hZ).2.2)))=some (ovF (O.getD (idxS S (H.getD i.toNat hZ).1).toNat frZ) (H.getD i.toNat hZ)) from jz0 fa (by omega) hb,Option.bind_some,
    show jao (fu nn) (((H.getD i.toNat hZ).1.1,(H.getD i.toNat hZ).1.2),((H.getD i.toNat hZ).2.1,(H.getD i.toNat hZ).2.2))=some (ja8 (H.getD i.toNat hZ)) from h.ends'.other hg,Option.bind_some,
    show jal (fu nn) ((S,H),((ja8 (H.getD i.toNat hZ)).1,(ja8 (H.getD i.toNat hZ)).2))=some (idxS S (ja8 (H.getD i.toNat hZ))) from jez h.srt (by omega) _,Option.bind_some]
   refine jab (jb2 (by omega) (by omega)) ?_
   rw[eq9 (fa.ov hb) fb]
   by_cases e:ovF (O.getD (idxS S (H.getD i.toNat hZ).1).toNat frZ) (H.getD i.toNat hZ)=O.getD (idxS S (ja8 (H.getD i.toNat hZ))).toNat frZ
   ·rw[decide_eq_true e]
    refine jab (jaq (by omega) (by omega)) (ih2 _ ⟨by omega,by omega,fun m hm=>?_⟩ (by omega))
    by_cases c:(m:Int)=i
    ·rw[show m=i.toNat by omega];exact e
    ·exact j3 m (by omega)
   ·rw[decide_eq_false e]
    exact jak ⟨K,O,hp,all,fun c=>absurd (c _ hg) e,fun _=>rfl⟩
  ·refine jab (by simp[jkb];omega) (jak ⟨K,O,hp,all,fun _=>rfl,fun c=>absurd (fun g hg=>?_) c⟩)
   obtain⟨q,hq',rfl⟩:=List.mem_iff_getElem.1 hg
   have:=j3 q (by omega)
   rw[show H.getD q hZ=H[q] by rw[List.getD,List.getElem?_eq_getElem hq'];rfl] at this
   exact this
end X
end Go.Vm
namespace Go.Vm
namespace X
open W
variable {nn:Nat}
def kij (s:SqT) (d:Int):SqT:=if d=0 then(s.1+1,s.2) else if d=1 then(s.1,s.2+1) else if d=2 then(s.1-1,s.2) else(s.1,s.2-1)
def jfm (B:Int) (s:SqT):Prop:=(-B≤s.1∧s.1≤B)∧(-B≤s.2∧s.2≤B)
theorem jy0 {B:Int} {s:SqT} {d:Int} (h:jfm B s) (hB:B≤1000):jdf (fu nn) (s,d)=some (kij s d):=by
 unfold jfm at h
 unfold jdf kij
 simp only
 by_cases h0:d=0
 ·rw[decide_eq_true h0,cond_true,if_pos h0,jgv (jaq (by omega) (by omega))]
 rw[decide_eq_false h0,cond_false,if_neg h0]
 by_cases h1:d=1
 ·rw[decide_eq_true h1,cond_true,if_pos h1,jgv (jaq (by omega) (by omega))]
 rw[decide_eq_false h1,cond_false,if_neg h1]
 by_cases h2:d=2
 ·rw[decide_eq_true h2,cond_true,if_pos h2,jgv (jaq (by omega) (by omega))]
 rw[decide_eq_false h2,cond_false,if_neg h2,jgv (jaq (by omega) (by omega))]
theorem j6f (s t:SqT):jfe (fu nn) (s,t)=some (decide (ltS s t)):=by
 apply Ret.eq
 unfold jfe
 refine jac (fun g=>jak ?_) fun g=>jac (fun g2=>jak ?_) fun g2=>jak ?_
 ·rw[decide_eq_true (show ltS s t from .inl g)]
 ·rw[decide_eq_decide]
  exact⟨fun c=>.inr ⟨g2,c⟩,fun c=>by rcases c with c | c;exact absurd c g;exact c.2⟩
 ·rw[decide_eq_false]
  rintro (c | c)
  ·exact g c
  ·exact g2 c.1
theorem j8h (s t:SqT):(decide (s.1=t.1)&&decide (s.2=t.2))=decide (s=t):=by
 rw[Bool.eq_iff_iff]
 simp only[Bool.and_eq_true,decide_eq_true_eq]
 exact⟨fun h=>Prod.ext h.1 h.2,fun h=>by rw[h];exact⟨rfl,rfl⟩⟩
theorem j2e {L:List SqT} (hl:L.length≤10000) (s:SqT):jdt (fu nn) (L,s)=some (decide (s∈L)):=by
 apply Ret.eq
 unfold jdt
 simp only
 refine ja0 (Inv:=fun i:Int=>0≤i∧i≤L.length∧∀k:Nat,(k:Int)<i→L.getD k (0,0)≠s) (m:=fun i=>((L.length:Int)-i).toNat) ?_ _ _ ⟨by simp,by simp,fun k hk=>by omega⟩ (by simp only[fu];omega)
 rintro i rec ⟨i1,i2,i3⟩ ih
 refine jac (fun hlt=>?_) fun hge=>?_
 ·rw[show(decide ((L.getD i.toNat (0,0)).1=s.1)&&decide ((L.getD i.toNat (0,0)).2=s.2))=decide (L.getD i.toNat (0,0)=s) from j8h _ _]
  refine jab (jb2 (by omega) (by omega)) (jac (fun g=>jak ?_) fun g=>jab (jaq (by omega) (by omega)) (ih _ ⟨by omega,by omega,fun k hk=>?_⟩ (by omega)))
  ·rw[decide_eq_true]
   rw[←g];exact jdu (by omega)
  ·by_cases e:(k:Int)=i
   ·rw[show k=i.toNat by omega];exact g
   ·exact i3 k (by omega)
 ·refine jak ?_
  rw[decide_eq_false]
  intro c
  obtain⟨k,hk,e⟩:=List.mem_iff_getElem.1 c
  have:=i3 k (by omega)
  rw[List.getD,List.getElem?_eq_getElem hk] at this
  exact this e
end X
end Go.Vm
namespace Go.Vm
namespace X
open W
variable {nn:Nat}
def KD (H:List HgT):Prop:=H.Pairwise fun a b=>¬(a.1=b.1∧a.2.1=b.2.1)
theorem j4s {g h:HgT}:jpw g=jpw h↔g.2.1=h.2.1:=by
 unfold jpw
 cases g.2.1<;>cases h.2.1<;>simp
def kho (L:List (List Int)):Prop:=∀x∈L,x.length=3∧∀y∈x,0≤y∧y≤255
structure Grown (l:List SqT) (h:List HgT):Prop where
 ge:1≤l.length
 le:l.length≤20
 nd:l.Nodup
 tree:h.length+1=l.length
 sm:∀s∈l,jfm l.length s
 ends:∀g∈h,g.1∈l∧ja8 g∈l
 bend:∀g∈h, -1≤g.2.2∧g.2.2≤1
 kd:KD h
 con:j09 l h
end X
end Go.Vm
namespace Go.Vm
namespace X
open W
variable {nn:Nat}
end X
end Go.Vm
namespace Go.Vm
namespace X
open W
variable {nn:Nat}
theorem khv {H:List HgT} (h:H.Pairwise ltH):H.Pairwise fun a b=>¬(a.1=b.1∧a.2.1=b.2.1):=h.imp fun {a b} hab ⟨e1,e2⟩=>by
 rcases hab with h | ⟨_,h⟩
 ·rw[e1] at h;exact jj8 _ h
 ·rw[j4s.2 e2] at h;omega
theorem j3p:∀p∈RU,jcc 0 p=some (jhm p.1 p.2)∧jcc 0 (jhm p.1 p.2,p.1)=some p.2:=by decide +kernel
theorem juo {p:List Int×List Int} (h:p∈RU):jcc (fu nn) (p.1,p.2)=some (jhm p.1 p.2):=(j3p _ h).1
theorem j78 {a b:List Int}:(jhm a b).length=3:=rfl
theorem j22 {a b:List Int} {k:Int} (ha:∀i:Nat,i<3→ -1000000≤a.getD i 0∧a.getD i 0≤1000000) (hb:∀i:Nat,i<3→ -1≤b.getD i 0∧b.getD i 0≤1) (hk:k=1∨k= -1):jc0 (fu nn) (a,(b,k))=some (jzl a b k):=by
 unfold jc0
 have a0:=ha 0 (by omega);have a1:=ha 1 (by omega);have a2:=ha 2 (by omega)
 have b0:=hb 0 (by omega);have b1:=hb 1 (by omega);have b2:=hb 2 (by omega)
 have m:∀z:Int, -1≤z∧z≤1→ -1≤k*z∧k*z≤1:=fun z hz=>by
  rcases hk with rfl | rfl<;>omega
 have m0:=m _ b0;have m1:=m _ b1;have m2:=m _ b2
 simp only
 rw[jgv (jaq (by omega) (by omega)),jgv (jaq (by omega) (by omega)),jgv (jaq (by omega) (by omega)),jgv (jaq (by omega) (by omega)),jgv (jaq (by omega) (by omega)),jgv (jaq (by omega) (by omega))]
 rfl
theorem ka2:∀p∈RU,∀i,i<3→ -1≤(jhm p.1 p.2).getD i 0∧(jhm p.1 p.2).getD i 0≤1:=by decide +kernel
theorem eq3 {a b:List Int} (ha:a.length=3) (hb:b.length=3):(decide (a.getD 0 0=b.getD 0 0)&&(decide (a.getD 1 0=b.getD 1 0)&&decide (a.getD 2 0=b.getD 2 0)))=decide (a=b):=by
 rw[Bool.eq_iff_iff]
 simp only[Bool.and_eq_true,decide_eq_true_eq]
 constructor
 ·rintro ⟨h0,h1,h2⟩
  exact kan ha hb h0 h1 h2
 ·rintro rfl
  exact⟨rfl,rfl,rfl⟩
theorem ki8 {σ β:Type} (k:σ→Option β) (f:(σ→Option β)→Option β):jn k f=f k:=rfl
theorem j1t {B B':Int} {f g:FrT} {h:HgT} (hf:FrOK B f) (hB:B≤1000) (hg:FrOK B' g) (hb: -1≤h.2.2∧h.2.2≤1):jdk (fu nn) (f,(g,h))=some (decide (ovF f h=g)):=by
 obtain⟨l1,l2⟩:=jiv _ hf.ru
 obtain⟨m1,m2⟩:=jiv _ hg.ru
 obtain⟨u1,u2⟩:=jl4 _ hf.ru
 have b1:=(jgs _ u1).2
 have b2:=(jgs _ u2).2
 have bv:=ka2 _ hf.ru
 have ha:∀i:Nat,i<3→ -1000000≤f.1.getD i 0∧f.1.getD i 0≤1000000:=fun i hi=>by have:=hf.lo i hi;have:=hf.hi i hi;omega
 obtain⟨r1,r2,_,_⟩:=jn6 _ hf.ru _ (jev hb)
 have c1:=(jiv _ r1).2
 have c2:=(jiv _ r2).1
 have z3:∀i:Nat,i<3→ -1000000≤([0,0,0]:List Int).getD i 0∧([0,0,0]:List Int).getD i 0≤1000000:=by decide
 have pr:jcc (fu nn) (f.2.1,f.2.2)=some (jhm f.2.1 f.2.2):=juo hf.ru
 unfold jdk
 simp only[ki8]
 rw[jko hf.len,jko l1,jko l2,pr,Option.bind_some,jko j78]
 obtain⟨fa,fr,fp⟩:=f
 obtain⟨ga,gr,gp⟩:=g
 obtain⟨hs,hu,hd⟩:=h
 simp only at *
 have fin:∀(x y gx gy:List Int) (xl:x.length=3) (yl:y.length=3) (gxl:gx.length=3) (gyl:gy.length=3) (al:List Int) (hal:∀i:Nat,i<3→ -1≤al.getD i 0∧al.getD i 0≤1),
   ((jc0 (fu nn) (fa,al,1)).bind fun r5=>bif !(decide (ga.getD 0 0=r5.getD 0 0)&&(decide (ga.getD 1 0=r5.getD 1 0)&&decide (ga.getD 2 0=r5.getD 2 0))) then some false else
     (bif decide (gx.getD 0 0=x.getD 0 0)&&(decide (gx.getD 1 0=x.getD 1 0)&&decide (gx.getD 2 0=x.getD 2 0)) then some (decide (gy.getD 0 0=y.getD 0 0)&&(decide (gy.getD 1 0=y.getD 1 0)&&decide (gy.getD 2 0=y.getD 2 0))) else some false))=some (decide (jzl fa al 1=ga∧x=gx∧y=gy)):=by
  intro x y gx gy xl yl gxl gyl al hal
  rw[j22 ha hal (.inl rfl),Option.bind_some,eq3 hg.len jod,eq3 gxl xl,eq3 gyl yl]
  by_cases e1:ga=jzl fa al 1
  ·by_cases e2:gx=x
   ·by_cases e3:gy=y
    ·simp[e1,e2,e3]
    ·simp[e1,e2,e3,Ne.symm e3]
   ·simp[e1,e2,Ne.symm e2]
  ·simp[e1,Ne.symm e1]
 have nx:∀d:List Int,d.length=3→∀k:(Int×Int×Int)→Option Bool,(bif decide (hd≠0) then chk (jap hd) ((jc0 (fu nn) ([0,0,0],jhm fr fp,hd)).bind fun r4=>k (r4.getD 0 0,r4.getD 1 0,r4.getD 2 0)) else k (d.getD 0 0,d.getD 1 0,d.getD 2 0))=k ((jgp d (jhm fr fp) hd).getD 0 0,(jgp d (jhm fr fp) hd).getD 1 0,(jgp d (jhm fr fp) hd).getD 2 0):=by
  intro d dl k
  unfold jgp
  by_cases hz:hd=0
  ·rw[if_pos hz,decide_eq_false (by simp[hz]),cond_false]
  ·rw[if_neg hz,decide_eq_true hz,cond_true,jgv (jaq (by omega) (by omega)),j22 z3 bv (by omega),Option.bind_some]
 cases hu with
 | true=>
   simp only[cond_true]
   refine(nx fp l2 (fun x3=>(jc0 (fu nn) (fa,fp,1)).bind fun r5=>bif !(decide (ga.getD 0 0=r5.getD 0 0)&&(decide (ga.getD 1 0=r5.getD 1 0)&&decide (ga.getD 2 0=r5.getD 2 0))) then some false else(bif decide (gp.getD 0 0=x3.1)&&(decide (gp.getD 1 0=x3.2.1)&&decide (gp.getD 2 0=x3.2.2)) then some (decide (gr.getD 0 0=fr.getD 0 0)&&(decide (gr.getD 1 0=fr.getD 1 0)&&decide (gr.getD 2 0=fr.getD 2 0))) else some false))).trans ?_
   refine(fin (jgp fp (jhm fr fp) hd) fr gp gr c1 l1 m2 m1 fp b2).trans ?_
   congr 1
   rw[Bool.eq_iff_iff]
   simp only[decide_eq_true_eq,ovF,if_true,Prod.mk.injEq]
   exact⟨fun⟨h1,h2,h3⟩=>⟨h1,h3,h2⟩,fun⟨h1,h2,h3⟩=>⟨h1,h3,h2⟩⟩
 | false=>
   simp only[cond_false]
   refine(nx fr l1 (fun x3=>(jc0 (fu nn) (fa,fr,1)).bind fun r5=>bif !(decide (ga.getD 0 0=r5.getD 0 0)&&(decide (ga.getD 1 0=r5.getD 1 0)&&decide (ga.getD 2 0=r5.getD 2 0))) then some false else(bif decide (gr.getD 0 0=x3.1)&&(decide (gr.getD 1 0=x3.2.1)&&decide (gr.getD 2 0=x3.2.2)) then some (decide (gp.getD 0 0=fp.getD 0 0)&&(decide (gp.getD 1 0=fp.getD 1 0)&&decide (gp.getD 2 0=fp.getD 2 0))) else some false))).trans ?_
   refine(fin (jgp fr (jhm fr fp) hd) fp gr gp c2 l2 m1 m2 fr b1).trans ?_
   congr 1
   rw[Bool.eq_iff_iff]
   simp[ovF]
end X
end Go.Vm
namespace Go.Vm
namespace X
open W
variable {nn:Nat}
theorem j4r (g:HgT):ka1 g=jpw g:=by
 unfold ka1 jpw
 cases g.2.1<;>rfl
def kj5 (s:List Nat):Int:=match s with
 | 45::r=> - (r.foldl (fun(a:Int) (c:Nat)=>10*a+ ((c:Int)-48)) 0)
 | r=>r.foldl (fun(a:Int) (c:Nat)=>10*a+ ((c:Int)-48)) 0
def ke3 (n:Int) (s:List Nat):Bool:=s.length.ble 3&& !(s.length.beq 0)&&s.all (fun y=>Nat.ble 33 y&&y.ble 255)&&ieq (kj5 s) n
theorem j82:((List.range 129).all fun k=>match jcd (fu nn) ((k:Int)-64) with | some s=>ke3 ((k:Int)-64) s | none=>false)=true:=by kernel_rfl
def itN (nn:Nat) (n:Int):List Nat:=(jcd (fu nn) n).getD []
theorem kg4 {n:Int} (h1: -64≤n) (h2:n≤64):jcd (fu nn) n=some (itN nn n)∧(itN nn n).length≤3∧1≤(itN nn n).length∧(∀y∈itN nn n,y<256∧33≤y)∧kj5 (itN nn n)=n:=by
 have:=List.all_eq_true.1 (j82 (nn:=nn)) (n+64).toNat (List.mem_range.2 (by omega))
 rw[show(((n+64).toNat:Nat):Int)-64=n by omega] at this
 unfold itN
 split at this
 ·rename_i s e
  rw[e]
  unfold ke3 at this
  simp only[Bool.and_eq_true,jad,jaa,decide_eq_true_eq,List.all_eq_true,jns,Bool.not_eq_true',decide_eq_false_iff_not] at this
  obtain⟨⟨⟨q1,q2⟩,q3⟩,q4⟩:=this
  exact⟨rfl,q1,by show 1≤s.length;omega,fun y hy=>by have:=q3 y hy;omega,q4⟩
 ·cases this
abbrev D64 (n:Int):Prop:= -64≤n∧n≤64
def txN (nn:Nat) (n:List SqT×List HgT):List Nat:=(tlT (itB (jcd (fu nn))) n.1 n.2).map UInt8.toNat
theorem NetOK.dS {S:List SqT} {H:List HgT} (h:NetOK S H):∀s∈S,DS D64 s:=fun s hs=>h.bd s hs
theorem NetOK.dH {S:List SqT} {H:List HgT} (h:NetOK S H):∀g∈H,DH D64 g:=fun g hg=>by
 have h1:=h.bd _ (h.ends g hg).1
 have h2:=h.bend g hg
 exact⟨h1.1,h1.2,by unfold D64;omega⟩
theorem kde {S:List SqT} {H:List HgT} (h:NetOK S H) (hH:H.length≤1000):jjl (fu nn) (S,H)=some (txN nn (S,H)):=by
 have hle:=h.le
 have hge:=h.ge
 unfold jjl j3f
 rw[jr3 h (by omega),Option.bind_some,decide_eq_true rfl,cond_true]
 have o1:ke2 S H=true:=by
  unfold ke2
  simp only[Bool.and_eq_true,jad,decide_eq_true_eq,List.all_eq_true]
  exact⟨⟨by omega,hH⟩,fun g hg=>by have:=h.bend g hg;omega⟩
 have o2:okI (jcd (fu nn)) (jqe S H)=true:=by
  unfold okI
  rw[List.all_eq_true]
  intro x hx
  have hd:D64 x:=by
   unfold jqe at hx
   rcases List.mem_append.1 hx with g | g
   ·obtain⟨s,hs,e⟩:=List.mem_flatMap.1 g
    have:=h.dS s hs
    simp only[List.mem_cons,List.not_mem_nil,or_false] at e
    rcases e with rfl | rfl
    ·exact this.1
    ·exact this.2
   ·obtain⟨s,hs,e⟩:=List.mem_flatMap.1 g
    have:=h.dH s hs
    simp only[List.mem_cons,List.not_mem_nil,or_false] at e
    rcases e with rfl | rfl | rfl
    ·exact this.1
    ·exact this.2.1
    ·exact this.2.2
  obtain⟨e,l,_⟩:=kg4 (nn:=nn) hd.1 hd.2
  rw[e]
  show(itN nn x).length.ble 100=true
  rw[jad]
  exact decide_eq_true (by omega)
 have o3:(!(List.length (α:=SqT) S).beq 0)=true:=by
  rw[jaa,decide_eq_false (by omega)]
  rfl
 simp only
 rw[o1,o2,o3]
 rfl
end X
end Go.Vm
namespace Go.Vm
namespace X
open W
variable {nn:Nat}
theorem kjp {p q:Prop} [Decidable p] [Decidable q] (h:p↔q):(decide p==decide q)=true:=by
 rw[beq_iff_eq,decide_eq_decide];exact h
structure ArgN (nn:Nat) (x:List (List Int)×(Int×Int)):Prop where
 b3:kho x.1
 fu:x.1.length≤nn
 big:x.1.length≤140737488355328
 c:0≤x.2.1∧x.2.1≤18446744073709551615
 b:0≤x.2.2∧x.2.2≤18446744073709551615
end X
end Go.Vm
