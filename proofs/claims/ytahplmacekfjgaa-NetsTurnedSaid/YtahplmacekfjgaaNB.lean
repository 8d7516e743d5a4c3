/-
  Nets: squares get their places, hinge by hinge.
  Nets: comparing, looking up, what hangs together, Check.
  Nets: what hangs together; Check; over and back.
  Nets: Place.
-/
import Derived.Test.YtahplmacekfjgaaQ7
set_option linter.unusedSimpArgs false
set_option linter.unusedVariables false
set_option linter.unusedSectionVars false
set_option linter.unnecessarySimpa false
namespace Go.Vm
namespace X
structure NetOK (S:List SqT) (H:List HgT):Prop where
 le:S.length≤64
 ge:1≤S.length
 srt:Sorted S
 bd:∀s∈S,(-64≤s.1∧s.1≤64)∧(-64≤s.2∧s.2≤64)
 hs:H.Pairwise ltH
 bend:∀h∈H, -1≤h.2.2∧h.2.2≤1
 ends:∀h∈H,h.1∈S∧othS h∈S
 con:Connd S H
abbrev frZ:FrT:=(List.replicate 3 0,(List.replicate 3 0,List.replicate 3 0))
structure Obey (S:List SqT) (H:List HgT) (l:List FrT):Prop where
 len:l.length=S.length
 first:l.getD 0 frZ=frame0
 ok:∀i:Nat,i<S.length→FrOK 64 (l.getD i frZ)
 obey:∀h∈H,ovF (l.getD (idxS S h.1).toNat frZ) h=l.getD (idxS S (othS h)).toNat frZ
theorem oth_ne (h:HgT):othS h≠h.1:=by
 obtain⟨⟨x,y⟩,u,b⟩:=h
 unfold othS
 cases u<;>simp<;>omega
structure Placed (S:List SqT) (H:List HgT) (K:List Bool) (O:List FrT):Prop where
 kl:K.length=S.length
 ol:O.length=S.length
 k0:K.getD 0 false=true
 o0:O.getD 0 frZ=frame0
 ok:∀i:Nat,i<S.length→K.getD i false=true→FrOK (K.count true) (O.getD i frZ)
 tree:∃U:List HgT,U.Nodup∧(∀h∈U,h∈H)∧U.length+1=K.count true∧∀h∈U,K.getD (idxS S h.1).toNat false=true∧K.getD (idxS S (othS h)).toNat false=true∧ovF (O.getD (idxS S h.1).toNat frZ) h=O.getD (idxS S (othS h)).toNat frZ
 uni:∀l,Obey S H l→∀i:Nat,i<S.length→K.getD i false=true→O.getD i frZ=l.getD i frZ
theorem getD_setT {α:Type} {L:List α} {i k:Nat} {v d:α} (hi:i<L.length):(L.set i v).getD k d=if k=i then v else L.getD k d:=by
 rw[List.getD,List.getD,List.getElem?_set]
 by_cases e:i=k
 ·rw[if_pos e,if_pos hi,if_pos e.symm];rfl
 ·rw[if_neg e,if_neg fun c=>e c.symm]
theorem count_setT {K:List Bool} {b:Nat} (hb:b<K.length) (h:K.getD b false=false):(K.set b true).count true=K.count true+1:=by
 have e:K[b]=false:=by rw[List.getD,List.getElem?_eq_getElem hb] at h;exact h
 rw[List.count_set hb,e]
 simp
theorem Placed.start {S:List SqT} {H:List HgT} (h:NetOK S H):Placed S H ((List.replicate S.length false).set 0 true) ((List.replicate S.length frZ).set 0 frame0):=by
 have hg:=h.ge
 have ct:((List.replicate S.length false).set 0 true).count true=1:=by
  rw[count_setT (by simp;omega) (by simp[List.getD,List.getElem?_replicate,show 0<S.length by omega])]
  simp[List.count_replicate]
 have kn:∀i:Nat,((List.replicate S.length false).set 0 true).getD i false=true→i=0:=fun i hi=>by
  rw[getD_setT (by simp;omega)] at hi
  by_cases e:i=0
  ·exact e
  ·rw[if_neg e] at hi
   simp[List.getD,List.getElem?_replicate] at hi
   split at hi<;>simp at hi
 have o0:((List.replicate S.length frZ).set 0 frame0).getD 0 frZ=frame0:=by rw[getD_setT (by simp;omega),if_pos rfl]
 refine⟨by simp,by simp,by rw[getD_setT (by simp;omega),if_pos rfl],o0,fun i hi hk=>?_,⟨[],List.nodup_nil,fun h hh=>by simp at hh,by rw[ct];rfl,fun h hh=>by simp at hh⟩,fun l hl i hi hk=>?_⟩
 ·rw[kn i hk,o0]
  exact frame0_ok.mono (by omega)
 ·rw[kn i hk,o0,hl.first]
theorem Placed.step {S:List SqT} {H:List HgT} {K:List Bool} {O:List FrT} (hn:NetOK S H) (hp:Placed S H K O) {h:HgT} (hh:h∈H) {a b:Nat} {F:FrT}
  (hab:(a=(idxS S h.1).toNat∧b=(idxS S (othS h)).toNat∧F=ovF (O.getD a frZ) h)∨(b=(idxS S h.1).toNat∧a=(idxS S (othS h)).toNat∧F=bkF (O.getD a frZ) h))
  (ha:K.getD a false=true) (hb:K.getD b false=false):Placed S H (K.set b true) (O.set b F):=by
 obtain⟨e1,e2⟩:=hn.ends h hh
 have i1:=at_idxS e1
 have i2:=at_idxS e2
 have hbd:=hn.bend h hh
 have hlt:a<S.length∧b<S.length:=by rcases hab with⟨rfl,rfl,_⟩ | ⟨rfl,rfl,_⟩<;>omega
 have hk:=hp.kl
 have ho:=hp.ol
 have ct:=count_setT (K:=K) (b:=b) (by omega) hb
 have hne:a≠b:=fun e=>by rw[e] at ha;rw[ha] at hb;cases hb
 have fa:=hp.ok a hlt.1 ha
 have fF:FrOK (K.count true+1) F:=by
  rcases hab with⟨_,_,rfl⟩ | ⟨_,_,rfl⟩
  ·exact fa.ov hbd
  ·exact fa.bk hbd
 have kn:∀i:Nat,(K.set b true).getD i false=true→i=b∨(i≠b∧K.getD i false=true):=fun i hi=>by
  rw[getD_setT (by omega)] at hi
  by_cases e:i=b
  ·exact .inl e
  ·rw[if_neg e] at hi;exact .inr ⟨e,hi⟩
 have b0:b≠0:=fun e=>by rw[e,hp.k0] at hb;cases hb
 have obeyed:ovF ((O.set b F).getD (idxS S h.1).toNat frZ) h=(O.set b F).getD (idxS S (othS h)).toNat frZ:=by
  rw[getD_setT (by omega),getD_setT (by omega)]
  rcases hab with⟨h1,h2,rfl⟩ | ⟨h1,h2,rfl⟩
  ·rw[←h1,←h2,if_neg hne,if_pos rfl]
  ·rw[←h1,←h2,if_pos rfl,if_neg hne,ov_bk fa hbd]
 refine⟨by simp[hk],by simp[ho],?_,?_,fun i hi hki=>?_,?_,fun l hl i hi hki=>?_⟩
 ·rw[getD_setT (by omega),if_neg fun e=>b0 e.symm];exact hp.k0
 ·rw[getD_setT (by omega),if_neg fun e=>b0 e.symm];exact hp.o0
 ·rw[getD_setT (by omega),ct]
  rcases kn i hki with e | ⟨e,hk2⟩
  ·rw[if_pos e];exact fF
  ·rw[if_neg e];exact(hp.ok i hi hk2).mono (by omega)
 ·obtain⟨U,u1,u2,u3,u4⟩:=hp.tree
  have hU:h∉U:=fun c=>by
   obtain⟨c1,c2,_⟩:=u4 h c
   rcases hab with⟨h1,h2,_⟩ | ⟨h1,h2,_⟩
   ·rw[←h2,hb] at c2;cases c2
   ·rw[←h1,hb] at c1;cases c1
  refine⟨h::U,List.nodup_cons.2 ⟨hU,u1⟩,fun g hg=>?_,by rw[ct,List.length_cons];omega,fun g hg=>?_⟩
  ·rcases List.mem_cons.1 hg with e | e
   ·rw[e];exact hh
   ·exact u2 g e
  ·rcases List.mem_cons.1 hg with e | e
   ·subst e
    refine⟨?_,?_,obeyed⟩
    ·rw[getD_setT (by omega)]
     rcases hab with⟨h1,h2,_⟩ | ⟨h1,h2,_⟩
     ·rw[←h1,if_neg hne];exact ha
     ·rw[←h1,if_pos rfl]
    ·rw[getD_setT (by omega)]
     rcases hab with⟨h1,h2,_⟩ | ⟨h1,h2,_⟩
     ·rw[←h2,if_pos rfl]
     ·rw[←h2,if_neg hne];exact ha
   ·obtain⟨c1,c2,c3⟩:=u4 g e
    have n1:(idxS S g.1).toNat≠b:=fun c=>by rw[c,hb] at c1;cases c1
    have n2:(idxS S (othS g)).toNat≠b:=fun c=>by rw[c,hb] at c2;cases c2
    rw[getD_setT (by omega),getD_setT (by omega),getD_setT (by omega),getD_setT (by omega),if_neg n1,if_neg n2,if_neg n1,if_neg n2]
    exact⟨c1,c2,c3⟩
 ·rw[getD_setT (by omega)]
  rcases kn i hki with e | ⟨e,hk2⟩
  ·rw[if_pos e,e]
   have ua:=hp.uni l hl a hlt.1 ha
   have oh:=hl.obey h hh
   rcases hab with⟨h1,h2,rfl⟩ | ⟨h1,h2,rfl⟩
   ·rw[ua,h1,h2];exact oh
   ·rw[ua,h1,h2,←oh]
    exact bk_ov (hl.ok _ (by omega)) hbd
  ·rw[if_neg e];exact hp.uni l hl i hi hk2
theorem Placed.all {S:List SqT} {H:List HgT} {K:List Bool} {O:List FrT} (hn:NetOK S H) (hp:Placed S H K O) (hc:∀h∈H,K.getD (idxS S h.1).toNat false=K.getD (idxS S (othS h)).toNat false):∀i:Nat,i<S.length→K.getD i false=true:=fun i hi=>by
 have hge:=hn.ge
 have h0:S.getD 0 (0,0)∈S:=by rw[List.getD,List.getElem?_eq_getElem (by omega)];exact List.getElem_mem _
 have:=hn.con (fun s=>K.getD (idxS S s).toNat false=true) ⟨_,h0,by
  have:=idxS_at hn.srt.nodup (i:=0) (by omega)
  rw[this];exact hp.k0⟩ (fun h hh=>by rw[hc h hh]) (S.getD i (0,0)) (by rw[List.getD,List.getElem?_eq_getElem hi];exact List.getElem_mem _)
 have e:=idxS_at hn.srt.nodup hi
 simp only[e,Int.toNat_natCast] at this
 exact this
theorem count_le {K:List Bool}:K.count true≤K.length:=List.count_le_length
theorem count_of_all {K:List Bool} (h:∀i:Nat,i<K.length→K.getD i false=true):K.count true=K.length:=by
 rw[List.count_eq_length]
 intro x hx
 obtain⟨i,hi,rfl⟩:=List.mem_iff_getElem.1 hx
 have:=h i hi
 rw[List.getD,List.getElem?_eq_getElem hi] at this
 exact this.symm
end X
end Go.Vm
namespace Go.Vm
namespace X
open W
variable {nn:Nat}
theorem chk_t {β:Type} {c:Bool} {x:Option β} (h:c=true):chk c x=x:=by rw[h];rfl
theorem cmp_Compare_ok (a b:Int):cmp_Compare_int (fu nn) (a,b)=some (if a<b then -1 else if b<a then 1 else 0):=by
 unfold cmp_Compare_int cmp_isNaN_int
 simp only[ne_eq,not_true_eq_false,decide_false,Option.bind_some,cond_false]
 by_cases h:a<b
 ·rw[decide_eq_true h,cond_true,if_pos h]
 ·rw[decide_eq_false h,cond_false,if_neg h]
  by_cases g:b<a
  ·rw[decide_eq_true g,cond_true,if_pos g]
  ·rw[decide_eq_false g,cond_false,if_neg g]
theorem cmp_Or_ok (a b:Int):cmp_Or_int (fu nn) [a,b]=some (if a≠0 then a else b):=by
 apply Ret.eq
 unfold cmp_Or_int
 have l2:((List.length [a,b]:Nat):Int)=2:=rfl
 have g0:[a,b].getD (Int.toNat 0) 0=a:=rfl
 have g1:[a,b].getD (Int.toNat 1) 0=b:=rfl
 refine Ret_loop (Inv:=fun i:Int=>i=0∨(a=0∧(i=1∨(i=2∧b=0)))) (m:=fun i=>(2-i).toNat) ?_ _ _ (.inl rfl) (by simp only[fu];omega)
 rintro i rec hi ih
 rcases hi with rfl | ⟨ha,rfl | ⟨rfl,hb⟩⟩
 ·refine Ret_dec (fun _=>Ret_chk (by rfl) ?_) fun g=>absurd (show(0:Int)< ((List.length [a,b]:Nat):Int) by rw[l2];decide) g
  rw[g0]
  refine Ret_dec (fun g=>Ret_some ?_) fun g=>Ret_chk (by rfl) (ih _ (.inr ⟨Classical.not_not.1 g,.inl rfl⟩) (by decide))
  rw[if_pos g]
 ·refine Ret_dec (fun _=>Ret_chk (by rfl) ?_) fun g=>absurd (show(1:Int)< ((List.length [a,b]:Nat):Int) by rw[l2];decide) g
  rw[g1]
  refine Ret_dec (fun g=>Ret_some ?_) fun g=>Ret_chk (by rfl) (ih _ (.inr ⟨ha,.inr ⟨rfl,Classical.not_not.1 g⟩⟩) (by decide))
  rw[if_neg fun c=>c ha]
 ·refine Ret_dec (fun g=>absurd g (show ¬(2:Int)< ((List.length [a,b]:Nat):Int) by rw[l2];decide)) fun _=>Ret_some ?_
  rw[if_neg fun c=>c ha,hb]
theorem compare_ok (s t:SqT):nets_Square_compare (fu nn) (s,t)=some (cmpS s t):=by
 unfold nets_Square_compare
 simp only
 rw[cmp_Compare_ok,Option.bind_some,cmp_Compare_ok,Option.bind_some,cmp_Or_ok,Option.bind_some]
 congr 1
 obtain⟨x,y⟩:=s
 obtain⟨u,v⟩:=t
 unfold cmpS ltS
 simp only[Prod.mk.injEq]
 rcases Int.lt_trichotomy y v with h | h | h
 ·rw[if_pos h,if_pos (by decide),if_pos (.inl h)]
 ·subst h
  rw[if_neg (Int.lt_irrefl _),if_neg (Int.lt_irrefl _),if_neg (by decide)]
  rcases Int.lt_trichotomy x u with g | g | g
  ·rw[if_pos g,if_pos (.inr ⟨rfl,g⟩)]
  ·subst g
   rw[if_neg (Int.lt_irrefl _),if_neg (Int.lt_irrefl _),if_neg (by omega),if_pos ⟨rfl,rfl⟩]
  ·rw[if_neg (by omega),if_pos g,if_neg (by omega),if_neg (by omega)]
 ·rw[if_neg (show ¬y<v by omega),if_pos h,if_pos (by decide),if_neg (by omega),if_neg (by omega)]
theorem cmpS_lt {s t:SqT}:cmpS s t<0↔ltS s t:=by
 unfold cmpS
 by_cases h:ltS s t
 ·rw[if_pos h];simp[h]
 ·rw[if_neg h]
  by_cases g:s=t
  ·rw[if_pos g];simp[h]
  ·rw[if_neg g];simp[h]
theorem cmpS_eq {s t:SqT}:cmpS s t=0↔s=t:=by
 unfold cmpS
 by_cases h:ltS s t
 ·rw[if_pos h]
  refine⟨fun c=>by omega,fun c=>by subst c;exact absurd h (ltS_irr s)⟩
 ·rw[if_neg h]
  by_cases g:s=t
  ·rw[if_pos g];simp[g]
  ·rw[if_neg g];simp[g]
theorem way_ok (h:HgT):nets_Hinge_way (fu nn) h=some (wayH h):=by
 unfold nets_Hinge_way wayH
 cases h.2.1<;>rfl
theorem other_ok {h:HgT} (hb: -1000000≤h.1.1∧h.1.1≤1000000∧ -1000000≤h.1.2∧h.1.2≤1000000):nets_Hinge_other (fu nn) h=some (othS h):=by
 unfold nets_Hinge_other othS
 cases h.2.1 with
 | true=>rw[cond_true,chk_t (i64b_t (by omega) (by omega))];rfl
 | false=>rw[cond_false,chk_t (i64b_t (by omega) (by omega))];rfl
theorem place_cmp (g h:HgT):∃r,nets_Hinge_place (fu nn) (g,h)=some r∧(0≤r↔¬ltH g h):=by
 unfold nets_Hinge_place
 simp only
 rw[show nets_Square_compare (fu nn) ((g.1.1,g.1.2),(h.1.1,h.1.2))=some (cmpS g.1 h.1) from compare_ok _ _,Option.bind_some,show nets_Hinge_way (fu nn) ((g.1.1,g.1.2),(g.2.1,g.2.2))=some (wayH g) from way_ok _,Option.bind_some,
  show nets_Hinge_way (fu nn) ((h.1.1,h.1.2),(h.2.1,h.2.2))=some (wayH h) from way_ok _,Option.bind_some,cmp_Compare_ok,Option.bind_some,cmp_Or_ok,Option.bind_some]
 refine⟨_,rfl,?_⟩
 unfold ltH
 rcases ltS_tri g.1 h.1 with c | c | c
 ·have:=cmpS_lt.2 c
  rw[if_pos (by omega)]
  refine⟨fun a=>by omega,fun a=>absurd (.inl c) a⟩
 ·have e:=cmpS_eq.2 c
  have nl:¬ltS g.1 h.1:=by rw[c];exact ltS_irr _
  rw[if_neg fun a=>a e]
  by_cases k:wayH g<wayH h
  ·rw[if_pos k]
   exact⟨fun a=>by omega,fun a=>absurd (.inr ⟨c,k⟩) a⟩
  ·rw[if_neg k]
   refine⟨fun _ a=>?_,fun _=>by split<;>omega⟩
   rcases a with a | a
   ·exact nl a
   ·exact k a.2
 ·have n1:¬ltS g.1 h.1:=fun a=>ltS_irr _ (ltS_trans a c)
  have n2:g.1≠h.1:=fun a=>by rw[a] at c;exact ltS_irr _ c
  have e1:¬cmpS g.1 h.1<0:=fun a=>n1 (cmpS_lt.1 a)
  have e2:cmpS g.1 h.1≠0:=fun a=>n2 (cmpS_eq.1 a)
  rw[if_pos e2]
  refine⟨fun _ a=>?_,fun _=>by omega⟩
  rcases a with a | a
  ·exact n1 a
  ·exact n2 a.1
theorem half {z:Int} (h0:0≤z) (h1:z≤1000000):(IntKind.u64.wrap z).fdiv (2^ (min (1:Int).toNat (IntKind.u64).bits))=z / 2:=by
 rw[show IntKind.u64.wrap z=z by simp[IntKind.wrap,IntKind.bits,IntKind.signed];omega,show((2:Int)^ (min (1:Int).toNat (IntKind.u64).bits))=2 by decide,Int.fdiv_eq_ediv_of_nonneg _ (by omega)]
theorem getD_memS {L:List SqT} {i:Nat} (h:i<L.length):L.getD i (0,0)∈L:=by rw[List.getD,List.getElem?_eq_getElem h];exact List.getElem_mem _
theorem Sorted.lt {L:List SqT} (h:Sorted L) {i j:Nat} (hij:i<j) (hj:j<L.length):ltS (L.getD i (0,0)) (L.getD j (0,0)):=by
 rw[List.getD,List.getElem?_eq_getElem (by omega),List.getD,List.getElem?_eq_getElem hj]
 exact List.pairwise_iff_getElem.1 h i j (by omega) hj hij
theorem search_ok {L:List SqT} (hL:Sorted L) (hl:L.length≤10000) (s:SqT):Ret (slices_BinarySearchFunc_nets_Square (fu nn) (L,(s,()))) fun r=>(r.2=true→r.1=idxS L s)∧(r.2=false→s∉L):=by
 unfold slices_BinarySearchFunc_nets_Square
 refine Ret_loop (Inv:=fun x:Int×Int=>0≤x.1∧x.1≤x.2∧x.2≤L.length∧(∀k:Nat,(k:Int)<x.1→ltS (L.getD k (0,0)) s)∧∀k:Nat,x.2≤(k:Int)→k<L.length→¬ltS (L.getD k (0,0)) s) (m:=fun x=>(x.2-x.1).toNat) ?_ _ _ ⟨by simp,by simp,by simp,fun k hk=>by simp only at hk;omega,fun k hk h2=>by simp only at hk;omega⟩ (by simp only[fu];omega)
 rintro ⟨i,j⟩ rec ⟨i1,i2,i3,i4,i5⟩ ih
 simp only at i1 i2 i3 i4 i5 ⊢
 refine Ret_dec (fun hlt=>?_) fun hge=>?_
 ·rw[half (by omega) (by omega)]
  refine Ret_chk (i64b_t (by omega) (by omega)) (Ret_chk (i64b_t (by omega) (by omega)) (Ret_chk (inb_t (by omega) (by omega)) ?_))
  rw[show nets_Square_compare (fu nn) (((L.getD ((i+j) / 2).toNat (0,0)).1,(L.getD ((i+j) / 2).toNat (0,0)).2),(s.1,s.2))=some (cmpS (L.getD ((i+j) / 2).toNat (0,0)) s) from compare_ok _ _,Option.bind_some]
  refine Ret_dec (fun g=>?_) fun g=>?_
  ·have hm:=cmpS_lt.1 g
   refine Ret_chk (i64b_t (by omega) (by omega)) (ih _ ⟨by simp only;omega,by simp only;omega,by simp only;omega,fun k hk=>?_,i5⟩ (by simp only;omega))
   simp only at hk
   by_cases e:k=((i+j) / 2).toNat
   ·rw[e];exact hm
   ·exact ltS_trans (hL.lt (i:=k) (j:=((i+j) / 2).toNat) (by omega) (by omega)) hm
  ·have hm:¬ltS (L.getD ((i+j) / 2).toNat (0,0)) s:=fun c=>g (cmpS_lt.2 c)
   refine ih _ ⟨by simp only;omega,by simp only;omega,by simp only;omega,i4,fun k hk h2 c=>?_⟩ (by simp only;omega)
   simp only at hk
   by_cases e:k=((i+j) / 2).toNat
   ·rw[e] at c;exact hm c
   ·exact hm (ltS_trans (hL.lt (i:=((i+j) / 2).toNat) (j:=k) (by omega) h2) c)
 ·have hno:∀k:Nat,k<L.length→L.getD k (0,0)=s→(k:Int)=i:=fun k hk e=>by
   by_cases c1:(k:Int)<i
   ·have:=i4 k c1
    rw[e] at this
    exact absurd this (ltS_irr s)
   ·by_cases c2:(k:Int)=i
    ·exact c2
    ·have:=hL.lt (i:=i.toNat) (j:=k) (by omega) hk
     rw[e] at this
     exact absurd this (i5 i.toNat (by omega) (by omega))
  refine Ret_dec (fun hlt=>?_) fun hge2=>?_
  ·refine Ret_chk (inb_t (by omega) (by omega)) ?_
   rw[show nets_Square_compare (fu nn) (((L.getD i.toNat (0,0)).1,(L.getD i.toNat (0,0)).2),(s.1,s.2))=some (cmpS (L.getD i.toNat (0,0)) s) from compare_ok _ _,Option.bind_some]
   refine Ret_some ⟨fun h=>?_,fun h=>?_⟩
   ·have e:=cmpS_eq.1 (of_decide_eq_true h)
    have:=idxS_at hL.nodup (i:=i.toNat) (by omega)
    rw[e] at this
    simp only
    omega
   ·have e:L.getD i.toNat (0,0)≠s:=fun c=>of_decide_eq_false h (cmpS_eq.2 c)
    intro hs
    obtain⟨a,b,c⟩:=at_idxS hs
    have:=hno _ b c
    rw[show(idxS L s).toNat=i.toNat by omega] at c
    exact e c
  ·refine Ret_some ⟨fun h=>(by cases h),fun _ hs=>?_⟩
   obtain⟨a,b,c⟩:=at_idxS hs
   have:=hno _ b c
   omega
theorem index_ok {L:List SqT} {H:List HgT} (hL:Sorted L) (hl:L.length≤10000) (s:SqT):nets_Net_index (fu nn) ((L,H),s)=some (idxS L s):=by
 apply Ret.eq
 unfold nets_Net_index
 refine Ret_bind (search_ok hL hl s) fun r ⟨h1,h2⟩=>?_
 cases hr:r.2 with
 | true=>exact Ret_bif (fun g=>by cases g) fun _=>Ret_some (h1 hr)
 | false=>
   refine Ret_bif (fun _=>Ret_some ?_) fun g=>by cases g
   have:=h2 hr
   rw[idxS,if_neg this]
theorem containsI_ok {p:List Int} (hl:p.length≤10000) (x:Int):slices_Contains_int (fu nn) (p,x)=some (decide (x∈p)):=by
 apply Ret.eq
 unfold slices_Contains_int
 have key:Ret (slices_Index_int (fu nn) (p,x)) fun r=>(0≤r↔x∈p):=by
  unfold slices_Index_int
  simp only
  refine Ret_loop (Inv:=fun i:Int=>0≤i∧i≤p.length∧∀k:Nat,(k:Int)<i→p.getD k 0≠x) (m:=fun i=>((p.length:Int)-i).toNat) ?_ _ _ ⟨by simp,by simp,fun k hk=>by omega⟩ (by simp only[fu];omega)
  rintro i rec ⟨i1,i2,i3⟩ ih
  refine Ret_dec (fun hlt=>?_) fun hge=>?_
  ·refine Ret_chk (inb_t (by omega) (by omega)) (Ret_dec (fun g=>Ret_some ?_) fun g=>Ret_chk (i64b_t (by omega) (by omega)) (ih _ ⟨by omega,by omega,fun k hk=>?_⟩ (by omega)))
   ·exact⟨fun _=>by rw[g];exact getD_mem (by omega),fun _=>i1⟩
   ·by_cases e:(k:Int)=i
    ·rw[show k=i.toNat by omega];exact fun c=>g c.symm
    ·exact i3 k (by omega)
  ·refine Ret_some ⟨fun c=>by omega,fun c=>?_⟩
   obtain⟨k,hk,e⟩:=List.mem_iff_getElem.1 c
   have:=i3 k (by omega)
   rw[List.getD,List.getElem?_eq_getElem hk] at this
   exact absurd e this
 refine Ret_bind key fun r hr=>Ret_some ?_
 rw[decide_eq_decide]
 exact hr
end X
end Go.Vm
namespace Go.Vm
namespace X
open W
variable {nn:Nat}
theorem len_sub {α:Type}:∀ {l p:List α},l.Nodup→(∀x∈l,x∈p)→l.length≤p.length
 | [],p,_,_=>Nat.zero_le _
 | a::l,p,hn,h=>by
   obtain⟨h1,h2⟩:=List.nodup_cons.1 hn
   obtain⟨A,B,rfl⟩:=List.append_of_mem (h a List.mem_cons_self)
   have:=len_sub (l:=l) (p:=A++B) h2 fun x hx=>by
    have:=h x (List.mem_cons_of_mem _ hx)
    simp only[List.mem_append,List.mem_cons] at this ⊢
    rcases this with g | g | g
    ·exact .inl g
    ·subst g;exact absurd hx h1
    ·exact .inr g
   rw[List.length_append] at this
   rw[List.length_cons,List.length_append,List.length_cons]
   omega
abbrev hZ:HgT:=((0,0),(false,0))
theorem getD_memH {H:List HgT} {i:Nat} (h:i<H.length):H.getD i hZ∈H:=by rw[List.getD,List.getElem?_eq_getElem h];exact List.getElem_mem _
structure Ends (S:List SqT) (H:List HgT):Prop where
 srt:Sorted S
 le:S.length≤64
 bd:∀s∈S,(-64≤s.1∧s.1≤64)∧(-64≤s.2∧s.2≤64)
 ends:∀h∈H,h.1∈S∧othS h∈S
theorem NetOK.ends' {S:List SqT} {H:List HgT} (h:NetOK S H):Ends S H:=⟨h.srt,h.le,h.bd,h.ends⟩
theorem Ends.other {S:List SqT} {H:List HgT} (h:Ends S H) {g:HgT} (hg:g∈H):nets_Hinge_other (fu nn) g=some (othS g):=by
 have:=h.bd _ (h.ends g hg).1
 exact other_ok (by omega)
def upto (n:Nat):List Int:=(List.range n).map Int.ofNat
theorem mem_upto {n:Nat} {x:Int}:x∈upto n↔0≤x∧x<n:=by
 simp only[upto,List.mem_map,List.mem_range]
 constructor
 ·rintro ⟨a,h,rfl⟩;exact⟨by simp,by simp;omega⟩
 ·intro h;exact⟨x.toNat,by omega,by simp;omega⟩
theorem joined_ok {S:List SqT} {H:List HgT} (h:Ends S H) (hne:1≤S.length) (hH:H.length≤10000):Ret (nets_Net_joined (fu nn) (S,H)) fun o=>o.Nodup∧(∀x∈o,0≤x∧x<S.length)∧(0:Int)∈o∧∀g∈H,(idxS S g.1∈o↔idxS S (othS g)∈o):=by
 have hle:=h.le
 unfold nets_Net_joined
 refine Ret_loop (Inv:=fun x:List Int×Int=>0≤x.2∧x.2≤x.1.length∧x.1.Nodup∧(∀y∈x.1,0≤y∧y<S.length)∧(0:Int)∈x.1∧∀m:Nat,(m:Int)<x.2→∀g∈H,(idxS S g.1=x.1.getD m 0→idxS S (othS g)∈x.1)∧(idxS S (othS g)=x.1.getD m 0→idxS S g.1∈x.1)) (m:=fun x=>((S.length:Int)-x.2).toNat) ?_ _ _ ⟨by simp,by simp,by simp,fun y hy=>by simp at hy;omega,by simp,fun m hm=>by simp only at hm;omega⟩ (by simp only[fu];omega)
 rintro ⟨o,k⟩ rec ⟨i1,i2,i3,i4,i5,i6⟩ ih
 simp only at i1 i2 i3 i4 i5 i6 ⊢
 have cnt:∀q:List Int,q.Nodup→(∀y∈q,0≤y∧y<S.length)→q.length≤S.length:=fun q a b=>by
  have:=len_sub a (p:=upto S.length) fun x hx=>mem_upto.2 (b x hx)
  simpa[upto] using this
 have hol:=cnt o i3 i4
 refine Ret_dec (fun hlt=>?_) fun hge=>?_
 ·refine Ret_loop (Inv:=fun x:List Int×Int=>0≤x.2∧x.2≤H.length∧x.1.Nodup∧(∀y∈x.1,0≤y∧y<S.length)∧(∃more,x.1=o++more)∧∀m:Nat,(m:Int)<x.2→(idxS S (H.getD m hZ).1=o.getD k.toNat 0→idxS S (othS (H.getD m hZ))∈x.1)∧(idxS S (othS (H.getD m hZ))=o.getD k.toNat 0→idxS S (H.getD m hZ).1∈x.1)) (m:=fun x=>((H.length:Int)-x.2).toNat) ?_ _ _ ⟨by simp,by simp,i3,i4,⟨[],by simp⟩,fun m hm=>by simp only at hm;omega⟩ (by simp only[fu];omega)
  rintro ⟨p,i⟩ rec2 ⟨j1,j2,j3,j4,⟨more,j5⟩,j6⟩ ih2
  simp only at j1 j2 j3 j4 j5 j6 ⊢
  have hpl:=cnt p j3 j4
  have gk:p.getD k.toNat 0=o.getD k.toNat 0:=by rw[j5,List.getD,List.getD,List.getElem?_append_left (by omega)]
  have hpo:o.length≤p.length:=by rw[j5,List.length_append];omega
  refine Ret_dec (fun hlt2=>?_) fun hge2=>?_
  ·have hg:=getD_memH (H:=H) (i:=i.toNat) (by omega)
   obtain⟨e1,e2⟩:=h.ends _ hg
   refine Ret_chk (inb_t (by omega) (by omega)) ?_
   rw[show nets_Net_index (fu nn) ((S,H),((H.getD i.toNat hZ).1.1,(H.getD i.toNat hZ).1.2))=some (idxS S (H.getD i.toNat hZ).1) from index_ok h.srt (by omega) _,Option.bind_some,
    show nets_Hinge_other (fu nn) (((H.getD i.toNat hZ).1.1,(H.getD i.toNat hZ).1.2),((H.getD i.toNat hZ).2.1,(H.getD i.toNat hZ).2.2))=some (othS (H.getD i.toNat hZ)) from h.other hg,Option.bind_some,
    show nets_Net_index (fu nn) ((S,H),((othS (H.getD i.toNat hZ)).1,(othS (H.getD i.toNat hZ)).2))=some (idxS S (othS (H.getD i.toNat hZ))) from index_ok h.srt (by omega) _,Option.bind_some]
   have a1:=at_idxS e1
   have a2:=at_idxS e2
   have hne':idxS S (H.getD i.toNat hZ).1≠idxS S (othS (H.getD i.toNat hZ)):=fun c=>oth_ne _ (idxS_inj e1 e2 c).symm
   refine Ret_chk (inb_t (by omega) (by omega)) ?_
   rw[gk]
   have nxt:∀q:List Int,q.Nodup→(∀y∈q,0≤y∧y<S.length)→(∃more',q=p++more')→((idxS S (H.getD i.toNat hZ).1=o.getD k.toNat 0→idxS S (othS (H.getD i.toNat hZ))∈q)∧(idxS S (othS (H.getD i.toNat hZ))=o.getD k.toNat 0→idxS S (H.getD i.toNat hZ).1∈q))→Ret (chk (i64b (i+1)) (rec2 (q,i+1))) fun o=>o.Nodup∧(∀x∈o,0≤x∧x<S.length)∧(0:Int)∈o∧∀g∈H,(idxS S g.1∈o↔idxS S (othS g)∈o):=fun q q1 q2 ⟨more',q3⟩ q4=>by
    refine Ret_chk (i64b_t (by omega) (by omega)) (ih2 _ ⟨by simp only;omega,by simp only;omega,q1,q2,⟨more++more',by simp only;rw[q3,j5,List.append_assoc]⟩,fun m hm=>?_⟩ (by simp only;omega))
    simp only at hm ⊢
    by_cases e:(m:Int)=i
    ·rw[show m=i.toNat by omega];exact q4
    ·have:=j6 m (by omega)
     exact⟨fun c=>by rw[q3];exact List.mem_append_left _ (this.1 c),fun c=>by rw[q3];exact List.mem_append_left _ (this.2 c)⟩
   generalize idxS S (H.getD i.toNat hZ).1=a at *
   generalize idxS S (othS (H.getD i.toNat hZ))=b at *
   have add:∀y:Int,(0≤y∧y<S.length)→(∀q:List Int,y∈q→(a=o.getD k.toNat 0→b∈q)∧(b=o.getD k.toNat 0→a∈q))→Ret ((slices_Contains_int (fu nn) (p,y)).bind fun r7=>bif(!r7) then(chk (lenOk (p.length+1)) (chk (i64b (i+1)) (rec2 ((p++[y]),(i+1))))) else(chk (i64b (i+1)) (rec2 (p,(i+1))))) fun o=>o.Nodup∧(∀x∈o,0≤x∧x<S.length)∧(0:Int)∈o∧∀g∈H,(idxS S g.1∈o↔idxS S (othS g)∈o):=fun y hy hq=>by
    rw[containsI_ok (by omega),Option.bind_some]
    by_cases hm:y∈p
    ·rw[decide_eq_true hm]
     exact nxt p j3 j4 ⟨[],by simp⟩ (hq p hm)
    ·rw[decide_eq_false hm]
     refine Ret_chk (lenOk_t (by omega)) (nxt (p++[y]) ?_ (fun z hz=>?_) ⟨[y],rfl⟩ (hq _ (by simp)))
     ·rw[List.nodup_append]
      exact⟨j3,by simp,fun u hu v hv e=>hm (by simp at hv;rw[←hv,←e];exact hu)⟩
     ·rcases List.mem_append.1 hz with c | c
      ·exact j4 z c
      ·simp at c;rw[c];exact hy
   refine Ret_jn (fun x:Int×Int=>(x=(b,a)∧b=o.getD k.toNat 0)∨(x=(a,b)∧b≠o.getD k.toNat 0)) (fun x hx=>?_) fun j hj=>?_
   ·refine Ret_chk (inb_t (by omega) (by omega)) ?_
    rcases hx with⟨rfl,hb⟩ | ⟨rfl,hb⟩
    ·refine Ret_dec (fun _=>add a (by omega) fun q hq=>⟨fun c=>absurd (c.trans hb.symm) hne',fun _=>hq⟩) fun g=>absurd hb g
    ·refine Ret_dec (fun ha=>add b (by omega) fun q hq=>⟨fun _=>hq,fun c=>absurd c hb⟩) fun ha=>nxt p j3 j4 ⟨[],by simp⟩ ⟨fun c=>absurd c ha,fun c=>absurd c hb⟩
   ·exact Ret_dec (fun g=>hj _ (.inl ⟨rfl,g⟩)) fun g=>hj _ (.inr ⟨rfl,g⟩)
  ·refine Ret_chk (i64b_t (by omega) (by omega)) (ih _ ⟨by simp only;omega,by simp only;omega,j3,j4,by simp only;rw[j5];exact List.mem_append_left _ i5,fun m hm g hg=>?_⟩ (by simp only;omega))
   simp only at hm ⊢
   by_cases e:(m:Int)=k
   ·obtain⟨q,hq,rfl⟩:=List.mem_iff_getElem.1 hg
    have:=j6 q (by omega)
    rw[List.getD,List.getElem?_eq_getElem hq,Option.getD_some] at this
    rw[show m=k.toNat by omega,gk]
    exact this
   ·have:=i6 m (by omega) g hg
    have gm:p.getD m 0=o.getD m 0:=by rw[j5,List.getD,List.getD,List.getElem?_append_left (by omega)]
    rw[gm]
    exact⟨fun c=>by rw[j5];exact List.mem_append_left _ (this.1 c),fun c=>by rw[j5];exact List.mem_append_left _ (this.2 c)⟩
 ·refine Ret_some ⟨i3,i4,i5,fun g hg=>?_⟩
  have at_:∀y∈o,∃m:Nat,(m:Int)<k∧o.getD m 0=y:=fun y hy=>by
   obtain⟨m,hm,e⟩:=List.mem_iff_getElem.1 hy
   exact⟨m,by omega,by rw[List.getD,List.getElem?_eq_getElem hm];exact e⟩
  constructor
  ·intro c
   obtain⟨m,hm,e⟩:=at_ _ c
   exact(i6 m hm g hg).1 e.symm
  ·intro c
   obtain⟨m,hm,e⟩:=at_ _ c
   exact(i6 m hm g hg).2 e.symm
theorem Check_ok {S:List SqT} {H:List HgT} (h:NetOK S H) (hH:H.length≤10000):nets_Check (fu nn) (S,H)=some 0:=by
 have hle:=h.le
 have hge:=h.ge
 apply Ret.eq
 unfold nets_Check
 simp only
 refine Ret_dec (fun g=>by omega) fun _=>?_
 refine Ret_loop (Inv:=fun x:Int=>0≤x∧x≤S.length) (m:=fun x=>((S.length:Int)-x).toNat) ?_ _ _ ⟨by simp,by simp⟩ (by simp only[fu];omega)
 rintro i rec ⟨i1,i2⟩ ih
 refine Ret_dec (fun hlt=>?_) fun hge'=>?_
 ·have hb:=h.bd _ (getD_memS (L:=S) (i:=i.toNat) (by omega))
  have nxt:Ret (chk (i64b (i+1)) (rec (i+1))) fun x=>x=0:=Ret_chk (i64b_t (by omega) (by omega)) (ih _ ⟨by omega,by omega⟩ (by omega))
  refine Ret_chk (inb_t (by omega) (by omega)) (Ret_dec (fun g=>by omega) fun _=>Ret_dec (fun g=>by omega) fun _=>Ret_dec (fun g=>by omega) fun _=>Ret_dec (fun g=>by omega) fun _=>Ret_dec (fun g=>?_) fun _=>nxt)
  refine Ret_chk (i64b_t (by omega) (by omega)) (Ret_chk (inb_t (by omega) (by omega)) ?_)
  rw[show nets_Square_compare (fu nn) (((S.getD (i-1).toNat (0,0)).1,(S.getD (i-1).toNat (0,0)).2),((S.getD i.toNat (0,0)).1,(S.getD i.toNat (0,0)).2))=some (cmpS (S.getD (i-1).toNat (0,0)) (S.getD i.toNat (0,0))) from compare_ok _ _,Option.bind_some]
  have:=cmpS_lt.2 (h.srt.lt (i:=(i-1).toNat) (j:=i.toNat) (by omega) (by omega))
  exact Ret_dec (fun g=>by omega) fun _=>nxt
 refine Ret_loop (Inv:=fun x:Int=>0≤x∧x≤H.length) (m:=fun x=>((H.length:Int)-x).toNat) ?_ _ _ ⟨by simp,by simp⟩ (by simp only[fu];omega)
 rintro i rec ⟨i1,i2⟩ ih
 refine Ret_dec (fun hlt=>?_) fun hge'=>?_
 ·have hb: -1≤(H.getD i.toNat ((0,0),(false,0))).2.2∧(H.getD i.toNat ((0,0),(false,0))).2.2≤1:=h.bend _ (getD_memH (H:=H) (i:=i.toNat) (by omega))
  have nxt:Ret (chk (i64b (i+1)) (rec (i+1))) fun x=>x=0:=Ret_chk (i64b_t (by omega) (by omega)) (ih _ ⟨by omega,by omega⟩ (by omega))
  refine Ret_chk (inb_t (by omega) (by omega)) (Ret_dec (fun g=>by omega) fun _=>Ret_dec (fun g=>by omega) fun _=>Ret_dec (fun g=>?_) fun _=>nxt)
  refine Ret_chk (i64b_t (by omega) (by omega)) (Ret_chk (inb_t (by omega) (by omega)) ?_)
  obtain⟨r,hr,hr2⟩:=place_cmp (H.getD (i-1).toNat hZ) (H.getD i.toNat hZ)
  rw[show nets_Hinge_place (fu nn) ((((H.getD (i-1).toNat hZ).1.1,(H.getD (i-1).toNat hZ).1.2),((H.getD (i-1).toNat hZ).2.1,(H.getD (i-1).toNat hZ).2.2)),(((H.getD i.toNat hZ).1.1,(H.getD i.toNat hZ).1.2),((H.getD i.toNat hZ).2.1,(H.getD i.toNat hZ).2.2)))=some r from hr,Option.bind_some]
  have lt:ltH (H.getD (i-1).toNat hZ) (H.getD i.toNat hZ):=by
   rw[List.getD,List.getElem?_eq_getElem (by omega),List.getD,List.getElem?_eq_getElem (by omega)]
   exact List.pairwise_iff_getElem.1 h.hs _ _ (by omega) (by omega) (by omega)
  exact Ret_dec (fun g=>absurd lt (hr2.1 g)) fun _=>nxt
 refine Ret_dec (fun g=>by omega) fun _=>?_
 refine Ret_loop (Inv:=fun x:Int=>0≤x∧x≤H.length) (m:=fun x=>((H.length:Int)-x).toNat) ?_ _ _ ⟨by simp,by simp⟩ (by simp only[fu];omega)
 rintro i rec ⟨i1,i2⟩ ih
 refine Ret_dec (fun hlt=>?_) fun hge'=>?_
 ·have hg:=getD_memH (H:=H) (i:=i.toNat) (by omega)
  obtain⟨e1,e2⟩:=h.ends _ hg
  have a1:=at_idxS e1
  have a2:=at_idxS e2
  refine Ret_chk (inb_t (by omega) (by omega)) ?_
  rw[show nets_Net_index (fu nn) ((S,H),((H.getD i.toNat hZ).1.1,(H.getD i.toNat hZ).1.2))=some (idxS S (H.getD i.toNat hZ).1) from index_ok h.srt (by omega) _,Option.bind_some]
  refine Ret_dec (fun g=>by omega) fun _=>?_
  rw[show nets_Hinge_other (fu nn) (((H.getD i.toNat hZ).1.1,(H.getD i.toNat hZ).1.2),((H.getD i.toNat hZ).2.1,(H.getD i.toNat hZ).2.2))=some (othS (H.getD i.toNat hZ)) from h.ends'.other hg,Option.bind_some,
   show nets_Net_index (fu nn) ((S,H),((othS (H.getD i.toNat hZ)).1,(othS (H.getD i.toNat hZ)).2))=some (idxS S (othS (H.getD i.toNat hZ))) from index_ok h.srt (by omega) _,Option.bind_some]
  exact Ret_dec (fun g=>by omega) fun _=>Ret_chk (i64b_t (by omega) (by omega)) (ih _ ⟨by omega,by omega⟩ (by omega))
 refine Ret_bind (joined_ok h.ends' hge hH) fun o ⟨o1,o2,o3,o4⟩=>?_
 have all:∀s∈S,idxS S s∈o:=h.con (fun s=>idxS S s∈o) ⟨_,getD_memS (L:=S) (i:=0) (by omega),by
  rw[idxS_at h.srt.nodup (by omega)];exact o3⟩ o4
 have:S.length≤o.length:=by
  have:=len_sub (l:=upto S.length) (p:=o) (by
   unfold upto
   exact List.nodup_range.map (f:=Int.ofNat) (fun a b h h2=>h (Int.ofNat.inj h2))) fun x hx=>by
    have hx:=mem_upto.1 hx
    have:=all _ (getD_memS (L:=S) (i:=x.toNat) (by omega))
    rw[idxS_at h.srt.nodup (by omega)] at this
    rwa[show((x.toNat:Nat):Int)=x by omega] at this
  simpa[upto] using this
 exact Ret_dec (fun g=>by omega) fun _=>Ret_some rfl
theorem eta3 {a:List Int} (h:a.length=3):[a.getD 0 0,a.getD 1 0,a.getD 2 0]=a:=by
 match a,h with
 | [x,y,z],_=>rfl
theorem plus_ok {a b:List Int} {k:Int} (ha:∀i:Nat,i<3→ -1000000≤a.getD i 0∧a.getD i 0≤1000000) (hb:∀i:Nat,i<3→ -1≤b.getD i 0∧b.getD i 0≤1) (hk:k=1∨k= -1):nets_Vec_plus (fu nn) (a,(b,k))=some (vadd a b k):=by
 unfold nets_Vec_plus
 have a0:=ha 0 (by omega);have a1:=ha 1 (by omega);have a2:=ha 2 (by omega)
 have b0:=hb 0 (by omega);have b1:=hb 1 (by omega);have b2:=hb 2 (by omega)
 have m:∀z:Int, -1≤z∧z≤1→ -1≤k*z∧k*z≤1:=fun z hz=>by
  rcases hk with rfl | rfl<;>omega
 have m0:=m _ b0;have m1:=m _ b1;have m2:=m _ b2
 simp only
 rw[chk_t (i64b_t (by omega) (by omega)),chk_t (i64b_t (by omega) (by omega)),chk_t (i64b_t (by omega) (by omega)),chk_t (i64b_t (by omega) (by omega)),chk_t (i64b_t (by omega) (by omega)),chk_t (i64b_t (by omega) (by omega))]
 rfl
theorem front_RU:∀p∈RU,nets_Frame_front 0 ([0,0,0],p)=some (vmul p.1 p.2):=by decide +kernel
theorem front_ok {f:FrT} (h:f.2∈RU) (a:List Int):nets_Frame_front (fu nn) (a,f.2)=some (vmul f.2.1 f.2.2):=(front_RU _ h:nets_Frame_front 0 ([0,0,0],f.2)=_)
theorem bent_RU:∀p∈RU,∀b∈bends,nets_bent 0 (p.2,(vmul p.1 p.2,b))=some (bendF p.2 (vmul p.1 p.2) b)∧nets_bent 0 (p.1,(vmul p.1 p.2,b))=some (bendF p.1 (vmul p.1 p.2) b):=by decide +kernel
theorem RU_len:∀p∈RU,p.1.length=3∧p.2.length=3:=by decide +kernel
theorem over_ok {B:Int} {f:FrT} {h:HgT} (hf:FrOK B f) (hB:B≤1000) (hb: -1≤h.2.2∧h.2.2≤1):nets_Frame_over (fu nn) (f,h)=some (ovF f h):=by
 obtain⟨l1,l2⟩:=RU_len _ hf.ru
 obtain⟨u1,u2⟩:=RU_unit _ hf.ru
 have b1:=(unit_bd _ u1).2
 have b2:=(unit_bd _ u2).2
 have ha:∀i:Nat,i<3→ -1000000≤f.1.getD i 0∧f.1.getD i 0≤1000000:=fun i hi=>by have:=hf.lo i hi;have:=hf.hi i hi;omega
 obtain⟨r1,r2,_,_⟩:=RU_bend _ hf.ru _ (mem_bends hb)
 have c1:=(RU_len _ r1).2
 have c2:=(RU_len _ r2).1
 have bt:nets_bent (fu nn) (f.2.2,(vmul f.2.1 f.2.2,h.2.2))=some (bendF f.2.2 (vmul f.2.1 f.2.2) h.2.2)∧nets_bent (fu nn) (f.2.1,(vmul f.2.1 f.2.2,h.2.2))=some (bendF f.2.1 (vmul f.2.1 f.2.2) h.2.2):=bent_RU _ hf.ru _ (mem_bends hb)
 unfold nets_Frame_over ovF
 simp only
 rw[eta3 hf.len,eta3 l1,eta3 l2]
 cases h.2.1 with
 | true=>
   rw[cond_true,plus_ok ha b2 (.inl rfl),Option.bind_some,show nets_Frame_front (fu nn) (f.1,(f.2.1,f.2.2))=_ from front_ok hf.ru _,Option.bind_some,bt.1,Option.bind_some,eta3 vadd_len,eta3 c1,if_pos rfl]
 | false=>
   rw[cond_false,plus_ok ha b1 (.inl rfl),Option.bind_some,show nets_Frame_front (fu nn) (f.1,(f.2.1,f.2.2))=_ from front_ok hf.ru _,Option.bind_some,bt.2,Option.bind_some,eta3 vadd_len,eta3 c2,if_neg (by decide)]
theorem wrap8 {b:Int} (h: -1≤b∧b≤1):IntKind.i8.wrap (-b)= -b:=by
 rcases(by omega:b= -1∨b=0∨b=1) with rfl | rfl | rfl<;>decide
theorem back_ok {B:Int} {f:FrT} {h:HgT} (hf:FrOK B f) (hB:B≤1000) (hb: -1≤h.2.2∧h.2.2≤1):nets_Frame_back (fu nn) (f,h)=some (bkF f h):=by
 obtain⟨l1,l2⟩:=RU_len _ hf.ru
 have hb': -1≤ -h.2.2∧ -h.2.2≤1:=by omega
 obtain⟨r1,r2,_,_⟩:=RU_bend _ hf.ru _ (mem_bends hb')
 have c1:=(RU_len _ r1).2
 have c2:=(RU_len _ r2).1
 have b2:=(unit_bd _ (RU_unit _ r1).2).2
 have b1:=(unit_bd _ (RU_unit _ r2).1).2
 have ha:∀i:Nat,i<3→ -1000000≤f.1.getD i 0∧f.1.getD i 0≤1000000:=fun i hi=>by have:=hf.lo i hi;have:=hf.hi i hi;omega
 have bt:nets_bent (fu nn) (f.2.2,(vmul f.2.1 f.2.2, -h.2.2))=some (bendF f.2.2 (vmul f.2.1 f.2.2) (-h.2.2))∧nets_bent (fu nn) (f.2.1,(vmul f.2.1 f.2.2, -h.2.2))=some (bendF f.2.1 (vmul f.2.1 f.2.2) (-h.2.2)):=bent_RU _ hf.ru _ (mem_bends hb')
 unfold nets_Frame_back bkF
 simp only
 rw[eta3 hf.len,eta3 l1,eta3 l2,wrap8 hb]
 cases h.2.1 with
 | true=>
   rw[cond_true,show nets_Frame_front (fu nn) (f.1,(f.2.1,f.2.2))=_ from front_ok hf.ru _,Option.bind_some,bt.1,Option.bind_some,eta3 c1,plus_ok ha b2 (.inr rfl),Option.bind_some,eta3 vadd_len,if_pos rfl]
 | false=>
   rw[cond_false,show nets_Frame_front (fu nn) (f.1,(f.2.1,f.2.2))=_ from front_ok hf.ru _,Option.bind_some,bt.2,Option.bind_some,eta3 c2,plus_ok ha b1 (.inr rfl),Option.bind_some,eta3 vadd_len,if_neg (by decide)]
end X
end Go.Vm
namespace Go.Vm
namespace X
open W
variable {nn:Nat}
theorem eta9 {B:Int} {f:FrT} (h:FrOK B f):(([f.1.getD 0 0,f.1.getD 1 0,f.1.getD 2 0],([f.2.1.getD 0 0,f.2.1.getD 1 0,f.2.1.getD 2 0],[f.2.2.getD 0 0,f.2.2.getD 1 0,f.2.2.getD 2 0])):FrT)=f:=by
 obtain⟨l1,l2⟩:=RU_len _ h.ru
 rw[eta3 h.len,eta3 l1,eta3 l2]
theorem eq9 {B B':Int} {f g:FrT} (h:FrOK B f) (k:FrOK B' g):(decide (f.1.getD 0 0=g.1.getD 0 0)&&(decide (f.1.getD 1 0=g.1.getD 1 0)&&(decide (f.1.getD 2 0=g.1.getD 2 0)&&(decide (f.2.1.getD 0 0=g.2.1.getD 0 0)&&(decide (f.2.1.getD 1 0=g.2.1.getD 1 0)&&(decide (f.2.1.getD 2 0=g.2.1.getD 2 0)&&(decide (f.2.2.getD 0 0=g.2.2.getD 0 0)&&(decide (f.2.2.getD 1 0=g.2.2.getD 1 0)&&decide (f.2.2.getD 2 0=g.2.2.getD 2 0)))))))))=decide (f=g):=by
 obtain⟨l1,l2⟩:=RU_len _ h.ru
 obtain⟨m1,m2⟩:=RU_len _ k.ru
 rw[Bool.eq_iff_iff]
 simp only[Bool.and_eq_true,decide_eq_true_eq]
 constructor
 ·rintro ⟨a0,a1,a2,b0,b1,b2,c0,c1,c2⟩
  exact Prod.ext (ext3 h.len k.len a0 a1 a2) (Prod.ext (ext3 l1 m1 b0 b1 b2) (ext3 l2 m2 c0 c1 c2))
 ·rintro rfl
  exact⟨rfl,rfl,rfl,rfl,rfl,rfl,rfl,rfl,rfl⟩
abbrev PlaceQ (S:List SqT) (H:List HgT) (r:List FrT×Int):Prop:=∃K O,Placed S H K O∧(∀i:Nat,i<S.length→K.getD i false=true)∧
 ((∀g∈H,ovF (O.getD (idxS S g.1).toNat frZ) g=O.getD (idxS S (othS g)).toNat frZ)→r=(O,0))∧(¬(∀g∈H,ovF (O.getD (idxS S g.1).toNat frZ) g=O.getD (idxS S (othS g)).toNat frZ)→r=([],11))
set_option maxHeartbeats 1000000 in
theorem Place_ok {S:List SqT} {H:List HgT} (h:NetOK S H) (hH:H.length≤10000):Ret (nets_Place (fu nn) (S,H)) (PlaceQ S H):=by
 have hle:=h.le
 have hge:=h.ge
 unfold nets_Place
 rw[show nets_Check (fu nn) ((S,H).1,(S,H).2)=some 0 from Check_ok h hH,Option.bind_some]
 refine Ret_dec (fun g=>absurd rfl g) fun _=>?_
 have e0:((List.replicate (α:=((List Int)×((List Int)×(List Int)))) S.length ([0,0,0],([0,0,0],[0,0,0]))).set 0 ([0,0,0],([1,0,0],[0,1,0]))).length=S.length:=by simp
 simp only
 refine Ret_chk (by simp;omega) (Ret_chk (inb_t (by omega) (by simp;omega)) (Ret_chk (by simp;omega) (Ret_chk (inb_t (by omega) (by simp;omega)) ?_)))
 rw[e0]
 refine Ret_loop (Inv:=fun x:Int×((List FrT×Option Nat)×(List Bool×Option Nat))=>0≤x.1∧x.1≤S.length∧x.2.1.2=some S.length∧x.2.2.2=some S.length∧Placed S H x.2.2.1 x.2.1.1∧((∀i:Nat,i<S.length→x.2.2.1.getD i false=true)∨x.1+1≤x.2.2.1.count true)) (m:=fun x=>((S.length:Int)-x.1).toNat) ?_ _ _ ⟨by simp,by simp,rfl,rfl,Placed.start h,.inr ?_⟩ (by simp only[fu];omega)
 rotate_left
 ·have hp:=Placed.start h
  have:1≤((List.replicate S.length false).set 0 true).count true:=by
   rw[count_setT (by simp;omega) (by simp[List.getD,List.getElem?_replicate,show 0<S.length by omega])]
   omega
  simp only
  omega
 rintro ⟨r,⟨O,c1⟩,K,c2⟩ rec ⟨i1,i2,i3,i4,hp,i6⟩ ih
 simp only at i1 i2 i3 i4 hp i6 ⊢
 subst i3;subst i4
 have hkl:=hp.kl
 have hol:=hp.ol
 refine Ret_dec (fun hlt=>?_) fun hge'=>?_
 ·refine Ret_loop (Inv:=fun x:Int×((List FrT×Option Nat)×(List Bool×Option Nat))=>0≤x.1∧x.1≤H.length∧x.2.1.2=some S.length∧x.2.2.2=some S.length∧Placed S H x.2.2.1 x.2.1.1∧(K.count true+1≤x.2.2.1.count true∨(x.2.2.1=K∧∀m:Nat,(m:Int)<x.1→K.getD (idxS S (H.getD m hZ).1).toNat false=K.getD (idxS S (othS (H.getD m hZ))).toNat false))) (m:=fun x=>((H.length:Int)-x.1).toNat) ?_ _ _ ⟨by simp,by simp,rfl,rfl,hp,.inr ⟨rfl,fun m hm=>by simp only at hm;omega⟩⟩ (by simp only[fu];omega)
  rintro ⟨i,⟨O2,d1⟩,K2,d2⟩ rec2 ⟨j1,j2,j3,j4,hq,j6⟩ ih2
  simp only at j1 j2 j3 j4 hq j6 ⊢
  subst j3;subst j4
  have hkl2:=hq.kl
  have hol2:=hq.ol
  refine Ret_dec (fun hlt2=>?_) fun hge2=>?_
  ·have hg:=getD_memH (H:=H) (i:=i.toNat) (by omega)
   obtain⟨e1,e2⟩:=h.ends _ hg
   have hb:=h.bend _ hg
   have a1:=at_idxS e1
   have a2:=at_idxS e2
   have hcnt:K2.count true≤64:=by have:=count_le (K:=K2);omega
   refine Ret_chk (inb_t (by omega) (by omega)) ?_
   rw[show nets_Net_index (fu nn) ((S,H),((H.getD i.toNat hZ).1.1,(H.getD i.toNat hZ).1.2))=some (idxS S (H.getD i.toNat hZ).1) from index_ok h.srt (by omega) _,Option.bind_some,
    show nets_Hinge_other (fu nn) (((H.getD i.toNat hZ).1.1,(H.getD i.toNat hZ).1.2),((H.getD i.toNat hZ).2.1,(H.getD i.toNat hZ).2.2))=some (othS (H.getD i.toNat hZ)) from h.ends'.other hg,Option.bind_some,
    show nets_Net_index (fu nn) ((S,H),((othS (H.getD i.toNat hZ)).1,(othS (H.getD i.toNat hZ)).2))=some (idxS S (othS (H.getD i.toNat hZ))) from index_ok h.srt (by omega) _,Option.bind_some]
   have kA:=inb_t (i:=idxS S (H.getD i.toNat hZ).1) (n:=K2.length) (by omega) (by omega)
   have kB:=inb_t (i:=idxS S (othS (H.getD i.toNat hZ))) (n:=K2.length) (by omega) (by omega)
   have oA:=inb_t (i:=idxS S (H.getD i.toNat hZ).1) (n:=O2.length) (by omega) (by omega)
   have oB:=inb_t (i:=idxS S (othS (H.getD i.toNat hZ))) (n:=O2.length) (by omega) (by omega)
   have skip:K2.getD (idxS S (H.getD i.toNat hZ).1).toNat false=K2.getD (idxS S (othS (H.getD i.toNat hZ))).toNat false→Ret (chk (i64b (i+1)) (rec2 (i+1,((O2,some S.length),(K2,some S.length))))) (PlaceQ S H):=fun he=>by
    refine Ret_chk (i64b_t (by omega) (by omega)) (ih2 _ ⟨by simp only;omega,by simp only;omega,rfl,rfl,hq,?_⟩ (by simp only;omega))
    rcases j6 with c | ⟨c,c'⟩
    ·exact .inl c
    ·refine .inr ⟨c,fun m hm=>?_⟩
     simp only at hm
     by_cases e:(m:Int)=i
     ·rw[show m=i.toNat by omega,←c];exact he
     ·exact c' m (by omega)
   have back:K2.getD (idxS S (H.getD i.toNat hZ).1).toNat false=false→K2.getD (idxS S (othS (H.getD i.toNat hZ))).toNat false=true→Ret (chk (inb (idxS S (othS (H.getD i.toNat hZ))) O2.length) ((nets_Frame_back (fu nn) (([((O2.getD (idxS S (othS (H.getD i.toNat hZ))).toNat frZ).1.getD 0 0),((O2.getD (idxS S (othS (H.getD i.toNat hZ))).toNat frZ).1.getD 1 0),((O2.getD (idxS S (othS (H.getD i.toNat hZ))).toNat frZ).1.getD 2 0)],([((O2.getD (idxS S (othS (H.getD i.toNat hZ))).toNat frZ).2.1.getD 0 0),((O2.getD (idxS S (othS (H.getD i.toNat hZ))).toNat frZ).2.1.getD 1 0),((O2.getD (idxS S (othS (H.getD i.toNat hZ))).toNat frZ).2.1.getD 2 0)],[((O2.getD (idxS S (othS (H.getD i.toNat hZ))).toNat frZ).2.2.getD 0 0),((O2.getD (idxS S (othS (H.getD i.toNat hZ))).toNat frZ).2.2.getD 1 0),((O2.getD (idxS S (othS (H.getD i.toNat hZ))).toNat frZ).2.2.getD 2 0)])),(((H.getD i.toNat hZ).1.1,(H.getD i.toNat hZ).1.2),((H.getD i.toNat hZ).2.1,(H.getD i.toNat hZ).2.2)))).bind fun r8=>chk (inb (idxS S (H.getD i.toNat hZ).1) O2.length) (chk (inb (idxS S (H.getD i.toNat hZ).1) K2.length) (chk (i64b (i+1)) (rec2 ((i+1),(((O2.set (idxS S (H.getD i.toNat hZ).1).toNat ([(r8.1.getD 0 0),(r8.1.getD 1 0),(r8.1.getD 2 0)],([(r8.2.1.getD 0 0),(r8.2.1.getD 1 0),(r8.2.1.getD 2 0)],[(r8.2.2.getD 0 0),(r8.2.2.getD 1 0),(r8.2.2.getD 2 0)]))),some S.length),((K2.set (idxS S (H.getD i.toNat hZ).1).toNat true),some S.length)))))))) (PlaceQ S H):=fun hA hB=>by
    have fk:=hq.ok _ a2.2.1 hB
    refine Ret_chk oB ?_
    rw[eta9 fk,show nets_Frame_back (fu nn) (O2.getD (idxS S (othS (H.getD i.toNat hZ))).toNat frZ,(((H.getD i.toNat hZ).1.1,(H.getD i.toNat hZ).1.2),((H.getD i.toNat hZ).2.1,(H.getD i.toNat hZ).2.2)))=some (bkF (O2.getD (idxS S (othS (H.getD i.toNat hZ))).toNat frZ) (H.getD i.toNat hZ)) from back_ok fk (by omega) hb,Option.bind_some,eta9 (fk.bk hb)]
    refine Ret_chk oA (Ret_chk kA (Ret_chk (i64b_t (by omega) (by omega)) (ih2 _ ⟨by simp only;omega,by simp only;omega,rfl,rfl,hq.step h hg (a:=(idxS S (othS (H.getD i.toNat hZ))).toNat) (b:=(idxS S (H.getD i.toNat hZ).1).toNat) (.inr ⟨rfl,rfl,rfl⟩) hB hA,.inl ?_⟩ (by simp only;omega))))
    simp only
    rw[count_setT (by omega) hA]
    rcases j6 with c | ⟨c,_⟩
    ·omega
    ·rw[c];omega
   refine Ret_chk kA ?_
   cases hA:K2.getD (idxS S (H.getD i.toNat hZ).1).toNat false with
   | true=>
     try simp only[cond_true]
     refine Ret_chk kB ?_
     cases hB:K2.getD (idxS S (othS (H.getD i.toNat hZ))).toNat false with
     | true=>
       try simp only[Bool.not_true,cond_false]
       refine Ret_chk kB ?_
       try simp only[cond_true]
       refine Ret_chk kA ?_
       try simp only[Bool.not_true,cond_false]
       exact skip (by rw[hA,hB])
     | false=>
       try simp only[Bool.not_false,cond_true]
       have fk:=hq.ok _ a1.2.1 hA
       refine Ret_chk oA ?_
       rw[eta9 fk,show nets_Frame_over (fu nn) (O2.getD (idxS S (H.getD i.toNat hZ).1).toNat frZ,(((H.getD i.toNat hZ).1.1,(H.getD i.toNat hZ).1.2),((H.getD i.toNat hZ).2.1,(H.getD i.toNat hZ).2.2)))=some (ovF (O2.getD (idxS S (H.getD i.toNat hZ).1).toNat frZ) (H.getD i.toNat hZ)) from over_ok fk (by omega) hb,Option.bind_some,eta9 (fk.ov hb)]
       refine Ret_chk oB (Ret_chk kB (Ret_chk (i64b_t (by omega) (by omega)) (ih2 _ ⟨by simp only;omega,by simp only;omega,rfl,rfl,hq.step h hg (a:=(idxS S (H.getD i.toNat hZ).1).toNat) (b:=(idxS S (othS (H.getD i.toNat hZ))).toNat) (.inl ⟨rfl,rfl,rfl⟩) hA hB,.inl ?_⟩ (by simp only;omega))))
       simp only
       rw[count_setT (by omega) hB]
       rcases j6 with c | ⟨c,_⟩
       ·omega
       ·rw[c];omega
   | false=>
     try simp only[cond_false]
     refine Ret_chk kB ?_
     cases hB:K2.getD (idxS S (othS (H.getD i.toNat hZ))).toNat false with
     | true=>
       try simp only[cond_true]
       refine Ret_chk kA ?_
       try simp only[Bool.not_false,cond_true]
       exact back hA hB
     | false=>
       try simp only[cond_false]
       exact skip (by rw[hA,hB])
  ·refine Ret_chk (i64b_t (by omega) (by omega)) (ih _ ⟨by simp only;omega,by simp only;omega,rfl,rfl,hq,?_⟩ (by simp only;omega))
   simp only
   rcases j6 with c | ⟨c,c'⟩
   ·rcases i6 with d | d
    ·left
     have:=count_of_all (K:=K) (fun i hi=>d i (by omega))
     have:=count_le (K:=K2)
     omega
    ·right;omega
   ·left
    refine hq.all h fun g hg=>?_
    obtain⟨q,hq',rfl⟩:=List.mem_iff_getElem.1 hg
    have:=c' q (by omega)
    rw[show H.getD q hZ=H[q] by rw[List.getD,List.getElem?_eq_getElem hq'];rfl] at this
    rw[c]
    exact this
 ·have all:∀i:Nat,i<S.length→K.getD i false=true:=by
   rcases i6 with d | d
   ·exact d
   ·have:=count_le (K:=K)
    omega
  have hcnt:K.count true≤64:=by have:=count_le (K:=K);omega
  refine Ret_loop (Inv:=fun x:Int=>0≤x∧x≤H.length∧∀m:Nat,(m:Int)<x→ovF (O.getD (idxS S (H.getD m hZ).1).toNat frZ) (H.getD m hZ)=O.getD (idxS S (othS (H.getD m hZ))).toNat frZ) (m:=fun x=>((H.length:Int)-x).toNat) ?_ _ _ ⟨by simp,by simp,fun m hm=>by omega⟩ (by simp only[fu];omega)
  rintro i rec2 ⟨j1,j2,j3⟩ ih2
  refine Ret_dec (fun hlt2=>?_) fun hge2=>?_
  ·have hg:=getD_memH (H:=H) (i:=i.toNat) (by omega)
   obtain⟨e1,e2⟩:=h.ends _ hg
   have hb:=h.bend _ hg
   have a1:=at_idxS e1
   have a2:=at_idxS e2
   have fa:=hp.ok _ a1.2.1 (all _ a1.2.1)
   have fb:=hp.ok _ a2.2.1 (all _ a2.2.1)
   refine Ret_chk (inb_t (by omega) (by omega)) ?_
   rw[show nets_Net_index (fu nn) ((S,H),((H.getD i.toNat hZ).1.1,(H.getD i.toNat hZ).1.2))=some (idxS S (H.getD i.toNat hZ).1) from index_ok h.srt (by omega) _,Option.bind_some]
   refine Ret_chk (inb_t (by omega) (by omega)) ?_
   rw[eta9 fa,show nets_Frame_over (fu nn) (O.getD (idxS S (H.getD i.toNat hZ).1).toNat frZ,(((H.getD i.toNat hZ).1.1,(H.getD i.toNat hZ).1.2),((H.getD i.toNat hZ).2.1,(H.getD i.toNat hZ).2.2)))=some (ovF (O.getD (idxS S (H.getD i.toNat hZ).1).toNat frZ) (H.getD i.toNat hZ)) from over_ok fa (by omega) hb,Option.bind_some,
    show nets_Hinge_other (fu nn) (((H.getD i.toNat hZ).1.1,(H.getD i.toNat hZ).1.2),((H.getD i.toNat hZ).2.1,(H.getD i.toNat hZ).2.2))=some (othS (H.getD i.toNat hZ)) from h.ends'.other hg,Option.bind_some,
    show nets_Net_index (fu nn) ((S,H),((othS (H.getD i.toNat hZ)).1,(othS (H.getD i.toNat hZ)).2))=some (idxS S (othS (H.getD i.toNat hZ))) from index_ok h.srt (by omega) _,Option.bind_some]
   refine Ret_chk (inb_t (by omega) (by omega)) ?_
   rw[eq9 (fa.ov hb) fb]
   by_cases e:ovF (O.getD (idxS S (H.getD i.toNat hZ).1).toNat frZ) (H.getD i.toNat hZ)=O.getD (idxS S (othS (H.getD i.toNat hZ))).toNat frZ
   ·rw[decide_eq_true e]
    refine Ret_chk (i64b_t (by omega) (by omega)) (ih2 _ ⟨by omega,by omega,fun m hm=>?_⟩ (by omega))
    by_cases c:(m:Int)=i
    ·rw[show m=i.toNat by omega];exact e
    ·exact j3 m (by omega)
   ·rw[decide_eq_false e]
    exact Ret_some ⟨K,O,hp,all,fun c=>absurd (c _ hg) e,fun _=>rfl⟩
  ·refine Ret_chk (by simp[capIs];omega) (Ret_some ⟨K,O,hp,all,fun _=>rfl,fun c=>absurd (fun g hg=>?_) c⟩)
   obtain⟨q,hq',rfl⟩:=List.mem_iff_getElem.1 hg
   have:=j3 q (by omega)
   rw[show H.getD q hZ=H[q] by rw[List.getD,List.getElem?_eq_getElem hq'];rfl] at this
   exact this
end X
end Go.Vm
