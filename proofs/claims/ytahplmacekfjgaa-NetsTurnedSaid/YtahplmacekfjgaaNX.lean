/-
  Nets: a turned net folds to the same figure.
  Nets: the turned net is a net; turned back it is the first one.
  Nets: the law NetsTurned.
-/
import Derived.Test.YtahplmacekfjgaaNU
set_option linter.unusedSimpArgs false
set_option linter.unusedVariables false
set_option linter.unusedSectionVars false
set_option linter.unnecessarySimpa false
namespace Go.Vm
namespace X
open W
variable {nn:Nat}
def c2 (f:FrT):List Int:=[2*f.1.getD 0 0+f.2.1.getD 0 0+f.2.2.getD 0 0,2*f.1.getD 1 0+f.2.1.getD 1 0+f.2.2.getD 1 0,2*f.1.getD 2 0+f.2.1.getD 2 0+f.2.2.getD 2 0]
theorem c2_at (f:FrT):∀k:Nat,k<3→(c2 f).getD k 0=2*f.1.getD k 0+f.2.1.getD k 0+f.2.2.getD k 0
 | 0,_=>rfl
 | 1,_=>rfl
 | 2,_=>rfl
 | n+3,h=>absurd h (by omega)
theorem ax_RU:∀p∈RU,(axF (zF p) 3=0∨axF (zF p) 3=1∨axF (zF p) 3=2)∧∀k,k<3→2*mnA (zF p) k+ (if(k:Int)=axF (zF p) 3 then 0 else 1)=p.1.getD k 0+p.2.getD k 0:=by decide +kernel
theorem spF_at (f:FrT):∀k:Nat,k<3→(spF f).1.getD k 0=f.1.getD k 0+mnA f k
 | 0,_=>rfl
 | 1,_=>rfl
 | 2,_=>rfl
 | n+3,h=>absurd h (by omega)
theorem c2_sp {B:Int} {f:FrT} (h:FrOK B f):(axF f 3=0∨axF f 3=1∨axF f 3=2)∧∀k:Nat,k<3→(c2 f).getD k 0=2* (spF f).1.getD k 0+ (if(k:Int)=(spF f).2 then 0 else 1):=by
 obtain⟨h1,h2⟩:=ax_RU _ h.ru
 refine⟨h1,fun k hk=>?_⟩
 have:=h2 k hk
 rw[c2_at f k hk,spF_at f k hk]
 have e:(spF f).2=axF (zF f.2) 3:=rfl
 have e2:mnA f k=mnA (zF f.2) k:=rfl
 rw[e,e2]
 omega
theorem sp_iff {B C:Int} {f g:FrT} (h:FrOK B f) (k:FrOK C g):spF f=spF g↔c2 f=c2 g:=by
 obtain⟨a1,a2⟩:=c2_sp h
 obtain⟨b1,b2⟩:=c2_sp k
 constructor
 ·intro e
  refine ext3 rfl rfl ?_ ?_ ?_
  ·rw[a2 0 (by omega),b2 0 (by omega),e]
  ·rw[a2 1 (by omega),b2 1 (by omega),e]
  ·rw[a2 2 (by omega),b2 2 (by omega),e]
 ·intro e
  have x0:=a2 0 (by omega);have x1:=a2 1 (by omega);have x2:=a2 2 (by omega)
  have y0:=b2 0 (by omega);have y1:=b2 1 (by omega);have y2:=b2 2 (by omega)
  rw[e] at x0 x1 x2
  have e1:(spF f).2=axF f 3:=rfl
  have e2:(spF g).2=axF g 3:=rfl
  rw[e1] at x0 x1 x2
  rw[e2] at y0 y1 y2
  have ea:axF f 3=axF g 3:=by
   rcases a1 with a | a | a<;>rcases b1 with b | b | b<;>rw[a] at x0 x1 x2 ⊢<;>rw[b] at y0 y1 y2 ⊢<;>simp at x0 x1 x2 y0 y1 y2 ⊢<;>omega
  rw[←ea] at y0 y1 y2
  refine Prod.ext (ext3 rfl rfl ?_ ?_ ?_) ea
  ·omega
  ·omega
  ·omega
theorem middle_ok {f:FrT} (h:FrOK 64 f):law38_middle (fu nn) (spF f)=some (c2 f):=by
 obtain⟨a1,a2⟩:=c2_sp h
 have sm:=h.sm (by omega)
 have bd:∀k:Nat,k<3→ -100≤(spF f).1.getD k 0∧(spF f).1.getD k 0≤100:=fun k hk=>by
  rw[spF_at f k hk]
  unfold mnA
  have:=h.lo k hk;have:=h.hi k hk;have:=sm.r k hk;have:=sm.u k hk
  omega
 have b0:=bd 0 (by omega);have b1:=bd 1 (by omega);have b2:=bd 2 (by omega)
 have e1:(spF f).2=axF f 3:=rfl
 apply Ret.eq
 unfold law38_middle
 rw[eta3 (spF_len f)]
 have ad:law38_added (fu nn) ([0,0,0],(spF f).1,2)=some [2* (spF f).1.getD 0 0,2* (spF f).1.getD 1 0,2* (spF f).1.getD 2 0]:=by
  unfold law38_added
  simp only[List.getD_cons_zero,List.getD_cons_succ,Int.zero_add]
  rw[chk_i (by omega) (by omega),chk_i (by omega) (by omega),chk_i (by omega) (by omega),chk_i (by omega) (by omega),chk_i (by omega) (by omega),chk_i (by omega) (by omega)]
 rw[ad,Option.bind_some]
 refine Ret_loop (Inv:=fun s:Int×(Int×(Int×Int))=>∃V:List Int,s=(s.1,(V.getD 0 0,(V.getD 1 0,V.getD 2 0)))∧V.length=3∧0≤s.1∧s.1≤3∧∀k:Nat,k<3→V.getD k 0=2* (spF f).1.getD k 0+ (if(k:Int)<s.1∧(k:Int)≠(spF f).2 then 1 else 0)) (m:=fun s=>(3-s.1).toNat) ?_ _ _ ⟨[2* (spF f).1.getD 0 0,2* (spF f).1.getD 1 0,2* (spF f).1.getD 2 0],rfl,rfl,by simp,by simp,fun k hk=>?_⟩ (by simp only[fu];omega)
 rotate_left
 ·rw[if_neg (by simp only;omega),Int.add_zero]
  rcases(by omega:k=0∨k=1∨k=2) with rfl | rfl | rfl<;>rfl
 rintro ⟨i,s⟩ rec ⟨V,e,vl,i0,i3,hV⟩ ih
 simp only[Prod.mk.injEq,true_and] at e
 subst e
 simp only at i0 i3 hV ⊢
 rw[eta3 vl,e1]
 refine Ret_dec (fun hlt=>?_) fun hge=>Ret_some ?_
 ·have hv:=hV i.toNat (by omega)
  rw[if_neg (by omega),Int.add_zero] at hv
  have bi:=bd i.toNat (by omega)
  have hin:=inb_t (i:=i) (n:=3) (by omega) (by omega)
  refine Ret_chk (i64b_t (by omega) (by omega)) (Ret_dec (fun c=>?_) fun c=>?_)
  ·refine Ret_chk hin (Ret_chk (i64b_t (by omega) (by omega)) (Ret_chk hin (Ret_chk (i64b_t (by omega) (by omega)) (ih _ ⟨V.set i.toNat (V.getD i.toNat 0+1),rfl,by rw[List.length_set];exact vl,by simp only;omega,by simp only;omega,fun k hk=>?_⟩ (by simp only;omega)))))
   simp only
   rw[getD_set3 vl (by omega)]
   by_cases ek:k=i.toNat
   ·rw[if_pos ek,hv,if_pos ⟨by omega,by rw[e1];omega⟩,ek]
   ·rw[if_neg ek,hV k hk]
    congr 1
    by_cases q:(k:Int)<i∧(k:Int)≠(spF f).2
    ·rw[if_pos q,if_pos ⟨by omega,q.2⟩]
    ·rw[if_neg q,if_neg fun g=>q ⟨by omega,g.2⟩]
  ·refine Ret_chk (i64b_t (by omega) (by omega)) (ih _ ⟨V,rfl,vl,by simp only;omega,by simp only;omega,fun k hk=>?_⟩ (by simp only;omega))
   simp only
   rw[hV k hk]
   congr 1
   by_cases q:(k:Int)<i∧(k:Int)≠(spF f).2
   ·rw[if_pos q,if_pos ⟨by omega,q.2⟩]
   ·rw[if_neg q,if_neg fun g=>q ⟨by rw[e1] at g;omega,g.2⟩]
 ·have e3:i=3:=by omega
  subst e3
  have fin:∀k:Nat,k<3→V.getD k 0=(c2 f).getD k 0:=fun k hk=>by
   rw[hV k hk,a2 k hk]
   by_cases q:(k:Int)=(spF f).2
   ·rw[if_neg fun g=>g.2 q,if_pos q]
   ·rw[if_pos ⟨by omega,q⟩,if_neg q]
  exact ext3 vl rfl (fin 0 (by omega)) (fin 1 (by omega)) (fin 2 (by omega))
def farV (a b:List Int):Int:=(a.getD 0 0 + -1*b.getD 0 0)* (a.getD 0 0 + -1*b.getD 0 0)+ (a.getD 1 0 + -1*b.getD 1 0)* (a.getD 1 0 + -1*b.getD 1 0)+ (a.getD 2 0 + -1*b.getD 2 0)* (a.getD 2 0 + -1*b.getD 2 0)
theorem sq_bd {z:Int} (h: -1000≤z∧z≤1000):0≤z*z∧z*z≤1000000:=by
 constructor
 ·rcases Int.le_total 0 z with c | c
  ·exact Int.mul_nonneg c c
  ·exact Int.mul_nonneg_of_nonpos_of_nonpos c c
 ·have h1:z.natAbs≤1000:=by omega
  have h2:z.natAbs*z.natAbs≤1000*1000:=Nat.mul_le_mul h1 h1
  have:=Int.natAbs_mul_self (a:=z)
  omega
theorem far_ok {a b:List Int} (ha:∀k:Nat,k<3→ -400≤a.getD k 0∧a.getD k 0≤400) (hb:∀k:Nat,k<3→ -400≤b.getD k 0∧b.getD k 0≤400):law38_far (fu nn) (a,b)=some (farV a b):=by
 have a0:=ha 0 (by omega);have a1:=ha 1 (by omega);have a2:=ha 2 (by omega)
 have b0:=hb 0 (by omega);have b1:=hb 1 (by omega);have b2:=hb 2 (by omega)
 have ad:law38_added (fu nn) (a,b, -1)=some [a.getD 0 0 + -1*b.getD 0 0,a.getD 1 0 + -1*b.getD 1 0,a.getD 2 0 + -1*b.getD 2 0]:=by
  unfold law38_added
  dsimp only
  rw[chk_i (by omega) (by omega),chk_i (by omega) (by omega),chk_i (by omega) (by omega),chk_i (by omega) (by omega),chk_i (by omega) (by omega),chk_i (by omega) (by omega)]
 have s0:=sq_bd (z:=a.getD 0 0 + -1*b.getD 0 0) (by omega)
 have s1:=sq_bd (z:=a.getD 1 0 + -1*b.getD 1 0) (by omega)
 have s2:=sq_bd (z:=a.getD 2 0 + -1*b.getD 2 0) (by omega)
 unfold law38_far
 rw[ad,Option.bind_some]
 simp only[List.getD_cons_zero,List.getD_cons_succ]
 unfold farV
 generalize (a.getD 0 0 + -1*b.getD 0 0)* (a.getD 0 0 + -1*b.getD 0 0)=z0 at *
 generalize (a.getD 1 0 + -1*b.getD 1 0)* (a.getD 1 0 + -1*b.getD 1 0)=z1 at *
 generalize (a.getD 2 0 + -1*b.getD 2 0)* (a.getD 2 0 + -1*b.getD 2 0)=z2 at *
 rw[chk_i (by omega) (by omega),chk_i (by omega) (by omega),chk_i (by omega) (by omega),chk_i (by omega) (by omega),chk_i (by omega) (by omega)]
theorem c2_re (t:Int) (f:FrT):c2 (reF t f)=c2 f:=by
 unfold reF
 repeat' split
 all_goals first | rfl | (refine ext3 rfl rfl ?_ ?_ ?_<;>simp[c2,vadd,ngv]<;>omega)
theorem c2_iso (A:Iso) (v:List Int) (f:FrT):c2 (isoF A v f)=vadd (vadd v v 1) (act A (c2 f)) 1:=by
 unfold isoF act prm c2 vadd
 repeat' split
 all_goals (refine ext3 rfl rfl ?_ ?_ ?_<;>simp[Int.mul_add]<;>(try rw[Int.mul_left_comm])<;>omega)
theorem sq_s {s w x y:Int} (hs:s=1∨s= -1):(w+1* (s*x) + -1* (w+1* (s*y)))* (w+1* (s*x) + -1* (w+1* (s*y)))=(x + -1*y)* (x + -1*y):=by
 rcases hs with rfl | rfl
 ·rw[show w+1* (1*x) + -1* (w+1* (1*y))=x + -1*y by omega]
 ·rw[show w+1* (-1*x) + -1* (w+1* (-1*y))= -(x + -1*y) by omega,Int.neg_mul_neg]
theorem far_iso {A:Iso} (hA:IsoOK A) (w x y:List Int):farV (vadd w (act A x) 1) (vadd w (act A y) 1)=farV x y:=by
 have e:farV (vadd w (act A x) 1) (vadd w (act A y) 1)=((prm A.1 x).getD 0 0 + -1* (prm A.1 y).getD 0 0)* ((prm A.1 x).getD 0 0 + -1* (prm A.1 y).getD 0 0)+ ((prm A.1 x).getD 1 0 + -1* (prm A.1 y).getD 1 0)* ((prm A.1 x).getD 1 0 + -1* (prm A.1 y).getD 1 0)+ ((prm A.1 x).getD 2 0 + -1* (prm A.1 y).getD 2 0)* ((prm A.1 x).getD 2 0 + -1* (prm A.1 y).getD 2 0):=by
  have q0:=sq_s (w:=w.getD 0 0) (x:=(prm A.1 x).getD 0 0) (y:=(prm A.1 y).getD 0 0) hA.a
  have q1:=sq_s (w:=w.getD 1 0) (x:=(prm A.1 x).getD 1 0) (y:=(prm A.1 y).getD 1 0) hA.b
  have q2:=sq_s (w:=w.getD 2 0) (x:=(prm A.1 x).getD 2 0) (y:=(prm A.1 y).getD 2 0) hA.c
  rw[←q0,←q1,←q2]
  rfl
 rw[e]
 unfold prm farV
 rcases hA.k with k | k | k | k | k | k<;>rw[k]<;>simp<;>omega
theorem act_inj {A:Iso} (hA:IsoOK A) {x y:List Int} (hx:x.length=3) (hy:y.length=3) (h:act A x=act A y):x=y:=by
 have q:∀ {s a b:Int},(s=1∨s= -1)→s*a=s*b→a=b:=fun hs e=>by rcases hs with rfl | rfl<;>omega
 have e0:=q hA.a (congrArg (fun l=>l.getD 0 0) h)
 have e1:=q hA.b (congrArg (fun l=>l.getD 1 0) h)
 have e2:=q hA.c (congrArg (fun l=>l.getD 2 0) h)
 unfold prm at e0 e1 e2
 rcases hA.k with k | k | k | k | k | k<;>rw[k] at e0 e1 e2<;>simp at e0 e1 e2<;>exact ext3 hx hy (by simpa using by assumption) (by simpa using by assumption) (by simpa using by assumption)
theorem Placed.fr {S:List SqT} {H:List HgT} {K:List Bool} {O:List FrT} (hn:NetOK S H) (hp:Placed S H K O) (hall:∀i:Nat,i<S.length→K.getD i false=true):∀s∈S,FrOK S.length (frS S O s):=fun s hs=>by
 obtain⟨x1,x2,x3⟩:=at_idxS hs
 have kc:=count_of_all (K:=K) (fun i hi=>hall i (by have:=hp.kl;omega))
 have:=hp.ok _ x2 (hall _ x2)
 rw[kc,hp.kl] at this
 exact this
theorem two_places {t β:Int} {c:SqT} {S:List SqT} {H:List HgT} {S':List SqT} {H':List HgT} (tn:TN t β c S H S' H') (hn:NetOK S H) (hn':NetOK S' H') (h20:S.length≤20) (hl:S'.length=S.length) (hH:H.length≤10000) (hH':H'.length≤10000):
  (∃O O' A v,nets_Place (fu nn) (S,H)=some (O,0)∧nets_Place (fu nn) (S',H')=some (O',0)∧A∈isoL∧(∀s∈S,FrOK 20 (frS S O s))∧(∀s∈S',FrOK 64 (frS S' O' s))∧O.length=S.length∧O'.length=S'.length∧∀s∈S,frS S' O' (mvS t c s)=isoF A v (reF t (frS S O s)))∨
  (nets_Place (fu nn) (S,H)=some ([],11)∧nets_Place (fu nn) (S',H')=some ([],11)):=by
 obtain⟨r,e,K,O,hp,hall,p1,p2⟩:=Place_ok (nn:=nn) hn hH
 obtain⟨r',e',K',O',hp',hall',p1',p2'⟩:=Place_ok (nn:=nn) hn' hH'
 have f:=hp.fr hn hall
 have f':=hp'.fr hn' hall'
 by_cases ho:∀g∈H,ovF (O.getD (idxS S g.1).toNat frZ) g=O.getD (idxS S (othS g)).toNat frZ
 ·left
  obtain⟨A,v,O2,hA,hv,ob,hr⟩:=turn_obey tn hn hn' (fun s hs=>(f s hs).mono (by omega)) ho
  have eO:O'=O2:=by
   have l1:=hp'.ol;have l2:=ob.len
   refine List.ext_getElem (by omega) fun i h1 h2=>?_
   have:=hp'.uni O2 ob i (by omega) (hall' i (by omega))
   rw[List.getD,List.getElem?_eq_getElem h1,List.getD,List.getElem?_eq_getElem h2] at this
   exact this
  subst eO
  rw[p1 ho] at e
  rw[p1' ob.obey] at e'
  exact⟨O,O',A,v,e,e',hA,fun s hs=>(f s hs).mono (by omega),fun s hs=>(f' s hs).mono (by omega),hp.ol,hp'.ol,hr⟩
 ·right
  have ho':¬ ∀g∈H',ovF (O'.getD (idxS S' g.1).toNat frZ) g=O'.getD (idxS S' (othS g)).toNat frZ:=fun hc=>by
   obtain⟨A,v,O2,hA,hv,ob,hr⟩:=turn_obey tn.symm hn' hn (fun s hs=>(f' s hs).mono (by omega)) hc
   have eO:O=O2:=by
    have l1:=hp.ol;have l2:=ob.len
    refine List.ext_getElem (by omega) fun i h1 h2=>?_
    have:=hp.uni O2 ob i (by omega) (hall i (by omega))
    rw[List.getD,List.getElem?_eq_getElem h1,List.getD,List.getElem?_eq_getElem h2] at this
    exact this
   subst eO
   exact ho ob.obey
  rw[p2 ho] at e
  rw[p2' ho'] at e'
  exact⟨e,e'⟩
theorem nodup_sp {S:List SqT} {O:List FrT} {B:Int} (hS:S.Nodup) (hl:O.length=S.length) (hO:∀s∈S,FrOK B (frS S O s)):(O.map spF).Nodup↔∀s∈S,∀u∈S,s≠u→c2 (frS S O s)≠c2 (frS S O u):=by
 have at_:∀i:Nat,i<S.length→frS S O (S.getD i (0,0))=O.getD i frZ:=fun i hi=>by
  unfold frS;rw[idxS_at hS hi,Int.toNat_natCast]
 rw[List.nodup_iff_pairwise_ne,List.pairwise_iff_getElem]
 constructor
 ·intro h s hs u hu hne e
  obtain⟨x1,x2,x3⟩:=at_idxS hs
  obtain⟨y1,y2,y3⟩:=at_idxS hu
  have e2:=(sp_iff (hO s hs) (hO u hu)).2 e
  unfold frS at e2
  rw[List.getD,List.getElem?_eq_getElem (by omega),List.getD,List.getElem?_eq_getElem (by omega)] at e2
  simp only[Option.getD_some] at e2
  rcases Nat.lt_trichotomy (idxS S s).toNat (idxS S u).toNat with g | g | g
  ·have:=h _ _ (by rw[List.length_map];omega) (by rw[List.length_map];omega) g
   rw[List.getElem_map,List.getElem_map] at this
   exact this e2
  ·exact hne (idxS_inj hs hu (by omega))
  ·have:=h _ _ (by rw[List.length_map];omega) (by rw[List.length_map];omega) g
   rw[List.getElem_map,List.getElem_map] at this
   exact this e2.symm
 ·intro h i j hi hj hij e
  rw[List.length_map] at hi hj
  rw[List.getElem_map,List.getElem_map] at e
  have mi:=getD_memS (L:=S) (i:=i) (by omega)
  have mj:=getD_memS (L:=S) (i:=j) (by omega)
  have ei:O[i]=frS S O (S.getD i (0,0)):=by rw[at_ i (by omega),List.getD,List.getElem?_eq_getElem hi];rfl
  have ej:O[j]=frS S O (S.getD j (0,0)):=by rw[at_ j (by omega),List.getD,List.getElem?_eq_getElem hj];rfl
  rw[ei,ej] at e
  refine h _ mi _ mj (fun c=>?_) ((sp_iff (hO _ mi) (hO _ mj)).1 e)
  have a:=idxS_at hS (i:=i) (by omega)
  have b:=idxS_at hS (i:=j) (by omega)
  rw[c,b] at a
  omega
theorem nodup_two {t β:Int} {c:SqT} {S:List SqT} {H:List HgT} {S':List SqT} {H':List HgT} (tn:TN t β c S H S' H') (hn:NetOK S H) (hn':NetOK S' H') {O O':List FrT} {A:Iso} {v:List Int} (hA:A∈isoL) (h1:∀s∈S,FrOK 20 (frS S O s)) (h2:∀s∈S',FrOK 64 (frS S' O' s)) (l1:O.length=S.length) (l2:O'.length=S'.length)
  (hr:∀s∈S,frS S' O' (mvS t c s)=isoF A v (reF t (frS S O s))):(O.map spF).Nodup↔(O'.map spF).Nodup:=by
 rw[nodup_sp hn.srt.nodup l1 h1,nodup_sp hn'.srt.nodup l2 h2]
 have key:∀s∈S,∀u∈S,(c2 (frS S' O' (mvS t c s))=c2 (frS S' O' (mvS t c u))↔c2 (frS S O s)=c2 (frS S O u)):=fun s hs u hu=>by
  rw[hr s hs,hr u hu,c2_iso,c2_iso,c2_re,c2_re]
  constructor
  ·intro e
   refine act_inj (isoL_ok A hA) rfl rfl (ext3 rfl rfl ?_ ?_ ?_)
   ·have:=congrArg (fun l=>l.getD 0 0) e;simp only[vadd_at _ (show 0<3 by decide)] at this;omega
   ·have:=congrArg (fun l=>l.getD 1 0) e;simp only[vadd_at _ (show 1<3 by decide)] at this;omega
   ·have:=congrArg (fun l=>l.getD 2 0) e;simp only[vadd_at _ (show 2<3 by decide)] at this;omega
  ·intro e;rw[e]
 constructor
 ·intro h s' hs' u' hu' hne e
  obtain⟨s,hs,rfl⟩:=(tn.sq _).1 hs'
  obtain⟨u,hu,rfl⟩:=(tn.sq _).1 hu'
  exact h s hs u hu (fun c=>hne (by rw[c])) ((key s hs u hu).1 e)
 ·intro h s hs u hu hne e
  exact h _ ((tn.sq _).2 ⟨s,hs,rfl⟩) _ ((tn.sq _).2 ⟨u,hu,rfl⟩) (fun c=>hne (mvS_inj c)) ((key s hs u hu).2 e)
end X
end Go.Vm
namespace Go.Vm
namespace X
open W
variable {nn:Nat}
theorem distC_of {α:Type} {cf:α→α→Int}:∀ {l:List α},l.Pairwise (fun a b=>cf a b<0)→distC cf l=true
 | [],_=>rfl
 | [x],_=>rfl
 | x::y::l,h=>by
   have h1:=(List.pairwise_cons.1 h).1 y (by simp)
   have h2:=distC_of (List.pairwise_cons.1 h).2
   simp only[distC,Bool.and_eq_true,decide_eq_true_eq]
   exact⟨h1,by simpa only[distC,Bool.and_eq_true] using h2⟩
theorem cfS_ltS {x y:SqT}:cfS x y<0↔ltS x y:=cfS_lt
theorem wayI_eq (g:HgT):wayI g=wayH g:=by
 unfold wayI wayH
 cases g.2.1<;>rfl
theorem cfH_ltH {x y:HgT}:cfH x y<0↔ltH x y:=by
 rw[cfH_lt,wayI_eq,wayI_eq]
 unfold ltH ltS
 rw[show(x.1=y.1)↔(x.1.1=y.1.1∧x.1.2=y.1.2) from Prod.ext_iff]
 omega
theorem ltH_tri {x y:HgT} (h:¬(x.1=y.1∧x.2.1=y.2.1)):ltH x y∨ltH y x:=by
 unfold ltH
 rcases ltS_tri x.1 y.1 with c | c | c
 ·exact .inl (.inl c)
 ·have:wayH x≠wayH y:=fun e=>h ⟨c,wayH_eq.1 e⟩
  by_cases g:wayH x<wayH y
  ·exact .inl (.inr ⟨c,g⟩)
  ·exact .inr (.inr ⟨c.symm,by omega⟩)
 ·exact .inr (.inl c)
theorem srtS {L:List SqT} (h:L.Nodup):Sorted (sortC cfS L)∧∀s,s∈sortC cfS L↔s∈L:=by
 have p:=sortC_perm cfS L
 refine⟨?_,fun s=>p.mem_iff⟩
 have h1:=sortC_sorted cfS swoS L
 have h2:=(p.nodup_iff.2 h)
 unfold Sorted
 rw[List.nodup_iff_pairwise_ne] at h2
 refine(h1.and h2).imp fun {a b} ⟨x,y⟩=>?_
 rw[cfS_ltS] at x
 rcases ltS_tri a b with c | c | c
 ·exact c
 ·exact absurd c y
 ·exact absurd c x
theorem pairwise_perm {α:Type} {R:α→α→Prop} (hs:∀ {a b},R a b→R b a) {l m:List α} (p:l.Perm m) (h:l.Pairwise R):m.Pairwise R:=p.pairwise h fun hab=>hs hab
theorem srtH {L:List HgT} (h:KD L):okH L=true∧(sortC cfH L).Pairwise ltH∧∀g,g∈sortC cfH L↔g∈L:=by
 have p:=sortC_perm cfH L
 have h1:=sortC_sorted cfH swoH L
 have h2:(sortC cfH L).Pairwise fun a b=>¬(a.1=b.1∧a.2.1=b.2.1):=pairwise_perm (fun {a b} hab c=>hab ⟨c.1.symm,c.2.symm⟩) p.symm h
 have h3:(sortC cfH L).Pairwise ltH:=(h1.and h2).imp fun {a b} ⟨x,y⟩=>by
  rw[cfH_ltH] at x
  rcases ltH_tri y with c | c
  ·exact c
  ·exact absurd c x
 exact⟨distC_of (h3.imp fun {a b} c=>cfH_ltH.2 c),h3,fun g=>p.mem_iff⟩
theorem oth_lt (h:HgT):ltS h.1 (othS h):=by
 obtain⟨⟨x,y⟩,u,b⟩:=h
 unfold ltS othS
 cases u<;>simp<;>omega
theorem mvH_inj {t:Int} {c:SqT} (ht:0≤t∧t≤7) {g h:HgT} (e1:(mvH t c g).1=(mvH t c h).1) (e2:(mvH t c g).2.1=(mvH t c h).2.1):g.1=h.1∧g.2.1=h.2.1:=by
 have eo:othS (mvH t c g)=othS (mvH t c h):=by unfold othS;rw[e1,e2]
 have up:g.1=h.1→othS g=othS h→g.1=h.1∧g.2.1=h.2.1:=fun a b=>by
  refine⟨a,?_⟩
  unfold othS at b
  rw[a] at b
  cases x:g.2.1<;>cases y:h.2.1<;>rw[x,y] at b<;>simp[Prod.ext_iff] at b ⊢<;>omega
 have no:g.1=othS h→othS g=h.1→False:=fun a b=>by
  have l1:=oth_lt g
  have l2:=oth_lt h
  rw[a,b] at l1
  exact ltS_irr _ (ltS_trans l1 l2)
 unfold mvH at e1 eo
 rcases btw_ends (d:=g.2.2) (adj_mv (c:=c) ht (adj_oth g)) with⟨a1,a2⟩ | ⟨a1,a2⟩<;>rcases btw_ends (d:=h.2.2) (adj_mv (c:=c) ht (adj_oth h)) with⟨b1,b2⟩ | ⟨b1,b2⟩
 all_goals rw[a1,b1] at e1
 all_goals rw[a2,b2] at eo
 ·exact up (mvS_inj e1) (mvS_inj eo)
 ·exact(no (mvS_inj e1) (mvS_inj eo)).elim
 ·exact(no (mvS_inj eo) (mvS_inj e1)).elim
 ·exact up (mvS_inj eo) (mvS_inj e1)
theorem mvS_nodup {t:Int} {c:SqT} {S:List SqT} (h:S.Nodup):(S.map (mvS t c)).Nodup:=by
 rw[List.nodup_iff_pairwise_ne,List.pairwise_map]
 rw[List.nodup_iff_pairwise_ne] at h
 exact h.imp fun {a b} hne e=>hne (mvS_inj e)
theorem mvH_kd {t:Int} {c:SqT} {H:List HgT} (ht:0≤t∧t≤7) (h:KD H):KD (H.map (mvH t c)):=by
 unfold KD at *
 rw[List.pairwise_map]
 exact h.imp fun {a b} hne e=>hne (mvH_inj ht e.1 e.2)
def ovB (o:Bool) (H:List HgT):List HgT:=bif o then H.map negB else H
theorem negB_ltH {L:List HgT} (h:L.Pairwise ltH):(L.map negB).Pairwise ltH:=by
 rw[List.pairwise_map]
 exact h.imp fun {a b} c=>c
def bet (o:Bool):Int:=bif o then -1 else 1
structure TurnedNet (t:Int) (o:Bool) (S:List SqT) (H:List HgT):Prop where
 ok:okH (H.map (mvH t (loS t S)))=true
 bd:∀g∈hgT t S H, -1≤g.2.2∧g.2.2≤1
 tn:TN t (bet o) (loS t S) S H (sqT t S) (ovB o (hgT t S H))
 net:NetOK (sqT t S) (ovB o (hgT t S H))
 sl:(sqT t S).length=S.length
 hl:(ovB o (hgT t S H)).length=H.length
 low:IsLow (loS t S) (S.map (tS t))
 sm:∀s∈sqT t S,(0≤s.1∧s.1≤64)∧(0≤s.2∧s.2≤64)
theorem SmN.of {B:Int} (hB:B≤99) {S:List SqT} {H:List HgT} (hn:NetOK S H) (hs:∀s∈S,smallS B s) (hl:H.length≤1000):SmN 100 S H:=
 ⟨fun s h=>smallS_mono (hs s h) (by omega),fun g hg=>⟨smallS_mono (hs _ (hn.ends g hg).1) (by omega),smallS_mono (hs _ (hn.ends g hg).2) (by omega),hn.bend g hg⟩,hn.le,hl,fun c=>by have:=hn.ge;rw[c] at this;simp at this⟩
theorem low_of {t:Int} {S:List SqT} {H:List HgT} {B:Int} (hB:B≤99) (hn:NetOK S H) (hs:∀s∈S,smallS B s):IsLow (loS t S) (S.map (tS t)):=mn2_low (by have:=hn.ge;intro c;rw[List.map_eq_nil_iff] at c;rw[c] at this;simp at this) (.inr fun s h=>by
 obtain⟨x,hx,rfl⟩:=List.mem_map.1 h
 obtain⟨⟨_,_⟩,_,_⟩:=tS_small t (hs x hx)
 simp only;omega)
theorem turned_net {S:List SqT} {H:List HgT} {lo hi:Int} (hn:NetOK S H) (hs:∀s∈S,(lo≤s.1∧s.1≤hi)∧(lo≤s.2∧s.2≤hi)) (hd:hi-lo≤64) (h1: -90≤lo) (h2:hi≤90) {t:Int} (ht:0≤t∧t≤7) (o:Bool) (hH:H.length≤1000):TurnedNet t o S H:=by
 have sm99:∀s∈S,smallS 90 s:=fun s h=>by
  obtain⟨⟨_,_⟩,_,_⟩:=hs s h
  exact⟨⟨by omega,by omega⟩,by omega,by omega⟩
 have low:=low_of (t:=t) (by decide) hn sm99
 have kd:=mvH_kd (c:=loS t S) ht (KD_of hn.hs)
 obtain⟨ok,hp,hm⟩:=srtH kd
 obtain⟨sp,smm⟩:=srtS (mvS_nodup (t:=t) (c:=loS t S) hn.srt.nodup)
 have bd:∀g∈hgT t S H, -1≤g.2.2∧g.2.2≤1:=fun g hg=>by
  obtain⟨k,hk,rfl⟩:=List.mem_map.1 ((hm g).1 hg)
  unfold mvH
  rw[btw_bend]
  exact hn.bend k hk
 have sl:(sqT t S).length=S.length:=by unfold sqT;rw[(sortC_perm _ _).length_eq,List.length_map]
 have hl:(hgT t S H).length=H.length:=by unfold hgT;rw[(sortC_perm _ _).length_eq,List.length_map]
 have hl2:(ovB o (hgT t S H)).length=H.length:=by
  unfold ovB
  cases o
  ·exact hl
  ·rw[cond_true,List.length_map,hl]
 have tn:TN t (bet o) (loS t S) S H (sqT t S) (ovB o (hgT t S H)):=by
  refine⟨ht,by cases o<;>simp[bet],fun s'=>?_,fun g=>?_⟩
  ·unfold sqT
   rw[smm,List.mem_map]
  ·unfold ovB bet
   cases o
   ·simp only[cond_false]
    unfold hgT
    rw[hm,List.mem_map]
    constructor
    ·rintro ⟨k,hk,e⟩;exact⟨k,hk,by rw[←e,Int.one_mul];rfl⟩
    ·rintro ⟨k,hk,e⟩;exact⟨k,hk,by rw[e,Int.one_mul];rfl⟩
   ·simp only[cond_true]
    have nb:∀k:HgT,negB (mvH t (loS t S) k)=btw (mvS t (loS t S) k.1) (mvS t (loS t S) (othS k)) (-1*k.2.2):=fun k=>by
     unfold negB mvH btw
     split<;>(refine Prod.ext rfl (Prod.ext rfl ?_);simp)
    rw[List.mem_map]
    constructor
    ·rintro ⟨k,hk,e⟩
     unfold hgT at hk
     obtain⟨k',hk',rfl⟩:=List.mem_map.1 ((hm k).1 hk)
     exact⟨k',hk',by rw[←e,nb]⟩
    ·rintro ⟨k,hk,e⟩
     exact⟨mvH t (loS t S) k,by unfold hgT;rw[hm];exact List.mem_map.2 ⟨k,hk,rfl⟩,by rw[e,nb]⟩
 have hb:∀s∈sqT t S,(0≤s.1∧s.1≤64)∧(0≤s.2∧s.2≤64):=fun s h=>by
  obtain⟨x,hx,rfl⟩:=(tn.sq s).1 h
  have l1:=low.le _ (List.mem_map.2 ⟨x,hx,rfl⟩)
  obtain⟨a,ha,ea⟩:=low.a1
  obtain⟨b,hb,eb⟩:=low.a2
  obtain⟨a',ha',rfl⟩:=List.mem_map.1 ha
  obtain⟨b',hb',rfl⟩:=List.mem_map.1 hb
  obtain⟨⟨x1,x2⟩,x3,x4⟩:=hs x hx
  obtain⟨⟨y1,y2⟩,y3,y4⟩:=hs a' ha'
  obtain⟨⟨z1,z2⟩,z3,z4⟩:=hs b' hb'
  have d1:(tS t x).1-(tS t a').1≤64:=by
   unfold tS;repeat' split
   all_goals (first | (simp only;omega) | omega)
  have d2:(tS t x).2-(tS t b').2≤64:=by
   unfold tS;repeat' split
   all_goals (first | (simp only;omega) | omega)
  unfold mvS
  simp only
  omega
 refine⟨ok,bd,tn,tn.netOK hn sl sp ?_ fun s h=>?_,sl,hl2,low,hb⟩
 ·unfold ovB
  cases o
  ·exact hp
  ·exact negB_ltH hp
 ·have:=hb s h;omega
theorem sorted_uniq {L M:List SqT} (h1:Sorted L) (h2:Sorted M) (h:∀s,s∈L↔s∈M):L=M:=by
 have hp:L.Perm M:=(List.perm_ext_iff_of_nodup h1.nodup h2.nodup).2 h
 exact hp.eq_of_pairwise (fun a b _ _ x y=>(ltS_irr _ (ltS_trans x y)).elim) h1 h2
theorem ltH_asymm {x y:HgT} (h:ltH x y) (k:ltH y x):False:=by
 unfold ltH at h k
 rcases h with h | ⟨h,h'⟩<;>rcases k with k | ⟨k,k'⟩
 ·exact ltS_irr _ (ltS_trans h k)
 ·rw[k] at h;exact ltS_irr _ h
 ·rw[h] at k;exact ltS_irr _ k
 ·omega
theorem hinges_uniq {L M:List HgT} (h1:L.Pairwise ltH) (h2:M.Pairwise ltH) (h:∀s,s∈L↔s∈M):L=M:=by
 have hp:L.Perm M:=(List.perm_ext_iff_of_nodup (ltH_nodup h1) (ltH_nodup h2)).2 h
 exact hp.eq_of_pairwise (fun a b _ _ x y=>(ltH_asymm x y).elim) h1 h2
theorem tS_add {t:Int} (ht:0≤t∧t≤7) (c s:SqT):∃k:SqT,∀s:SqT,tS (bk t) (mvS t c s)=(s.1+k.1,s.2+k.2):=by
 refine⟨tS (bk t) (mvS t c (0,0)),fun s=>?_⟩
 have:=mv_back c ht s
 unfold mvS at this
 rw[Prod.ext_iff] at this
 obtain⟨e1,e2⟩:=this
 simp only at e1 e2
 refine Prod.ext ?_ ?_
 ·show(tS (bk t) ((tS t s).1-c.1,(tS t s).2-c.2)).1=s.1+ (tS (bk t) (mvS t c (0,0))).1
  unfold mvS
  omega
 ·show(tS (bk t) ((tS t s).1-c.1,(tS t s).2-c.2)).2=s.2+ (tS (bk t) (mvS t c (0,0))).2
  unfold mvS
  omega
theorem turn_back {t:Int} {o:Bool} {S:List SqT} {H:List HgT} (a:TurnedNet t o S H) (b:TurnedNet (bk t) o (sqT t S) (ovB o (hgT t S H))) (z:TurnedNet 0 false S H):sqT (bk t) (sqT t S)=sqT 0 S∧ovB o (hgT (bk t) (sqT t S) (ovB o (hgT t S H)))=hgT 0 S H:=by
 have ht:=a.tn.t0
 have sy:=a.tn.symm
 obtain⟨k,hk⟩:=tS_add ht (loS t S) (0,0)
 have mv2:∀s,mvS (bk t) (loS (bk t) (sqT t S)) (mvS t (loS t S) s)=(s.1+k.1-(loS (bk t) (sqT t S)).1,s.2+k.2-(loS (bk t) (sqT t S)).2):=fun s=>by
  unfold mvS
  have:=hk s
  unfold mvS at this
  rw[this]
 have low0:loS 0 S=((loS (bk t) (sqT t S)).1-k.1,(loS (bk t) (sqT t S)).2-k.2):=by
  refine z.low.uniq ⟨fun s hs=>?_,?_,?_⟩
  ·obtain⟨x,hx,rfl⟩:=List.mem_map.1 hs
   have:=b.low.le _ (List.mem_map.2 ⟨_,(a.tn.sq _).2 ⟨x,hx,rfl⟩,rfl⟩)
   rw[hk] at this
   show _≤x.1∧_≤x.2
   simp only at this ⊢
   omega
  ·obtain⟨s,hs,e⟩:=b.low.a1
   obtain⟨y,hy,rfl⟩:=List.mem_map.1 hs
   obtain⟨x,hx,rfl⟩:=(a.tn.sq y).1 hy
   rw[hk] at e
   exact⟨x,List.mem_map.2 ⟨x,hx,rfl⟩,by simp only at e ⊢;omega⟩
  ·obtain⟨s,hs,e⟩:=b.low.a2
   obtain⟨y,hy,rfl⟩:=List.mem_map.1 hs
   obtain⟨x,hx,rfl⟩:=(a.tn.sq y).1 hy
   rw[hk] at e
   exact⟨x,List.mem_map.2 ⟨x,hx,rfl⟩,by simp only at e ⊢;omega⟩
 have mv0:∀s,mvS (bk t) (loS (bk t) (sqT t S)) (mvS t (loS t S) s)=mvS 0 (loS 0 S) s:=fun s=>by
  rw[mv2,low0]
  refine Prod.ext ?_ ?_
  ·show s.1+k.1-_=s.1-(_-k.1);omega
  ·show s.2+k.2-_=s.2-(_-k.2);omega
 refine⟨sorted_uniq b.net.srt z.net.srt fun s=>?_,hinges_uniq b.net.hs z.net.hs fun g=>?_⟩
 ·rw[b.tn.sq,z.tn.sq]
  constructor
  ·rintro ⟨y,hy,e⟩
   obtain⟨x,hx,rfl⟩:=(a.tn.sq y).1 hy
   exact⟨x,hx,by rw[←mv0];exact e⟩
  ·rintro ⟨x,hx,e⟩
   exact⟨_,(a.tn.sq _).2 ⟨x,hx,rfl⟩,by rw[mv0];exact e⟩
 ·have hb:∀x:HgT,btw (mvS (bk t) (loS (bk t) (sqT t S)) (btw (mvS t (loS t S) x.1) (mvS t (loS t S) (othS x)) (bet o*x.2.2)).1) (mvS (bk t) (loS (bk t) (sqT t S)) (othS (btw (mvS t (loS t S) x.1) (mvS t (loS t S) (othS x)) (bet o*x.2.2)))) (bet o* (btw (mvS t (loS t S) x.1) (mvS t (loS t S) (othS x)) (bet o*x.2.2)).2.2)=btw (mvS 0 (loS 0 S) x.1) (mvS 0 (loS 0 S) (othS x)) (bet false*x.2.2):=fun x=>by
   have eb:bet o* (bet o*x.2.2)=bet false*x.2.2:=by cases o<;>simp[bet]
   rw[btw_bend,eb]
   rcases btw_ends (d:=bet o*x.2.2) (adj_mv (c:=loS t S) ht (adj_oth x)) with⟨e1,e2⟩ | ⟨e1,e2⟩
   ·rw[e1,e2,mv0,mv0]
   ·rw[e1,e2,mv0,mv0,btw_symm fun c=>oth_neq x (mvS_inj c).symm]
  rw[show(g∈hgT 0 S H↔g∈ovB false (hgT 0 S H)) from Iff.rfl,b.tn.hg,z.tn.hg]
  constructor
  ·rintro ⟨y,hy,e⟩
   obtain⟨x,hx,rfl⟩:=(a.tn.hg y).1 hy
   exact⟨x,hx,by rw[e,hb]⟩
  ·rintro ⟨x,hx,e⟩
   exact⟨_,(a.tn.hg _).2 ⟨x,hx,rfl⟩,by rw[e,hb]⟩
end X
end Go.Vm
namespace Go.Vm
namespace X
open W
variable {nn:Nat}
theorem getD_take_map {α β:Type} {L:List α} {f:α→β} {i:Nat} {d:β} {e:α} (h:i<L.length):(L.map f).getD i d=f (L.getD i e):=by
 rw[List.getD,List.getElem?_map,List.getElem?_eq_getElem h,List.getD,List.getElem?_eq_getElem h];rfl
theorem two_spots {t β:Int} {c:SqT} {S:List SqT} {H:List HgT} {S':List SqT} {H':List HgT} (tn:TN t β c S H S' H') (hn:NetOK S H) (hn':NetOK S' H') (h20:S.length≤20) (hl:S'.length=S.length) (hH:H.length≤10000) (hH':H'.length≤10000):
  ∃(X X':List SpT) (e:Int) (m m':Nat→List Int),nets_Spots (fu nn) (S,H)=some (X,e)∧nets_Spots (fu nn) (S',H')=some (X',e)∧X'.length=X.length∧(e=0→X.length=S.length)∧(X=[]∨X.length=S.length)∧
   (∀i:Nat,i<X.length→law38_middle (fu nn) ([(X.getD i spZ).1.getD 0 0,(X.getD i spZ).1.getD 1 0,(X.getD i spZ).1.getD 2 0],(X.getD i spZ).2)=some (m i)∧law38_middle (fu nn) ([(X'.getD (idxS S' (mvS t c (S.getD i (0,0)))).toNat spZ).1.getD 0 0,(X'.getD (idxS S' (mvS t c (S.getD i (0,0)))).toNat spZ).1.getD 1 0,(X'.getD (idxS S' (mvS t c (S.getD i (0,0)))).toNat spZ).1.getD 2 0],(X'.getD (idxS S' (mvS t c (S.getD i (0,0)))).toNat spZ).2)=some (m' i))∧
   ∀i j:Nat,i<X.length→j<X.length→∃d,law38_far (fu nn) (m i,m j)=some d∧law38_far (fu nn) (m' i,m' j)=some d:=by
 have bad:∀ {S:List SqT} {H:List HgT},nets_Place (fu nn) (S,H)=some ([],11)→nets_Spots (fu nn) (S,H)=some ([],11):=fun {S H} e=>by
  unfold nets_Spots
  rw[show nets_Place (fu nn) ((S,H).1,(S,H).2)=some ([],11) from e,Option.bind_some]
  rfl
 rcases two_places (nn:=nn) tn hn hn' h20 hl hH hH' with⟨O,O',A,v,e1,e2,hA,f1,f2,l1,l2,hr⟩ | ⟨e1,e2⟩
 rotate_left
 ·exact⟨[],[],11,fun _=>[],fun _=>[],bad e1,bad e2,rfl,(fun c=>by cases c),.inl rfl,fun i hi=>absurd hi (Nat.not_lt_zero _),fun i j hi=>absurd hi (Nat.not_lt_zero _)⟩
 have at1:∀i:Nat,i<S.length→frS S O (S.getD i (0,0))=O.getD i frZ:=fun i hi=>by
  unfold frS;rw[idxS_at hn.srt.nodup hi,Int.toNat_natCast]
 have at2:∀i:Nat,i<S'.length→frS S' O' (S'.getD i (0,0))=O'.getD i frZ:=fun i hi=>by
  unfold frS;rw[idxS_at hn'.srt.nodup hi,Int.toNat_natCast]
 have s1:=Spots_ok e1 (fun i hi=>by rw[←at1 i (by omega)];exact(f1 _ (getD_memS (by omega))).sm (by omega)) (by omega)
 have s2:=Spots_ok e2 (fun i hi=>by rw[←at2 i (by omega)];exact(f2 _ (getD_memS (by omega))).sm (by omega)) (by omega)
 have nd:=nodup_two tn hn hn' hA f1 f2 l1 l2 hr
 by_cases hnd:(O.map spF).Nodup
 rotate_left
 ·refine⟨[],[],12,fun _=>[],fun _=>[],?_,?_,rfl,(fun c=>by cases c),.inl rfl,fun i hi=>absurd hi (Nat.not_lt_zero _),fun i j hi=>absurd hi (Nat.not_lt_zero _)⟩
  ·rw[s1];unfold spotsR;rw[if_neg hnd]
  ·rw[s2];unfold spotsR;rw[if_neg fun g=>hnd (nd.2 g)]
 refine⟨O.map spF,O'.map spF,0,fun i=>c2 (frS S O (S.getD i (0,0))),fun i=>c2 (frS S' O' (mvS t c (S.getD i (0,0)))),?_,?_,by rw[List.length_map,List.length_map];omega,fun _=>by rw[List.length_map];exact l1,.inr (by rw[List.length_map];exact l1),fun i hi=>?_,fun i j hi hj=>?_⟩
 ·rw[s1];unfold spotsR;rw[if_pos hnd]
 ·rw[s2];unfold spotsR;rw[if_pos (nd.1 hnd)]
 ·rw[List.length_map] at hi
  have mi:=getD_memS (L:=S) (i:=i) (by omega)
  obtain⟨x1,x2,x3⟩:=at_idxS ((tn.sq _).2 ⟨_,mi,rfl⟩)
  rw[getD_take_map (e:=frZ) hi,getD_take_map (e:=frZ) (by omega),←at1 i (by omega)]
  have e2:O'.getD (idxS S' (mvS t c (S.getD i (0,0)))).toNat frZ=frS S' O' (mvS t c (S.getD i (0,0))):=rfl
  rw[e2,eta3 (spF_len _),eta3 (spF_len _)]
  exact⟨middle_ok ((f1 _ mi).mono (by omega)),middle_ok (f2 _ ((tn.sq _).2 ⟨_,mi,rfl⟩))⟩
 ·rw[List.length_map] at hi hj
  have mi:=getD_memS (L:=S) (i:=i) (by omega)
  have mj:=getD_memS (L:=S) (i:=j) (by omega)
  have bd:∀ {f:FrT},FrOK 64 f→∀k:Nat,k<3→ -400≤(c2 f).getD k 0∧(c2 f).getD k 0≤400:=fun {f} h k hk=>by
   have sm:=h.sm (by omega)
   have:=h.lo k hk;have:=h.hi k hk;have:=sm.r k hk;have:=sm.u k hk
   rw[c2_at f k hk];omega
  refine⟨_,far_ok (bd ((f1 _ mi).mono (by omega))) (bd ((f1 _ mj).mono (by omega))),?_⟩
  rw[far_ok (bd (f2 _ ((tn.sq _).2 ⟨_,mi,rfl⟩))) (bd (f2 _ ((tn.sq _).2 ⟨_,mj,rfl⟩))),hr _ mi,hr _ mj,c2_iso,c2_iso,c2_re,c2_re,far_iso (isoL_ok A hA)]
theorem back_getD {T:Int} (h:0≤T∧T≤7):([0,3,2,1,4,5,6,7]:List Int).getD T.toNat 0=bk T:=by
 rcases(by omega:T=0∨T=1∨T=2∨T=3∨T=4∨T=5∨T=6∨T=7) with rfl | rfl | rfl | rfl | rfl | rfl | rfl | rfl<;>rfl
theorem btw_ord (a b:SqT) (d:Int) {x:SqT×SqT} (h:x=if ltS b a then(b,a) else(a,b)):btw a b d=(x.1,(decide (x.1.1=x.2.1),d)):=by
 unfold btw
 by_cases c:ltS b a
 ·rw[if_pos c] at h ⊢;rw[h]
 ·rw[if_neg c] at h ⊢;rw[h]
theorem wrap_bet {o:Bool} {b:Int} (h: -1≤b∧b≤1):IntKind.i8.wrap (bet o*b)=bet o*b:=by
 cases o<;>rcases(by omega:b= -1∨b=0∨b=1) with rfl | rfl | rfl<;>decide
set_option maxHeartbeats 2000000 in
theorem law38_NetsTurned_true {a:List (List Int)} {c b z:Int} {o:Bool} (hb:bytes3 a) (hn:a.length≤nn) (hbig:a.length≤140737488355328) (hc:0≤c∧c≤18446744073709551615) (hbb:0≤b∧b≤18446744073709551615) (hz:0≤z∧z≤255)
  (hl:law38_lives (fu nn) ()=some true):law38_NetsTurned (fu nn) ((a,(c,b)),(z,o))=some true:=by
 apply Ret.eq
 unfold law38_NetsTurned
 obtain⟨n,en,hnet,htree,h20,hsm⟩:=Tree_ok (c:=c) (b:=b) hb hn hbig
 obtain⟨q,eq,hq,hsub,hql⟩:=Of_ok en hnet htree h20 hc hbb
 obtain⟨S,H⟩:=n
 simp only at hnet htree h20 eq hq hsub hsm
 have hge:=hnet.ge
 have LV:Ret ((law38_lives (fu nn) ()).bind fun r=>some r) fun x=>x=true:=by rw[hl];exact Ret_some rfl
 have rng:∀s∈S,(-20≤s.1∧s.1≤20)∧(-20≤s.2∧s.2≤20):=hsm
 have smN:SmN 100 S q:=SmN.of (B:=20) (by decide) hq hsm (by omega)
 have TNet:∀ {t:Int},0≤t∧t≤7→∀o,TurnedNet t o S q:=fun ht o=>turned_net hq rng (by decide) (by decide) (by decide) ht o (by omega)
 have h8:0≤z%8∧z%8≤7:=by omega
 simp only
 rw[eq,Option.bind_some]
 refine Ret_chk (by simp;omega) ?_
 rw[Turned_ok hq smN h8 (TNet h8 false).ok,Option.bind_some]
 refine Ret_jn (fun x=>∃T,TurnedNet T o S q∧(o=true→T=4)∧x=(T,(bet o,(0,((sqT T S,(sqT T S).length),(ovB o (hgT T S q),(ovB o (hgT T S q)).length)))))) (fun x hx=>?_) fun j hj=>?_
 rotate_left
 ·refine Ret_bif (fun ho=>?_) fun ho=>?_
  ·have w:=TNet (t:=4) (by decide) true
   rw[Over_ok hq smN w.ok w.bd,Option.bind_some]
   subst ho
   exact hj _ ⟨4,w,fun _=>rfl,rfl⟩
  ·subst ho
   exact hj _ ⟨z%8,TNet h8 false,fun c=>(by cases c),rfl⟩
 obtain⟨T,w,h4,rfl⟩:=hx
 simp only
 have hT:=w.tn.t0
 have tn:=w.tn
 have hn':=w.net
 have sl:=w.sl
 have hl':=w.hl
 have w0:=TNet (t:=0) (by decide) false
 have rng':∀s∈sqT T S,(0≤s.1∧s.1≤64)∧(0≤s.2∧s.2≤64):=w.sm
 have smN':SmN 100 (sqT T S) (ovB o (hgT T S q)):=SmN.of (B:=64) (by decide) hn' (fun s hs=>by obtain⟨⟨_,_⟩,_,_⟩:=rng' s hs;exact⟨⟨by omega,by omega⟩,by omega,by omega⟩) (by omega)
 have w2:∀o',TurnedNet (bk T) o' (sqT T S) (ovB o (hgT T S q)):=fun o'=>turned_net hn' rng' (by decide) (by decide) (by decide) (bk_rng hT) o' (by omega)
 obtain⟨back1,back2⟩:=turn_back w (w2 o) w0
 have low:IsLow (loS T S) (S.map (tS T)):=w.low
 generalize hS':sqT T S=S' at tn hn' sl rng' smN' w2 back1 back2 ⊢
 generalize hH':ovB o (hgT T S q)=H' at tn hn' hl' smN' w2 back1 back2 ⊢
 generalize hlo:loS T S=lo at tn low
 have mem':∀s∈S,mvS T lo s∈S':=fun s hs=>(tn.sq _).2 ⟨s,hs,rfl⟩
 refine Ret_jn (fun x=>x=false) (fun x hx=>?_) fun j hj=>?_
 rotate_left
 ·refine Ret_dec (fun g=>absurd rfl g) fun _=>?_
  rw[Check_ok hn' (by omega),Option.bind_some]
  refine Ret_dec (fun g=>absurd rfl g) fun _=>Ret_dec (fun g=>by omega) fun _=>Ret_dec (fun g=>by omega) fun _=>Ret_dec (fun g=>absurd rfl g) fun _=>?_
  exact hj _ (by simp)
 subst hx
 refine Ret_bif (fun c=>by cases c) fun _=>Ret_chk (inb_t (by omega) (by omega)) ?_
 have m0:=getD_memS (L:=S) (i:=0) (by omega)
 rw[show law38_moved (fu nn) (((S.getD 0 (0,0)).1,(S.getD 0 (0,0)).2),T)=some (tS T (S.getD 0 (0,0))) from moved_ok (hsm _ m0) (by omega) hT,Option.bind_some]
 refine Ret_loop (Inv:=fun x:Int×(Int×Int)=>0≤x.1∧x.1≤S.length∧x.2=mn2 (tS T (S.getD 0 (0,0))) ((S.take x.1.toNat).map (tS T))) (m:=fun x=>((S.length:Int)-x.1).toNat) ?_ _ _ ⟨by simp,by simp,by simp[mn2]⟩ (by simp only[fu];omega)
 rintro ⟨i,L⟩ rec ⟨i1,i2,i3⟩ ih
 simp only at i1 i2 i3 ⊢
 subst i3
 refine Ret_dec (fun hlt=>?_) fun hge2=>?_
 ·have hx:=hsm _ (getD_memS (L:=S) (i:=i.toNat) (by omega))
  rw[show law38_moved (fu nn) (((S.getD i.toNat (0,0)).1,(S.getD i.toNat (0,0)).2),T)=some (tS T (S.getD i.toNat (0,0))) from moved_ok hx (by omega) hT,Option.bind_some]
  refine Ret_chk (inb_t (by omega) (by omega)) (Ret_chk (i64b_t (by omega) (by omega)) (ih _ ⟨by simp only;omega,by simp only;omega,?_⟩ (by simp only;omega)))
  simp only
  have eg:S.getD i.toNat (0,0)=S[i.toNat]'(by omega):=by rw[List.getD,List.getElem?_eq_getElem (by omega)];rfl
  rw[show(i+1).toNat=i.toNat+1 by omega,foldl_map_take (by omega),mn2_snoc,eg]
 have elow:mn2 (tS T (S.getD 0 (0,0))) ((S.take i.toNat).map (tS T))=lo:=by
  rw[List.take_of_length_le (by omega)]
  exact IsLow.uniq (mn2_low (by intro c;rw[List.map_eq_nil_iff] at c;rw[c] at hge;simp at hge) (.inl (List.mem_map.2 ⟨_,m0,rfl⟩))) low
 rw[elow]
 have mvb:∀s∈S,i64b ((tS T s).1-lo.1)=true∧i64b ((tS T s).2-lo.2)=true:=fun s hs=>by
  obtain⟨⟨_,_⟩,_,_⟩:=rng' _ (mem' s hs)
  unfold mvS at *
  simp only at *
  exact⟨i64b_t (by omega) (by omega),i64b_t (by omega) (by omega)⟩
 refine Ret_loop (Inv:=fun x:List Int×Int=>0≤x.2∧x.2≤S.length∧x.1=(S.take x.2.toNat).map fun s=>idxS S' (mvS T lo s)) (m:=fun x=>((S.length:Int)-x.2).toNat) ?_ _ _ ⟨by simp,by simp,by simp⟩ (by simp only[fu];omega)
 rintro ⟨at_,i'⟩ rec2 ⟨j1,j2,j3⟩ ih2
 simp only at j1 j2 j3 ⊢
 subst j3
 refine Ret_dec (fun hlt=>?_) fun hge3=>?_
 ·have hm:=getD_memS (L:=S) (i:=i'.toNat) (by omega)
  obtain⟨b1,b2⟩:=mvb _ hm
  rw[show law38_moved (fu nn) (((S.getD i'.toNat (0,0)).1,(S.getD i'.toNat (0,0)).2),T)=some (tS T (S.getD i'.toNat (0,0))) from moved_ok (hsm _ hm) (by omega) hT,Option.bind_some]
  refine Ret_chk (inb_t (by omega) (by omega)) (Ret_chk b1 (Ret_chk b2 ?_))
  rw[show law38_has (fu nn) (S',((tS T (S.getD i'.toNat (0,0))).1-lo.1,(tS T (S.getD i'.toNat (0,0))).2-lo.2))=some (decide (mvS T lo (S.getD i'.toNat (0,0))∈S')) from has_ok (by omega) _,decide_eq_true (mem' _ hm),Option.bind_some]
  refine Ret_bif (fun c=>by cases c) fun _=>?_
  rw[show law38_index (fu nn) ((S',H'),((tS T (S.getD i'.toNat (0,0))).1-lo.1,(tS T (S.getD i'.toNat (0,0))).2-lo.2))=some (idxS S' (mvS T lo (S.getD i'.toNat (0,0)))) from index_law (by omega) (mem' _ hm),Option.bind_some]
  refine Ret_chk (lenOk_t (by rw[List.length_map,List.length_take];omega)) (Ret_chk (i64b_t (by omega) (by omega)) (ih2 _ ⟨by simp only;omega,by simp only;omega,?_⟩ (by simp only;omega)))
  simp only
  rw[show(i'+1).toNat=i'.toNat+1 by omega,foldl_map_take (by omega),List.getD,List.getElem?_eq_getElem (by omega)]
  rfl
 rw[List.take_of_length_le (by omega:S.length≤i'.toNat)]
 have atl:(S.map fun s=>idxS S' (mvS T lo s)).length=S.length:=List.length_map _
 have atg:∀k:Nat,k<S.length→(S.map fun s=>idxS S' (mvS T lo s)).getD k 0=idxS S' (mvS T lo (S.getD k (0,0))):=fun k hk=>getD_take_map hk
 have ats:∀s∈S,(S.map fun s=>idxS S' (mvS T lo s)).getD (idxS S s).toNat 0=idxS S' (mvS T lo s):=fun s hs=>by
  obtain⟨x1,x2,x3⟩:=at_idxS hs
  rw[atg _ x2,x3]
 clear ih ih2 rec rec2
 refine Ret_loop (Inv:=fun i:Int=>0≤i∧i≤q.length) (m:=fun i=>((q.length:Int)-i).toNat) ?_ _ _ ⟨by simp,by simp⟩ (by simp only[fu];omega)
 rintro j rec3 ⟨j1,j2⟩ ih3
 refine Ret_dec (fun hlt3=>?_) fun hge4=>?_
 ·have hg:=getD_memH (H:=q) (i:=j.toNat) (by omega)
  refine Ret_chk (inb_t (by omega) (by omega)) ?_
  change Ret ((law38_beside (fu nn) ((q.getD j.toNat hZ).1,0)).bind _) _
  generalize hgg:q.getD j.toNat hZ=g at *
  obtain⟨g1,g2⟩:=hq.ends g hg
  have gb:=hq.bend g hg
  have smS:smallS 20 g.1:=hsm _ g1
  rw[beside_ok smS (by omega),Option.bind_some]
  refine Ret_jn (fun x:Int×Int=>x=othS g) (fun x hx=>?_) fun j hj=>?_
  rotate_left
  ·refine Ret_bif (fun hu=>?_) fun hu=>?_
   ·rw[beside_ok smS (by omega),Option.bind_some]
    refine hj _ ?_
    rw[←besU_eq,if_pos hu]
   ·refine hj _ ?_
    rw[←besU_eq,if_neg (by rw[hu];decide)]
  subst hx
  obtain⟨x1,x2,x3⟩:=at_idxS g1
  obtain⟨z1,z2,z3⟩:=at_idxS g2
  obtain⟨u1,u2,u3⟩:=at_idxS (mem' _ g1)
  obtain⟨v1,v2,v3⟩:=at_idxS (mem' _ g2)
  rw[index_law (by omega) g1,Option.bind_some]
  refine Ret_chk (inb_t (by omega) (by rw[atl];omega)) ?_
  rw[ats _ g1]
  refine Ret_chk (inb_t (by omega) (by omega)) ?_
  rw[index_law (by omega) g2,Option.bind_some]
  refine Ret_chk (inb_t (by omega) (by rw[atl];omega)) ?_
  rw[ats _ g2]
  refine Ret_chk (inb_t (by omega) (by omega)) ?_
  rw[u3,v3,show law38_less (fu nn) (((mvS T lo (othS g)).1,(mvS T lo (othS g)).2),((mvS T lo g.1).1,(mvS T lo g.1).2))=some (decide (ltS (mvS T lo (othS g)) (mvS T lo g.1))) from less_ok _ _,Option.bind_some]
  refine Ret_jn (fun x:SqT×SqT=>x=if ltS (mvS T lo (othS g)) (mvS T lo g.1) then(mvS T lo (othS g),mvS T lo g.1) else(mvS T lo g.1,mvS T lo (othS g))) (fun x hx=>?_) fun j hj=>?_
  rotate_left
  ·refine Ret_dec (fun hu=>hj _ ?_) fun hu=>hj _ ?_
   ·rw[if_pos hu]
   ·rw[if_neg hu]
  have hm:btw (mvS T lo g.1) (mvS T lo (othS g)) (bet o*g.2.2)∈H':=(tn.hg _).2 ⟨g,hg,rfl⟩
  rw[btw_ord _ _ _ hx] at hm
  refine Ret_loop (Inv:=fun y:Bool×Int=>0≤y.2∧y.2≤H'.length∧(y.1=false→∀m:Nat,(m:Int)<y.2→H'.getD m hZ≠(x.1,(decide (x.1.1=x.2.1),bet o*g.2.2)))) (m:=fun y=>((H'.length:Int)-y.2).toNat) ?_ _ _ ⟨by simp,by simp,fun _ m hm=>by simp only at hm;omega⟩ (by simp only[fu];omega)
  rintro ⟨fd,k⟩ rec4 ⟨k1,k2,k3⟩ ih4
  simp only at k1 k2 k3 ⊢
  refine Ret_dec (fun hlt4=>?_) fun hge5=>?_
  ·refine Ret_chk (inb_t (by omega) (by omega)) ?_
   have nxt:∀f':Bool,(f'=false→H'.getD k.toNat hZ≠(x.1,(decide (x.1.1=x.2.1),bet o*g.2.2))∧fd=false)→Ret (chk (i64b (k+1)) (rec4 (f',k+1))) fun x=>x=true:=fun f' hf=>by
    refine Ret_chk (i64b_t (by omega) (by omega)) (ih4 _ ⟨by simp only;omega,by simp only;omega,fun e m hm=>?_⟩ (by simp only;omega))
    simp only at e hm
    obtain⟨q1,q2⟩:=hf e
    by_cases c:(m:Int)=k
    ·rw[show m=k.toNat by omega];exact q1
    ·exact k3 q2 m (by omega)
   refine Ret_bif (fun _=>nxt _ fun c=>by cases c) fun hf=>?_
   rw[show(decide ((H'.getD k.toNat ((0,0),(false,0))).1.1=x.1.1)&&decide ((H'.getD k.toNat ((0,0),(false,0))).1.2=x.1.2))=decide ((H'.getD k.toNat hZ).1=x.1) from sq_eq _ _]
   refine Ret_dec (fun e1=>Ret_bif (fun e2=>?_) fun e2=>?_) fun e1=>?_
   ·rw[wrap_bet gb]
    refine nxt _ fun c=>⟨fun e=>?_,hf⟩
    have c:¬(H'.getD k.toNat hZ).2.2=bet o*g.2.2:=of_decide_eq_false c
    rw[e] at c
    exact c rfl
   ·refine nxt _ fun _=>⟨fun e=>?_,hf⟩
    have e2:((H'.getD k.toNat hZ).2.1==decide (x.1.1=x.2.1))=false:=e2
    rw[e] at e2
    simp at e2
   ·exact nxt _ fun _=>⟨fun e=>e1 (by rw[e]),hf⟩
  ·refine Ret_bif (fun c=>?_) fun c=>Ret_chk (i64b_t (by omega) (by omega)) (ih3 _ ⟨by omega,by omega⟩ (by omega))
   exfalso
   obtain⟨m,hm1,hm2⟩:=List.mem_iff_getElem.1 hm
   have:=k3 (by simpa using c) m (by omega)
   rw[List.getD,List.getElem?_eq_getElem hm1] at this
   exact this hm2
 clear ih3 rec3
 obtain⟨X,X',e,mm,mm',s1,s2,s3,s4,s5,s6,s7⟩:=two_spots (nn:=nn) tn hq hn' h20 sl (by omega) (by omega)
 rw[s1,Option.bind_some,s2,Option.bind_some]
 simp only
 refine Ret_jn (fun x=>x=false) (fun x hx=>?_) fun j hj=>?_
 rotate_left
 ·refine Ret_dec (fun g=>absurd rfl g) fun _=>Ret_dec (fun g=>by omega) fun _=>Ret_dec (fun g=>?_) fun _=>hj _ rfl
  have:=s4 g
  exact hj _ (by simp;omega)
 subst hx
 refine Ret_bif (fun c=>by cases c) fun _=>?_
 have hXS:X.length≤S.length:=by
  rcases s5 with s5 | s5
  ·rw[s5];exact Nat.zero_le _
  ·omega
 refine Ret_loop (Inv:=fun i:Int=>0≤i∧i≤X.length) (m:=fun i=>((X.length:Int)-i).toNat) ?_ _ _ ⟨by simp,by simp⟩ (by simp only[fu];omega)
 rintro i3 rec3 ⟨i31,i32⟩ ih3
 refine Ret_dec (fun hlt3=>?_) fun hge4=>?_
 ·refine Ret_loop (Inv:=fun k:Int=>0≤k∧k≤i3) (m:=fun k=>(i3-k).toNat) ?_ _ _ ⟨by simp,by omega⟩ (by simp only[fu];omega)
  rintro k3 rec4 ⟨k31,k32⟩ ih4
  refine Ret_dec (fun hlt4=>?_) fun hge5=>Ret_chk (i64b_t (by omega) (by omega)) (ih3 _ ⟨by omega,by omega⟩ (by omega))
  obtain⟨a1,a2⟩:=s6 i3.toNat (by omega)
  obtain⟨b1,b2⟩:=s6 k3.toNat (by omega)
  obtain⟨d,d1,d2⟩:=s7 i3.toNat k3.toNat (by omega) (by omega)
  obtain⟨u1,u2,u3⟩:=at_idxS (mem' _ (getD_memS (L:=S) (i:=i3.toNat) (by omega)))
  obtain⟨v1,v2,v3⟩:=at_idxS (mem' _ (getD_memS (L:=S) (i:=k3.toNat) (by omega)))
  have hX':X'.length=S'.length:=by
   rcases s5 with s5 | s5
   ·rw[s5] at hlt3;simp only[List.length_nil] at hlt3;omega
   ·omega
  refine Ret_chk (inb_t (by omega) (by omega)) ?_
  rw[show law38_middle (fu nn) ([(X.getD i3.toNat (List.replicate 3 0,0)).1.getD 0 0,(X.getD i3.toNat (List.replicate 3 0,0)).1.getD 1 0,(X.getD i3.toNat (List.replicate 3 0,0)).1.getD 2 0],(X.getD i3.toNat (List.replicate 3 0,0)).2)=some (mm i3.toNat) from a1,Option.bind_some]
  refine Ret_chk (inb_t (by omega) (by omega)) ?_
  rw[show law38_middle (fu nn) ([(X.getD k3.toNat (List.replicate 3 0,0)).1.getD 0 0,(X.getD k3.toNat (List.replicate 3 0,0)).1.getD 1 0,(X.getD k3.toNat (List.replicate 3 0,0)).1.getD 2 0],(X.getD k3.toNat (List.replicate 3 0,0)).2)=some (mm k3.toNat) from b1,Option.bind_some,d1,Option.bind_some]
  refine Ret_chk (inb_t (by omega) (by rw[atl];omega)) ?_
  rw[atg _ (by omega)]
  refine Ret_chk (inb_t (by omega) (by omega)) ?_
  rw[show law38_middle (fu nn) ([(X'.getD (idxS S' (mvS T lo (S.getD i3.toNat (0,0)))).toNat (List.replicate 3 0,0)).1.getD 0 0,(X'.getD (idxS S' (mvS T lo (S.getD i3.toNat (0,0)))).toNat (List.replicate 3 0,0)).1.getD 1 0,(X'.getD (idxS S' (mvS T lo (S.getD i3.toNat (0,0)))).toNat (List.replicate 3 0,0)).1.getD 2 0],(X'.getD (idxS S' (mvS T lo (S.getD i3.toNat (0,0)))).toNat (List.replicate 3 0,0)).2)=some (mm' i3.toNat) from a2,Option.bind_some]
  refine Ret_chk (inb_t (by omega) (by rw[atl];omega)) ?_
  rw[atg _ (by omega)]
  refine Ret_chk (inb_t (by omega) (by omega)) ?_
  rw[show law38_middle (fu nn) ([(X'.getD (idxS S' (mvS T lo (S.getD k3.toNat (0,0)))).toNat (List.replicate 3 0,0)).1.getD 0 0,(X'.getD (idxS S' (mvS T lo (S.getD k3.toNat (0,0)))).toNat (List.replicate 3 0,0)).1.getD 1 0,(X'.getD (idxS S' (mvS T lo (S.getD k3.toNat (0,0)))).toNat (List.replicate 3 0,0)).1.getD 2 0],(X'.getD (idxS S' (mvS T lo (S.getD k3.toNat (0,0)))).toNat (List.replicate 3 0,0)).2)=some (mm' k3.toNat) from b2,Option.bind_some,d2,Option.bind_some]
  refine Ret_dec (fun g=>absurd rfl g) fun _=>?_
  exact Ret_chk (i64b_t (by omega) (by omega)) (ih4 _ ⟨by omega,by omega⟩ (by omega))
 clear ih3 rec3
 refine Ret_jn (fun x=>x=([0,3,2,1,4,5,6,7],8)) (fun x hx=>?_) fun j hj=>hj _ rfl
 subst hx
 simp only
 rw[Turned_ok hq smN (by decide) w0.ok,Option.bind_some]
 refine Ret_chk (inb_t (by omega) (by simp;omega)) ?_
 rw[back_getD hT,Turned_ok hn' smN' (bk_rng hT) (w2 false).ok,Option.bind_some]
 refine Ret_jn (fun x=>x=(0,((sqT 0 S,(sqT 0 S).length),(hgT 0 S q,(hgT 0 S q).length)))) (fun x hx=>?_) fun j hj=>?_
 rotate_left
 ·refine Ret_bif (fun ho=>?_) fun ho=>?_
  ·have eT:=h4 ho
   have eb:bk T=4:=by rw[eT];rfl
   have w3:=w2 true
   rw[eb] at w3 back1 back2
   rw[Over_ok hn' smN' w3.ok w3.bd,Option.bind_some]
   refine hj _ ?_
   rw[ho] at back2
   have back2:(hgT 4 S' H').map negB=hgT 0 S q:=back2
   simp only
   rw[back1,back2]
  ·refine hj _ ?_
   rw[ho] at back2
   have back2:hgT (bk T) S' H'=hgT 0 S q:=back2
   simp only
   rw[back1,back2]
 subst hx
 simp only
 refine Ret_dec (fun _=>?_) fun g=>absurd (by first | trivial | rfl) g
 refine Ret_dec (fun g=>absurd rfl g) fun _=>Ret_dec (fun g=>absurd rfl g) fun _=>Ret_dec (fun g=>absurd rfl g) fun _=>Ret_dec (fun g=>absurd rfl g) fun _=>?_
 have z1:=w0.sl
 have z2:(hgT 0 S q).length=q.length:=w0.hl
 generalize sqT 0 S=P at *
 generalize hgT 0 S q=Q at *
 refine Ret_loop (Inv:=fun i:Int=>0≤i∧i≤P.length) (m:=fun i=>((P.length:Int)-i).toNat) ?_ _ _ ⟨by simp,by simp⟩ (by simp only[fu];omega)
 rintro i5 rec5 ⟨i51,i52⟩ ih5
 refine Ret_dec (fun hlt5=>?_) fun hge5=>?_
 ·refine Ret_chk (inb_t (by omega) (by omega)) (Ret_chk (inb_t (by omega) (by omega)) (Ret_bif (fun c=>by simp at c) fun _=>?_))
  exact Ret_chk (i64b_t (by omega) (by omega)) (ih5 _ ⟨by omega,by omega⟩ (by omega))
 refine Ret_loop (Inv:=fun i:Int=>0≤i∧i≤Q.length) (m:=fun i=>((Q.length:Int)-i).toNat) ?_ _ _ ⟨by simp,by simp⟩ (by simp only[fu];omega)
 rintro i6 rec6 ⟨i61,i62⟩ ih6
 refine Ret_dec (fun hlt6=>?_) fun _=>LV
 refine Ret_chk (inb_t (by omega) (by omega)) (Ret_chk (inb_t (by omega) (by omega)) (Ret_bif (fun c=>by simp at c) fun _=>?_))
 exact Ret_chk (i64b_t (by omega) (by omega)) (ih6 _ ⟨by omega,by omega⟩ (by omega))
end X
end Go.Vm
