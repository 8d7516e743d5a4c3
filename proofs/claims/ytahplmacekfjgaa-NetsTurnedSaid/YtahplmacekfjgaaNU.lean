/-
  Nets: a net is turned: what the program computes.
  Nets: frames that are turned, and isometries: finite checks.
  Nets: a turned net; frames that are turned with it.
-/
import Derived.Test.YtahplmacekfjgaaNS
set_option linter.unusedSimpArgs false
set_option linter.unusedVariables false
set_option linter.unusedSectionVars false
set_option linter.unnecessarySimpa false
namespace Go.Vm
namespace X
open W
variable {nn:Nat}
def tS (t:Int) (s:SqT):SqT:=
 if t=1 then(-s.2-1,s.1) else if t=2 then(-s.1-1, -s.2-1) else if t=3 then(s.2, -s.1-1) else if t=4 then(-s.1-1,s.2) else if t=5 then(-s.2-1, -s.1-1) else if t=6 then(s.1, -s.2-1) else if t=7 then(s.2,s.1) else s
theorem chk_i {α:Type} {z:Int} {o:Option α} (h1: -9223372036854775808≤z) (h2:z≤9223372036854775807):chk (i64b z) o=o:=chk_t (i64b_t h1 h2)
theorem turned_ok {B:Int} {s:SqT} {t:Int} (h:smallS B s) (hB:B≤1000) (ht:0≤t∧t≤7):nets_Square_turned (fu nn) (s,t)=some (tS t s):=by
 obtain⟨x,y⟩:=s
 obtain⟨⟨x1,x2⟩,y1,y2⟩:=h
 simp only at x1 x2 y1 y2
 have c1:∀ {α:Type} (o:Option α),chk (i64b (x+1)) o=o:=fun o=>chk_i (by omega) (by omega)
 have c2:∀ {α:Type} (o:Option α),chk (i64b (y+1)) o=o:=fun o=>chk_i (by omega) (by omega)
 have c3:∀ {α:Type} (o:Option α),chk (i64b (-x)) o=o:=fun o=>chk_i (by omega) (by omega)
 have c4:∀ {α:Type} (o:Option α),chk (i64b (-y)) o=o:=fun o=>chk_i (by omega) (by omega)
 have c5:∀ {α:Type} (o:Option α),chk (i64b (-(x+1))) o=o:=fun o=>chk_i (by omega) (by omega)
 have c6:∀ {α:Type} (o:Option α),chk (i64b (-(y+1))) o=o:=fun o=>chk_i (by omega) (by omega)
 rcases(by omega:t=0∨t=1∨t=2∨t=3∨t=4∨t=5∨t=6∨t=7) with rfl | rfl | rfl | rfl | rfl | rfl | rfl | rfl<;>
  simp[nets_Square_turned,nets_Square_stay,nets_Square_quarter,nets_Square_half,nets_Square_three,nets_Square_left,nets_Square_down,nets_Square_below,nets_Square_cross,tS,c1,c2,c3,c4,c5,c6]<;>omega
theorem wrap64 {z:Int} (h1: -9223372036854775808≤z) (h2:z≤9223372036854775807):IntKind.i64.wrap z=z:=by
 simp[IntKind.wrap,IntKind.signed,IntKind.bits]
 omega
theorem tdiv2 (z:Int):(2*z).tdiv 2=z:=Int.mul_tdiv_cancel_left _ (by decide)
theorem moved_ok {B:Int} {s:SqT} {t:Int} (h:smallS B s) (hB:B≤1000) (ht:0≤t∧t≤7):law38_moved (fu nn) (s,t)=some (tS t s):=by
 obtain⟨x,y⟩:=s
 obtain⟨⟨x1,x2⟩,y1,y2⟩:=h
 simp only at x1 x2 y1 y2
 have cc:∀ {α:Type} (o:Option α) (z:Int), -100000≤z→z≤100000→chk (i64b z) o=o:=fun o z h1 h2=>chk_i (by omega) (by omega)
 have d1:∀z:Int, -100000≤z→z≤100000→∀w,w=2*z→IntKind.i64.wrap (w.tdiv 2)=z:=fun z h1 h2 w e=>by
  rw[e,tdiv2,wrap64 (by omega) (by omega)]
 have p1:IntKind.i64.wrap ((2*x+1-1).tdiv 2)=x:=d1 x (by omega) (by omega) _ (by omega)
 have p2:IntKind.i64.wrap ((2*y+1-1).tdiv 2)=y:=d1 y (by omega) (by omega) _ (by omega)
 have p3:IntKind.i64.wrap ((-(2*x+1)-1).tdiv 2)= -x-1:=d1 (-x-1) (by omega) (by omega) _ (by omega)
 have p4:IntKind.i64.wrap ((-(2*y+1)-1).tdiv 2)= -y-1:=d1 (-y-1) (by omega) (by omega) _ (by omega)
 unfold law38_moved
 dsimp only
 rw[cc _ _ (by omega) (by omega),cc _ _ (by omega) (by omega),cc _ _ (by omega) (by omega),cc _ _ (by omega) (by omega),p1,p2,p3,p4]
 have r:∀ {o:Option SqT} {v:SqT},Ret o (fun x=>x=v)→o=some v:=fun h=>h.eq
 rcases(by omega:t=0∨t=1∨t=2∨t=3∨t=4∨t=5∨t=6∨t=7) with rfl | rfl | rfl | rfl | rfl | rfl | rfl | rfl<;>
  (apply Ret.eq;repeat' first | (refine Ret_dec (fun g=>?_) fun g=>?_) | (refine Ret_chk (i64b_t (by omega) (by omega)) ?_))<;>first | (exfalso;omega) | exact Ret_some rfl
structure IsLow (m:SqT) (L:List SqT):Prop where
 le:∀s∈L,m.1≤s.1∧m.2≤s.2
 a1:∃s∈L,s.1=m.1
 a2:∃s∈L,s.2=m.2
theorem IsLow.uniq {m k:SqT} {L:List SqT} (h:IsLow m L) (g:IsLow k L):m=k:=by
 obtain⟨s,hs,e1⟩:=h.a1
 obtain⟨t,ht,e2⟩:=h.a2
 obtain⟨u,hu,e3⟩:=g.a1
 obtain⟨v,hv,e4⟩:=g.a2
 have:=g.le s hs;have:=g.le t ht;have:=h.le u hu;have:=h.le v hv
 exact Prod.ext (by omega) (by omega)
def mn2 (z:SqT) (L:List SqT):SqT:=L.foldl (fun a s=>(min a.1 s.1,min a.2 s.2)) z
theorem mn2_snoc (z:SqT) (L:List SqT) (s:SqT):mn2 z (L++[s])=(min (mn2 z L).1 s.1,min (mn2 z L).2 s.2):=by unfold mn2;rw[List.foldl_append];rfl
theorem mn2_spec (z:SqT):∀L:List SqT,(∀s∈L,(mn2 z L).1≤s.1∧(mn2 z L).2≤s.2)∧(mn2 z L).1≤z.1∧(mn2 z L).2≤z.2∧((mn2 z L).1=z.1∨∃s∈L,s.1=(mn2 z L).1)∧((mn2 z L).2=z.2∨∃s∈L,s.2=(mn2 z L).2):=by
 intro L
 generalize hn:L.reverse=R
 obtain rfl:L=R.reverse:=by rw[←hn,List.reverse_reverse]
 clear hn
 induction R with
 | nil=>exact⟨fun s hs=>by simp at hs,Int.le_refl _,Int.le_refl _,.inl rfl,.inl rfl⟩
 | cons s R ih=>
   rw[List.reverse_cons,mn2_snoc]
   obtain⟨h1,h2,h3,h4,h5⟩:=ih
   refine⟨fun t ht=>?_,by simp only;omega,by simp only;omega,?_,?_⟩
   ·rcases List.mem_append.1 ht with ht | ht
    ·have:=h1 t ht;simp only;omega
    ·rw[List.mem_singleton.1 ht];simp only;omega
   ·simp only
    by_cases c:s.1≤(mn2 z R.reverse).1
    ·exact .inr ⟨s,by simp,by omega⟩
    ·rcases h4 with h4 | ⟨t,ht,e⟩
     ·exact .inl (by omega)
     ·exact .inr ⟨t,List.mem_append_left _ ht,by omega⟩
   ·simp only
    by_cases c:s.2≤(mn2 z R.reverse).2
    ·exact .inr ⟨s,by simp,by omega⟩
    ·rcases h5 with h5 | ⟨t,ht,e⟩
     ·exact .inl (by omega)
     ·exact .inr ⟨t,List.mem_append_left _ ht,by omega⟩
theorem mn2_low {z:SqT} {L:List SqT} (hne:L≠[]) (h:z∈L∨∀s∈L,s.1<z.1∧s.2<z.2):IsLow (mn2 z L) L:=by
 obtain⟨h1,h2,h3,h4,h5⟩:=mn2_spec z L
 obtain⟨s0,hs0⟩:=List.exists_mem_of_ne_nil L hne
 refine⟨h1,?_,?_⟩
 ·rcases h4 with e | e
  ·rcases h with h | h
   ·exact⟨z,h,e.symm⟩
   ·have:=h1 s0 hs0;have:=h s0 hs0;omega
  ·exact e
 ·rcases h5 with e | e
  ·rcases h with h | h
   ·exact⟨z,h,e.symm⟩
   ·have:=h1 s0 hs0;have:=h s0 hs0;omega
  ·exact e
def loS (t:Int) (S:List SqT):SqT:=mn2 (128,128) (S.map (tS t))
def mvS (t:Int) (lo:SqT) (s:SqT):SqT:=((tS t s).1-lo.1,(tS t s).2-lo.2)
def btw (a b:SqT) (d:Int):HgT:=if ltS b a then(b,(decide (b.1=a.1),d)) else(a,(decide (a.1=b.1),d))
theorem between_ok (a b:SqT) (d:Int):nets_between (fu nn) (a,(b,d))=some (btw a b d):=by
 unfold nets_between
 rw[show nets_Square_compare (fu nn) (((a,(b,d)).1.1,(a,(b,d)).1.2),((a,(b,d)).2.1.1,(a,(b,d)).2.1.2))=some (cmpS a b) from compare_ok _ _,Option.bind_some]
 have:(0:Int)<cmpS a b↔ltS b a:=by
  unfold cmpS
  have irr:=ltS_irr a
  rcases ltS_tri a b with h | h | h
  ·rw[if_pos h]
   constructor
   ·intro c;omega
   ·intro c;exact absurd (ltS_trans h c) irr
  ·subst h
   rw[if_neg irr,if_pos rfl]
   exact⟨fun c=>by omega,fun c=>absurd c irr⟩
  ·rw[if_neg fun c=>irr (ltS_trans c h),if_neg fun c=>by subst c;exact irr h]
   exact⟨fun _=>h,fun _=>by omega⟩
 unfold btw
 by_cases c:ltS b a
 ·rw[if_pos c,decide_eq_true (this.2 c)];rfl
 ·rw[if_neg c,decide_eq_false fun g=>c (this.1 g)];rfl
def mvH (t:Int) (lo:SqT) (h:HgT):HgT:=btw (mvS t lo h.1) (mvS t lo (othS h)) h.2.2
def sqT (t:Int) (S:List SqT):List SqT:=sortC cfS (S.map (mvS t (loS t S)))
def hgT (t:Int) (S:List SqT) (H:List HgT):List HgT:=sortC cfH (H.map (mvH t (loS t S)))
theorem tS_small {B:Int} {s:SqT} (t:Int) (h:smallS B s):smallS (B+1) (tS t s):=by
 obtain⟨⟨x1,x2⟩,y1,y2⟩:=h
 unfold tS smallS
 repeat' split
 all_goals first | (simp only;omega) | omega
theorem foldl_map_take {α β:Type} {L:List α} {n:Nat} (h:n<L.length) (f:α→β):(L.take (n+1)).map f=(L.take n).map f++[f L[n]]:=by
 rw[List.take_add_one,List.getElem?_eq_getElem h,List.map_append];rfl
theorem set_replicate_take {α:Type} {L:List α} {n m:Nat} {z:α} (h:n<L.length) (hm:m=L.length):((L.take n)++List.replicate (m-n) z).set n L[n]=L.take (n+1)++List.replicate (m-(n+1)) z:=by
 subst hm
 refine List.ext_getElem? fun i=>?_
 rw[List.getElem?_set]
 have hl:((L.take n)++List.replicate (L.length-n) z).length=L.length:=by rw[List.length_append,List.length_take,List.length_replicate];omega
 by_cases e:n=i
 ·subst e
  rw[if_pos rfl,if_pos (by omega),List.getElem?_append_left (by rw[List.length_take];omega),List.getElem?_take,if_pos (by omega),List.getElem?_eq_getElem h]
 ·rw[if_neg e]
  by_cases c:i<n
  ·rw[List.getElem?_append_left (by rw[List.length_take];omega),List.getElem?_append_left (by rw[List.length_take];omega),List.getElem?_take,List.getElem?_take,if_pos c,if_pos (by omega)]
  ·rw[List.getElem?_append_right (by rw[List.length_take];omega),List.getElem?_append_right (by rw[List.length_take];omega),List.getElem?_replicate,List.getElem?_replicate,List.length_take,List.length_take]
   by_cases c2:i<L.length
   ·rw[if_pos (by omega),if_pos (by omega)]
   ·rw[if_neg (by omega),if_neg (by omega)]
structure SmN (B:Int) (S:List SqT) (H:List HgT):Prop where
 s:∀x∈S,smallS B x
 h:∀g∈H,smallS B g.1∧smallS B (othS g)∧(-1≤g.2.2∧g.2.2≤1)
 sl:S.length≤64
 hl:H.length≤1000
 ne:S≠[]
theorem other_small {B:Int} {h:HgT} (hs:smallS B h.1) (hB:B≤1000):nets_Hinge_other (fu nn) h=some (othS h):=by
 obtain⟨⟨x1,x2⟩,y1,y2⟩:=hs
 exact other_ok ⟨by omega,by omega,by omega,by omega⟩
set_option maxHeartbeats 1000000 in
theorem Net_turned_ok {S:List SqT} {H:List HgT} {t:Int} (h:SmN 100 S H) (ht:0≤t∧t≤7) (hd:okH (H.map (mvH t (loS t S)))=true):nets_Net_turned (fu nn) ((S,H),t)=some (sqT t S,hgT t S H):=by
 have sl:=h.sl
 have hl:=h.hl
 have tsm:∀s:SqT,smallS 100 s→smallS 101 (tS t s):=fun s hs=>tS_small t hs
 have lob:smallS 128 (loS t S):=by
  obtain⟨a1,a2,a3,a4,a5⟩:=mn2_spec (128,128) (S.map (tS t))
  have low:IsLow (loS t S) (S.map (tS t)):=mn2_low (by simpa using h.ne) (.inr fun s hs=>by
   obtain⟨x,hx,rfl⟩:=List.mem_map.1 hs
   have:=tsm x (h.s x hx)
   obtain⟨⟨_,_⟩,_,_⟩:=this
   simp only;omega)
  obtain⟨x,hx,e1⟩:=low.a1
  obtain⟨y,hy,e2⟩:=low.a2
  obtain⟨x',hx',rfl⟩:=List.mem_map.1 hx
  obtain⟨y',hy',rfl⟩:=List.mem_map.1 hy
  obtain⟨⟨_,_⟩,_,_⟩:=tsm x' (h.s x' hx')
  obtain⟨⟨_,_⟩,_,_⟩:=tsm y' (h.s y' hy')
  exact⟨⟨by omega,by omega⟩,by omega,by omega⟩
 apply Ret.eq
 unfold nets_Net_turned
 simp only
 refine Ret_chk (by simp only[Bool.and_eq_true,decide_eq_true_eq];omega) (Ret_chk (by simp only[Bool.and_eq_true,decide_eq_true_eq];omega) ?_)
 refine Ret_loop (Inv:=fun x:Int×(Int×Int)=>0≤x.1∧x.1≤S.length∧x.2=mn2 (128,128) ((S.take x.1.toNat).map (tS t))) (m:=fun x=>((S.length:Int)-x.1).toNat) ?_ _ _ ⟨by simp,by simp,by simp[mn2]⟩ (by simp only[fu];omega)
 rintro ⟨i,lo⟩ rec ⟨i1,i2,i3⟩ ih
 simp only at i1 i2 i3 ⊢
 subst i3
 refine Ret_dec (fun hlt=>?_) fun hge=>?_
 ·have hx:=h.s _ (getD_memS (L:=S) (i:=i.toNat) (by omega))
  rw[show nets_Square_turned (fu nn) (((S.getD i.toNat (0,0)).1,(S.getD i.toNat (0,0)).2),t)=some (tS t (S.getD i.toNat (0,0))) from turned_ok hx (by omega) ht,Option.bind_some]
  refine Ret_chk (inb_t (by omega) (by omega)) (Ret_chk (i64b_t (by omega) (by omega)) (ih _ ⟨by simp only;omega,by simp only;omega,?_⟩ (by simp only;omega)))
  simp only
  rw[show(i+1).toNat=i.toNat+1 by omega,foldl_map_take (by omega),mn2_snoc,List.getD,List.getElem?_eq_getElem (by omega)]
  rfl
 rw[List.take_of_length_le (by omega),show mn2 (128,128) (S.map (tS t))=loS t S from rfl]
 have mvb:∀s:SqT,smallS 100 s→i64b ((tS t s).1-(loS t S).1)=true∧i64b ((tS t s).2-(loS t S).2)=true:=fun s hs=>by
  obtain⟨⟨_,_⟩,_,_⟩:=tsm s hs
  obtain⟨⟨_,_⟩,_,_⟩:=lob
  exact⟨i64b_t (by omega) (by omega),i64b_t (by omega) (by omega)⟩
 have mapl:(S.map (mvS t (loS t S))).length=S.length:=List.length_map _
 have maph:(H.map (mvH t (loS t S))).length=H.length:=List.length_map _
 refine Ret_loop (Inv:=fun x:Int×((List SqT)×Option Nat)=>0≤x.1∧x.1≤S.length∧x.2=((S.map (mvS t (loS t S))).take x.1.toNat++List.replicate (S.length-x.1.toNat) (0,0),some S.length)) (m:=fun x=>((S.length:Int)-x.1).toNat) ?_ _ _ ⟨by simp,by simp,by simp⟩ (by simp only[fu];omega)
 rintro ⟨i,L,c⟩ rec2 ⟨i1,i2,i3⟩ ih2
 simp only at i1 i2 i3 ⊢
 obtain⟨rfl,rfl⟩:=Prod.mk.inj i3
 have hlen:((S.map (mvS t (loS t S))).take i.toNat++List.replicate (S.length-i.toNat) ((0,0):SqT)).length=S.length:=by rw[List.length_append,List.length_take,List.length_replicate];omega
 refine Ret_dec (fun hlt=>?_) fun hge=>?_
 ·have hx:=h.s _ (getD_memS (L:=S) (i:=i.toNat) (by omega))
  obtain⟨b1,b2⟩:=mvb _ hx
  rw[show nets_Square_turned (fu nn) (((S.getD i.toNat (0,0)).1,(S.getD i.toNat (0,0)).2),t)=some (tS t (S.getD i.toNat (0,0))) from turned_ok hx (by omega) ht,Option.bind_some]
  refine Ret_chk (inb_t (by omega) (by omega)) (Ret_chk b1 (Ret_chk b2 (Ret_chk (inb_t (by omega) (by omega)) (Ret_chk (i64b_t (by omega) (by omega)) (ih2 _ ⟨by simp only;omega,by simp only;omega,?_⟩ (by simp only;omega))))))
  simp only
  have:=set_replicate_take (L:=S.map (mvS t (loS t S))) (n:=i.toNat) (m:=S.length) (z:=(0,0)) (by omega) mapl.symm
  rw[List.getElem_map] at this
  rw[show(i+1).toNat=i.toNat+1 by omega,←this,List.getD,List.getElem?_eq_getElem (by omega)]
  rfl
 have e0:S.length-i.toNat=0:=by omega
 rw[List.take_of_length_le (by omega),e0,List.replicate_zero,List.append_nil]
 clear hlen
 refine Ret_loop (Inv:=fun x:Int×((List HgT)×Option Nat)=>0≤x.1∧x.1≤H.length∧x.2=((H.map (mvH t (loS t S))).take x.1.toNat++List.replicate (H.length-x.1.toNat) hZ,some H.length)) (m:=fun x=>((H.length:Int)-x.1).toNat) ?_ _ _ ⟨by simp,by simp,by simp⟩ (by simp only[fu];omega)
 rintro ⟨j,L,c⟩ rec3 ⟨j1,j2,j3⟩ ih3
 simp only at j1 j2 j3 ⊢
 obtain⟨rfl,rfl⟩:=Prod.mk.inj j3
 have hlen:((H.map (mvH t (loS t S))).take j.toNat++List.replicate (H.length-j.toNat) hZ).length=H.length:=by rw[List.length_append,List.length_take,List.length_replicate];omega
 refine Ret_dec (fun hlt=>?_) fun hge=>?_
 ·obtain⟨g1,g2,g3⟩:=h.h _ (getD_memH (H:=H) (i:=j.toNat) (by omega))
  obtain⟨b1,b2⟩:=mvb _ g1
  obtain⟨b3,b4⟩:=mvb _ g2
  rw[show nets_Square_turned (fu nn) (((H.getD j.toNat ((0,0),(false,0))).1.1,(H.getD j.toNat ((0,0),(false,0))).1.2),t)=some (tS t (H.getD j.toNat hZ).1) from turned_ok g1 (by omega) ht,Option.bind_some]
  refine Ret_chk (inb_t (by omega) (by omega)) (Ret_chk b1 (Ret_chk b2 ?_))
  rw[show nets_Hinge_other (fu nn) (((H.getD j.toNat ((0,0),(false,0))).1.1,(H.getD j.toNat ((0,0),(false,0))).1.2),((H.getD j.toNat ((0,0),(false,0))).2.1,(H.getD j.toNat ((0,0),(false,0))).2.2))=some (othS (H.getD j.toNat hZ)) from other_small g1 (by omega),Option.bind_some,show nets_Square_turned (fu nn) (((othS (H.getD j.toNat hZ)).1,(othS (H.getD j.toNat hZ)).2),t)=some (tS t (othS (H.getD j.toNat hZ))) from turned_ok g2 (by omega) ht,Option.bind_some]
  refine Ret_chk b3 (Ret_chk b4 ?_)
  rw[show nets_between (fu nn) (((tS t (H.getD j.toNat hZ).1).1-(loS t S).1,(tS t (H.getD j.toNat hZ).1).2-(loS t S).2),(((tS t (othS (H.getD j.toNat hZ))).1-(loS t S).1,(tS t (othS (H.getD j.toNat hZ))).2-(loS t S).2),(H.getD j.toNat ((0,0),(false,0))).2.2))=some (mvH t (loS t S) (H.getD j.toNat hZ)) from between_ok _ _ _,Option.bind_some]
  refine Ret_chk (inb_t (by omega) (by omega)) (Ret_chk (i64b_t (by omega) (by omega)) (ih3 _ ⟨by simp only;omega,by simp only;omega,?_⟩ (by simp only;omega)))
  simp only
  have:=set_replicate_take (L:=H.map (mvH t (loS t S))) (n:=j.toNat) (m:=H.length) (z:=hZ) (by omega) maph.symm
  rw[List.getElem_map] at this
  rw[show(j+1).toNat=j.toNat+1 by omega,←this,List.getD,List.getElem?_eq_getElem (by omega)]
  rfl
 have e0:H.length-j.toNat=0:=by omega
 rw[List.take_of_length_le (by omega),e0,List.replicate_zero,List.append_nil]
 have s1:slices_SortFunc_nets_Square (fu nn) ((S.map (mvS t (loS t S)),some S.length),((),()))=some ((),((sqT t S,some S.length),((),()))):=by
  unfold slices_SortFunc_nets_Square
  have c:((List.length (α:=(Int×Int)) (S.map (mvS t (loS t S)))).ble 1000000&&okS (S.map (mvS t (loS t S))))=true:=by
   rw[show okS (S.map (mvS t (loS t S)))=true from rfl,Bool.and_true,Nat.ble_eq]
   omega
  simp only
  rw[c];rfl
 have s2:slices_SortFunc_nets_Hinge (fu nn) ((H.map (mvH t (loS t S)),some H.length),((),()))=some ((),((hgT t S H,some H.length),((),()))):=by
  unfold slices_SortFunc_nets_Hinge
  have c:((List.length (α:=((Int×Int)×(Bool×Int))) (H.map (mvH t (loS t S)))).ble 1000000&&okH (H.map (mvH t (loS t S))))=true:=by
   rw[hd,Bool.and_true,Nat.ble_eq]
   omega
  simp only
  rw[c];rfl
 rw[s1,Option.bind_some,s2,Option.bind_some]
 have l1:(sqT t S).length=S.length:=by unfold sqT;rw[(sortC_perm _ _).length_eq,mapl]
 have l2:(hgT t S H).length=H.length:=by unfold hgT;rw[(sortC_perm _ _).length_eq,maph]
 refine Ret_chk ?_ (Ret_some rfl)
 simp[capIs,l1,l2]
theorem Turned_ok {S:List SqT} {H:List HgT} {t:Int} (hn:NetOK S H) (h:SmN 100 S H) (ht:0≤t∧t≤7) (hd:okH (H.map (mvH t (loS t S)))=true):nets_Turned (fu nn) ((S,H),t)=some ((sqT t S,hgT t S H),0):=by
 have hl:=h.hl
 apply Ret.eq
 unfold nets_Turned
 rw[show nets_Check (fu nn) ((((S,H),t):(List SqT×List HgT)×Int).1.1,(((S,H),t):(List SqT×List HgT)×Int).1.2)=some 0 from Check_ok hn (show H.length≤10000 by omega),Option.bind_some]
 refine Ret_dec (fun g=>absurd rfl g) fun _=>Ret_dec (fun g=>by simp only at g;omega) fun _=>?_
 rw[show nets_Net_turned (fu nn) (((((S,H),t):(List SqT×List HgT)×Int).1.1,(((S,H),t):(List SqT×List HgT)×Int).1.2),(((S,H),t):(List SqT×List HgT)×Int).2)=some (sqT t S,hgT t S H) from Net_turned_ok h ht hd,Option.bind_some]
 exact Ret_chk (by simp[capIs]) (Ret_some rfl)
def negB (h:HgT):HgT:=(h.1,(h.2.1, -h.2.2))
theorem Over_ok {S:List SqT} {H:List HgT} (hn:NetOK S H) (h:SmN 100 S H) (hd:okH (H.map (mvH 4 (loS 4 S)))=true) (hb:∀g∈hgT 4 S H, -1≤g.2.2∧g.2.2≤1):nets_Over (fu nn) (S,H)=some ((sqT 4 S,(hgT 4 S H).map negB),0):=by
 have hl:=h.hl
 have l2:(hgT 4 S H).length=H.length:=by unfold hgT;rw[(sortC_perm _ _).length_eq,List.length_map]
 apply Ret.eq
 unfold nets_Over
 rw[show nets_Check (fu nn) ((S,H).1,(S,H).2)=some 0 from Check_ok hn (show H.length≤10000 by omega),Option.bind_some]
 refine Ret_dec (fun g=>absurd rfl g) fun _=>?_
 rw[show nets_Net_turned (fu nn) (((S,H).1,(S,H).2),4)=some (sqT 4 S,hgT 4 S H) from Net_turned_ok h (by decide) hd,Option.bind_some]
 generalize hgT 4 S H=G at *
 refine Ret_loop (Inv:=fun x:Int×((List HgT)×Option Nat)=>0≤x.1∧x.1≤G.length∧x.2=((G.take x.1.toNat).map negB++G.drop x.1.toNat,some G.length)) (m:=fun x=>((G.length:Int)-x.1).toNat) ?_ _ _ ⟨by simp,by simp,by simp⟩ (by simp only[fu];omega)
 rintro ⟨j,L,c⟩ rec3 ⟨j1,j2,j3⟩ ih3
 simp only at j1 j2 j3 ⊢
 obtain⟨rfl,rfl⟩:=Prod.mk.inj j3
 have hlen:((G.take j.toNat).map negB++G.drop j.toNat).length=G.length:=by rw[List.length_append,List.length_map,List.length_take,List.length_drop];omega
 refine Ret_dec (fun hlt=>?_) fun hge=>?_
 ·refine Ret_chk (inb_t (by omega) (by omega)) (Ret_chk (inb_t (by omega) (by omega)) (Ret_chk (i64b_t (by omega) (by omega)) (ih3 _ ⟨by simp only;omega,by simp only;omega,?_⟩ (by simp only;omega))))
  simp only
  have eg:((G.take j.toNat).map negB++G.drop j.toNat).getD j.toNat ((0,0),(false,0))=G[j.toNat]'(by omega):=by
   rw[List.getD,List.getElem?_append_right (by rw[List.length_map,List.length_take];omega),List.getElem?_drop,List.length_map,List.length_take,show j.toNat+ (j.toNat-min j.toNat G.length)=j.toNat by omega,List.getElem?_eq_getElem (by omega)]
   rfl
  rw[eg]
  have hbb:=hb _ (List.getElem_mem (l:=G) (n:=j.toNat) (by omega))
  rw[wrap8 hbb]
  refine Prod.ext ?_ rfl
  simp only
  rw[show(j+1).toNat=j.toNat+1 by omega,foldl_map_take (by omega),List.append_assoc]
  refine List.ext_getElem? fun i=>?_
  rw[List.getElem?_set]
  by_cases e:j.toNat=i
  ·subst e
   rw[if_pos rfl,if_pos (by omega),List.getElem?_append_right (by rw[List.length_map,List.length_take];omega),List.length_map,List.length_take,show j.toNat-min j.toNat G.length=0 by omega]
   rfl
  ·rw[if_neg e]
   by_cases c:i<j.toNat
   ·rw[List.getElem?_append_left (by rw[List.length_map,List.length_take];omega),List.getElem?_append_left (by rw[List.length_map,List.length_take];omega)]
   ·rw[List.getElem?_append_right (by rw[List.length_map,List.length_take];omega),List.getElem?_append_right (by rw[List.length_map,List.length_take];omega),List.length_map,List.length_take,List.getElem?_drop,show i-min j.toNat G.length=(i-j.toNat-1)+1 by omega,List.cons_append,List.nil_append,List.getElem?_cons_succ,List.getElem?_drop]
    congr 1
    omega
 have e1:G.take j.toNat=G:=List.take_of_length_le (by omega)
 have e2:G.drop j.toNat=[]:=List.drop_of_length_le (by omega)
 rw[e1,e2,List.append_nil]
 exact Ret_chk (by simp[capIs]) (Ret_some rfl)
end X
end Go.Vm
namespace Go.Vm
namespace X
open W
variable {nn:Nat}
def ngv (v:List Int):List Int:=[-(v.getD 0 0), -(v.getD 1 0), -(v.getD 2 0)]
def reF (t:Int) (f:FrT):FrT:=
 if t=1 then(vadd f.1 f.2.2 1,(ngv f.2.2,f.2.1)) else if t=2 then(vadd (vadd f.1 f.2.1 1) f.2.2 1,(ngv f.2.1,ngv f.2.2)) else if t=3 then(vadd f.1 f.2.1 1,(f.2.2,ngv f.2.1)) else
 if t=4 then(vadd f.1 f.2.1 1,(ngv f.2.1,f.2.2)) else if t=5 then(vadd (vadd f.1 f.2.1 1) f.2.2 1,(ngv f.2.2,ngv f.2.1)) else if t=6 then(vadd f.1 f.2.2 1,(f.2.1,ngv f.2.2)) else if t=7 then(f.1,(f.2.2,f.2.1)) else f
def dt (t:Int):Int:=if t<4 then 1 else -1
def swT (t:Int) (u:Bool):Bool:=bif u then decide (t=1)||decide (t=2)||decide (t=5)||decide (t=6) else decide (t=2)||decide (t=3)||decide (t=4)||decide (t=5)
def upT (t:Int) (u:Bool):Bool:=bif decide (t=1)||decide (t=3)||decide (t=5)||decide (t=7) then !u else u
def turns:List Int:=[0,1,2,3,4,5,6,7]
def zF (p:List Int×List Int):FrT:=([0,0,0],p)
theorem K1:∀p∈RU,∀b∈bends,∀u:Bool,∀t∈turns,(swT t u=false→ovF (reF t (zF p)) ((0,0),(upT t u,dt t*b))=reF t (ovF (zF p) ((0,0),(u,b))))∧(swT t u=true→ovF (reF t (ovF (zF p) ((0,0),(u,b)))) ((0,0),(upT t u,dt t*b))=reF t (zF p)):=by decide +kernel
theorem reF_RU:∀p∈RU,∀t∈turns,(reF t (zF p)).2∈RU:=by decide +kernel
abbrev Iso:Type:=Nat×(Int×(Int×Int))
def prm (k:Nat) (v:List Int):List Int:=
 if k=0 then [v.getD 0 0,v.getD 1 0,v.getD 2 0] else if k=1 then [v.getD 0 0,v.getD 2 0,v.getD 1 0] else if k=2 then [v.getD 1 0,v.getD 0 0,v.getD 2 0] else
 if k=3 then [v.getD 1 0,v.getD 2 0,v.getD 0 0] else if k=4 then [v.getD 2 0,v.getD 0 0,v.getD 1 0] else [v.getD 2 0,v.getD 1 0,v.getD 0 0]
def act (A:Iso) (v:List Int):List Int:=[A.2.1* (prm A.1 v).getD 0 0,A.2.2.1* (prm A.1 v).getD 1 0,A.2.2.2* (prm A.1 v).getD 2 0]
def detI (A:Iso):Int:=(if A.1=0∨A.1=3∨A.1=4 then 1 else -1)* (A.2.1* (A.2.2.1*A.2.2.2))
def isoL:List Iso:=[0,1,2,3,4,5].flatMap fun k=>([1, -1]:List Int).flatMap fun a=>([1, -1]:List Int).flatMap fun b=>([1, -1]:List Int).map fun c=>(k,(a,(b,c)))
def isoF (A:Iso) (v:List Int) (f:FrT):FrT:=(vadd v (act A f.1) 1,(act A f.2.1,act A f.2.2))
theorem K2:∀A∈isoL,∀p∈RU,(act A p.1,act A p.2)∈RU∧∀b∈bends,∀u:Bool,ovF (isoF A [0,0,0] (zF p)) ((0,0),(u,detI A*b))=isoF A [0,0,0] (ovF (zF p) ((0,0),(u,b))):=by decide +kernel
theorem K3:∀p∈RU,∀d∈([1, -1]:List Int),∃A∈isoL,detI A=d∧act A p.1=[1,0,0]∧act A p.2=[0,1,0]:=by decide +kernel
end X
end Go.Vm
namespace Go.Vm
namespace X
open W
variable {nn:Nat}
theorem mvS_inj {t:Int} {c a b:SqT} (h:mvS t c a=mvS t c b):a=b:=by
 unfold mvS at h
 obtain⟨h1,h2⟩:=Prod.mk.inj h
 have e1:(tS t a).1=(tS t b).1:=by omega
 have e2:(tS t a).2=(tS t b).2:=by omega
 clear h h1 h2
 unfold tS at e1 e2
 repeat' split at e1
 all_goals simp only[*,if_true,if_false] at e2
 all_goals first
  | exact Prod.ext (by simp at e1 e2;omega) (by simp at e1 e2;omega)
  | exact Prod.ext (by simp_all) (by simp_all)
def adjS (a b:SqT):Prop:=b=(a.1+1,a.2)∨b=(a.1,a.2+1)∨a=(b.1+1,b.2)∨a=(b.1,b.2+1)
theorem adj_oth (h:HgT):adjS h.1 (othS h):=by
 unfold adjS othS
 by_cases c:h.2.1=true
 ·rw[if_pos c];exact .inr (.inl rfl)
 ·rw[if_neg c];exact .inl rfl
theorem adj_mv {t:Int} {c a b:SqT} (ht:0≤t∧t≤7) (h:adjS a b):adjS (mvS t c a) (mvS t c b):=by
 obtain⟨a1,a2⟩:=a
 obtain⟨b1,b2⟩:=b
 unfold adjS at h ⊢
 simp only[Prod.mk.injEq] at h
 rcases(by omega:t=0∨t=1∨t=2∨t=3∨t=4∨t=5∨t=6∨t=7) with rfl | rfl | rfl | rfl | rfl | rfl | rfl | rfl<;>
  (simp[mvS,tS]<;>omega)
theorem btw_r {a b:SqT} (h1:b.1=a.1+1) (h2:b.2=a.2) (d:Int):btw a b d=(a,(false,d))∧othS (a,(false,d))=b:=by
 refine⟨?_,Prod.ext (by simp[othS,h1]) (by simp[othS,h2])⟩
 have hn:¬ltS b a:=by unfold ltS;omega
 unfold btw
 rw[if_neg hn,decide_eq_false (by omega)]
theorem btw_u {a b:SqT} (h1:b.1=a.1) (h2:b.2=a.2+1) (d:Int):btw a b d=(a,(true,d))∧othS (a,(true,d))=b:=by
 refine⟨?_,Prod.ext (by simp[othS,h1]) (by simp[othS,h2])⟩
 have hn:¬ltS b a:=by unfold ltS;omega
 unfold btw
 rw[if_neg hn,decide_eq_true h1.symm]
theorem btw_l {a b:SqT} (h1:a.1=b.1+1) (h2:a.2=b.2) (d:Int):btw a b d=(b,(false,d))∧othS (b,(false,d))=a:=by
 refine⟨?_,Prod.ext (by simp[othS,h1]) (by simp[othS,h2])⟩
 have hn:ltS b a:=by unfold ltS;omega
 unfold btw
 rw[if_pos hn,decide_eq_false (by omega)]
theorem btw_d {a b:SqT} (h1:a.1=b.1) (h2:a.2=b.2+1) (d:Int):btw a b d=(b,(true,d))∧othS (b,(true,d))=a:=by
 refine⟨?_,Prod.ext (by simp[othS,h1]) (by simp[othS,h2])⟩
 have hn:ltS b a:=by unfold ltS;omega
 unfold btw
 rw[if_pos hn,decide_eq_true h1.symm]
theorem btw_ends {a b:SqT} {d:Int} (h:adjS a b):((btw a b d).1=a∧othS (btw a b d)=b)∨((btw a b d).1=b∧othS (btw a b d)=a):=by
 rcases h with h | h | h | h
 ·obtain⟨e1,e2⟩:=btw_r (a:=a) (b:=b) (by rw[h]) (by rw[h]) d
  rw[e1];exact .inl ⟨rfl,e2⟩
 ·obtain⟨e1,e2⟩:=btw_u (a:=a) (b:=b) (by rw[h]) (by rw[h]) d
  rw[e1];exact .inl ⟨rfl,e2⟩
 ·obtain⟨e1,e2⟩:=btw_l (a:=a) (b:=b) (by rw[h]) (by rw[h]) d
  rw[e1];exact .inr ⟨rfl,e2⟩
 ·obtain⟨e1,e2⟩:=btw_d (a:=a) (b:=b) (by rw[h]) (by rw[h]) d
  rw[e1];exact .inr ⟨rfl,e2⟩
theorem btw_bend {a b:SqT} {d:Int}:(btw a b d).2.2=d:=by unfold btw;split<;>rfl
theorem btw_symm {a b:SqT} {d:Int} (h:a≠b):btw a b d=btw b a d:=by
 unfold btw
 have irr:=ltS_irr
 rcases ltS_tri a b with c | c | c
 ·rw[if_neg fun g=>irr a (ltS_trans c g),if_pos c]
 ·exact absurd c h
 ·rw[if_pos c,if_neg fun g=>irr a (ltS_trans g c)]
theorem btw_self (h:HgT) (d:Int):btw h.1 (othS h) d=(h.1,(h.2.1,d)):=by
 obtain⟨s,u,b⟩:=h
 cases u
 ·exact(btw_r (a:=s) (b:=othS (s,(false,b))) (by simp[othS]) (by simp[othS]) d).1
 ·exact(btw_u (a:=s) (b:=othS (s,(true,b))) (by simp[othS]) (by simp[othS]) d).1
theorem oth_neq (h:HgT):h.1≠othS h:=fun e=>oth_ne h e.symm
def bk (t:Int):Int:=if t=1 then 3 else if t=3 then 1 else t
theorem bk_rng {t:Int} (ht:0≤t∧t≤7):0≤bk t∧bk t≤7:=by
 unfold bk
 split
 ·omega
 ·split<;>omega
theorem mv_back {t:Int} (c:SqT) (ht:0≤t∧t≤7) (s:SqT):mvS (bk t) (tS (bk t) (mvS t c (0,0))) (mvS t c s)=s:=by
 obtain⟨x,y⟩:=s
 rcases(by omega:t=0∨t=1∨t=2∨t=3∨t=4∨t=5∨t=6∨t=7) with rfl | rfl | rfl | rfl | rfl | rfl | rfl | rfl<;>
  (simp[mvS,tS,bk]<;>omega)
structure TN (t β:Int) (c:SqT) (S:List SqT) (H:List HgT) (S':List SqT) (H':List HgT):Prop where
 t0:0≤t∧t≤7
 b1:β=1∨β= -1
 sq:∀s',s'∈S'↔∃s∈S,mvS t c s=s'
 hg:∀g,g∈H'↔∃h∈H,g=btw (mvS t c h.1) (mvS t c (othS h)) (β*h.2.2)
theorem TN.symm {t β:Int} {c:SqT} {S:List SqT} {H:List HgT} {S':List SqT} {H':List HgT} (h:TN t β c S H S' H'):TN (bk t) β (tS (bk t) (mvS t c (0,0))) S' H' S H:=by
 have back:=mv_back c h.t0
 have hh:∀k:HgT,btw (mvS (bk t) (tS (bk t) (mvS t c (0,0))) (btw (mvS t c k.1) (mvS t c (othS k)) (β*k.2.2)).1) (mvS (bk t) (tS (bk t) (mvS t c (0,0))) (othS (btw (mvS t c k.1) (mvS t c (othS k)) (β*k.2.2)))) (β* (btw (mvS t c k.1) (mvS t c (othS k)) (β*k.2.2)).2.2)=k:=fun k=>by
  have eb:β* (β*k.2.2)=k.2.2:=by rcases h.b1 with rfl | rfl<;>omega
  rw[btw_bend,eb]
  rcases btw_ends (d:=β*k.2.2) (adj_mv (c:=c) h.t0 (adj_oth k)) with⟨e1,e2⟩ | ⟨e1,e2⟩
  ·rw[e1,e2,back,back,btw_self]
  ·rw[e1,e2,back,back,btw_symm (oth_neq k).symm,btw_self]
 refine⟨bk_rng h.t0,h.b1,fun s=>⟨fun hs=>⟨_,(h.sq _).2 ⟨s,hs,rfl⟩,back s⟩,?_⟩,fun k=>⟨fun hk=>⟨_,(h.hg _).2 ⟨k,hk,rfl⟩,(hh k).symm⟩,?_⟩⟩
 ·rintro ⟨s',hs',e⟩
  obtain⟨x,hx,rfl⟩:=(h.sq _).1 hs'
  rw[back] at e
  rw[←e];exact hx
 ·rintro ⟨g,hg,e⟩
  obtain⟨x,hx,rfl⟩:=(h.hg _).1 hg
  rw[hh] at e
  rw[e];exact hx
theorem TN.netOK {t β:Int} {c:SqT} {S:List SqT} {H:List HgT} {S':List SqT} {H':List HgT} (h:TN t β c S H S' H') (hn:NetOK S H) (hl:S'.length=S.length) (hs:Sorted S') (hh:H'.Pairwise ltH) (bd:∀s∈S',(-64≤s.1∧s.1≤64)∧(-64≤s.2∧s.2≤64)):NetOK S' H':=by
 have ends:∀g∈H',g.1∈S'∧othS g∈S':=fun g hg=>by
  obtain⟨k,hk,rfl⟩:=(h.hg g).1 hg
  obtain⟨k1,k2⟩:=hn.ends k hk
  have m1:=(h.sq _).2 ⟨_,k1,rfl⟩
  have m2:=(h.sq _).2 ⟨_,k2,rfl⟩
  rcases btw_ends (d:=β*k.2.2) (adj_mv (c:=c) h.t0 (adj_oth k)) with⟨e1,e2⟩ | ⟨e1,e2⟩
  ·rw[e1,e2];exact⟨m1,m2⟩
  ·rw[e1,e2];exact⟨m2,m1⟩
 refine⟨by rw[hl];exact hn.le,by rw[hl];exact hn.ge,hs,bd,hh,fun g hg=>?_,ends,fun C ⟨s',hs',hc⟩ hC u' hu'=>?_⟩
 ·obtain⟨k,hk,rfl⟩:=(h.hg g).1 hg
  rw[btw_bend]
  have:=hn.bend k hk
  rcases h.b1 with rfl | rfl<;>omega
 ·obtain⟨s,hs,rfl⟩:=(h.sq _).1 hs'
  obtain⟨u,hu,rfl⟩:=(h.sq _).1 hu'
  refine hn.con (fun x=>C (mvS t c x)) ⟨s,hs,hc⟩ (fun k hk=>?_) u hu
  have:=hC _ ((h.hg _).2 ⟨k,hk,rfl⟩)
  rcases btw_ends (d:=β*k.2.2) (adj_mv (c:=c) h.t0 (adj_oth k)) with⟨e1,e2⟩ | ⟨e1,e2⟩
  ·rw[e1,e2] at this;exact this
  ·rw[e1,e2] at this;exact this.symm
theorem mem_turns {t:Int} (h:0≤t∧t≤7):t∈turns:=by
 rcases(by omega:t=0∨t=1∨t=2∨t=3∨t=4∨t=5∨t=6∨t=7) with rfl | rfl | rfl | rfl | rfl | rfl | rfl | rfl<;>decide
theorem bt_r {a b o:SqT} {w:HgT} (h1:b.1=a.1+1) (h2:b.2=a.2) {d:Int} (hw:w=(a,(false,d))) (ho:o=b):btw a b d=w∧othS (btw a b d)=o:=by
 obtain⟨e1,e2⟩:=btw_r h1 h2 d
 rw[e1,hw,ho];exact⟨rfl,e2⟩
theorem bt_u {a b o:SqT} {w:HgT} (h1:b.1=a.1) (h2:b.2=a.2+1) {d:Int} (hw:w=(a,(true,d))) (ho:o=b):btw a b d=w∧othS (btw a b d)=o:=by
 obtain⟨e1,e2⟩:=btw_u h1 h2 d
 rw[e1,hw,ho];exact⟨rfl,e2⟩
theorem bt_l {a b o:SqT} {w:HgT} (h1:a.1=b.1+1) (h2:a.2=b.2) {d:Int} (hw:w=(b,(false,d))) (ho:o=a):btw a b d=w∧othS (btw a b d)=o:=by
 obtain⟨e1,e2⟩:=btw_l h1 h2 d
 rw[e1,hw,ho];exact⟨rfl,e2⟩
theorem bt_d {a b o:SqT} {w:HgT} (h1:a.1=b.1) (h2:a.2=b.2+1) {d:Int} (hw:w=(b,(true,d))) (ho:o=a):btw a b d=w∧othS (btw a b d)=o:=by
 obtain⟨e1,e2⟩:=btw_d h1 h2 d
 rw[e1,hw,ho];exact⟨rfl,e2⟩
theorem btw_turn {t:Int} {c:SqT} (ht:0≤t∧t≤7) (h:HgT) (d:Int):btw (mvS t c h.1) (mvS t c (othS h)) d=(bif swT t h.2.1 then mvS t c (othS h) else mvS t c h.1,(upT t h.2.1,d))∧othS (btw (mvS t c h.1) (mvS t c (othS h)) d)=(bif swT t h.2.1 then mvS t c h.1 else mvS t c (othS h)):=by
 obtain⟨⟨x,y⟩,u,b⟩:=h
 rcases(by omega:t=0∨t=1∨t=2∨t=3∨t=4∨t=5∨t=6∨t=7) with rfl | rfl | rfl | rfl | rfl | rfl | rfl | rfl<;>
  cases u<;>first
   | exact bt_r (by simp[mvS,tS,othS]<;>omega) (by simp[mvS,tS,othS]<;>omega) rfl rfl
   | exact bt_u (by simp[mvS,tS,othS]<;>omega) (by simp[mvS,tS,othS]<;>omega) rfl rfl
   | exact bt_l (by simp[mvS,tS,othS]<;>omega) (by simp[mvS,tS,othS]<;>omega) rfl rfl
   | exact bt_d (by simp[mvS,tS,othS]<;>omega) (by simp[mvS,tS,othS]<;>omega) rfl rfl
def shF (a:List Int) (f:FrT):FrT:=(vadd a f.1 1,f.2)
theorem shF_z {f:FrT} (h:f.1.length=3):shF f.1 (zF f.2)=f:=by
 refine Prod.ext (ext3 rfl h ?_ ?_ ?_) rfl<;>simp[shF,zF,vadd]
theorem vadd_assoc (a b d:List Int):vadd (vadd a b 1) d 1=vadd a (vadd b d 1) 1:=by
 refine ext3 rfl rfl ?_ ?_ ?_<;>simp[vadd]<;>omega
theorem ovF_sh (a:List Int) (f:FrT) (h:HgT):ovF (shF a f) h=shF a (ovF f h):=by
 unfold ovF shF
 split
 ·rw[vadd_assoc]
 ·rw[vadd_assoc]
theorem reF_sh (t:Int) (a:List Int) (f:FrT):reF t (shF a f)=shF a (reF t f):=by
 unfold reF shF
 repeat' split
 all_goals first | rfl | simp only[vadd_assoc]
theorem K1f {B:Int} {f:FrT} {h:HgT} {t:Int} (hf:FrOK B f) (hb: -1≤h.2.2∧h.2.2≤1) (ht:0≤t∧t≤7) (x:SqT):
  (swT t h.2.1=false→ovF (reF t f) (x,(upT t h.2.1,dt t*h.2.2))=reF t (ovF f h))∧(swT t h.2.1=true→ovF (reF t (ovF f h)) (x,(upT t h.2.1,dt t*h.2.2))=reF t f):=by
 obtain⟨k1,k2⟩:=K1 _ hf.ru _ (mem_bends hb) h.2.1 _ (mem_turns ht)
 have ef:=shF_z hf.len
 have e2:ovF f h=shF f.1 (ovF (zF f.2) ((0,0),(h.2.1,h.2.2))):=by
  conv=>lhs;rw[←ef]
  rw[ovF_sh];rfl
 constructor
 ·intro c
  rw[e2]
  conv=>lhs;rw[←ef]
  rw[reF_sh,ovF_sh,reF_sh,←k1 c]
  rfl
 ·intro c
  rw[e2]
  conv=>rhs;rw[←ef]
  rw[reF_sh,ovF_sh,reF_sh,←k2 c]
  rfl
theorem reF_dir (t:Int) (f:FrT):(reF t f).2=(reF t (zF f.2)).2:=by
 unfold reF
 repeat' split
 all_goals rfl
theorem FrOK.re {B:Int} {f:FrT} {t:Int} (hf:FrOK B f) (ht:0≤t∧t≤7):FrOK (B+2) (reF t f):=by
 obtain⟨u1,u2⟩:=RU_unit _ hf.ru
 have b1:=(unit_bd _ u1).2
 have b2:=(unit_bd _ u2).2
 have key:(reF t f).1.length=3∧∀k:Nat,k<3→ -(B+2)≤(reF t f).1.getD k 0∧(reF t f).1.getD k 0≤B+2:=by
  refine⟨?_,fun k hk=>?_⟩
  ·unfold reF
   repeat' split
   all_goals first | rfl | exact hf.len
  ·have h1:=hf.lo k hk;have h2:=hf.hi k hk;have h3:=b1 k hk;have h4:=b2 k hk
   unfold reF
   repeat' split
   all_goals first | (simp only[vadd_at k hk];omega) | omega
 exact⟨key.1,fun k hk=>(key.2 k hk).1,fun k hk=>(key.2 k hk).2,by rw[reF_dir];exact reF_RU _ hf.ru _ (mem_turns ht)⟩
structure IsoOK (A:Iso):Prop where
 k:A.1=0∨A.1=1∨A.1=2∨A.1=3∨A.1=4∨A.1=5
 a:A.2.1=1∨A.2.1= -1
 b:A.2.2.1=1∨A.2.2.1= -1
 c:A.2.2.2=1∨A.2.2.2= -1
theorem isoL_ok:∀A∈isoL,IsoOK A:=fun A hA=>by
 have:∀A∈isoL,(A.1=0∨A.1=1∨A.1=2∨A.1=3∨A.1=4∨A.1=5)∧(A.2.1=1∨A.2.1= -1)∧(A.2.2.1=1∨A.2.2.1= -1)∧(A.2.2.2=1∨A.2.2.2= -1):=by decide
 obtain⟨h1,h2,h3,h4⟩:=this A hA
 exact⟨h1,h2,h3,h4⟩
theorem act_add (A:Iso) (x y:List Int):act A (vadd x y 1)=vadd (act A x) (act A y) 1:=by
 unfold act prm vadd
 repeat' split
 all_goals simp[Int.mul_add]
theorem isoF_sh (A:Iso) (v a:List Int) (f:FrT):isoF A v (shF a f)=shF (vadd v (act A a) 1) (isoF A [0,0,0] f):=by
 refine Prod.ext ?_ rfl
 show vadd v (act A (vadd a f.1 1)) 1=vadd (vadd v (act A a) 1) (vadd [0,0,0] (act A f.1) 1) 1
 rw[act_add]
 refine ext3 rfl rfl ?_ ?_ ?_<;>simp[vadd]<;>omega
theorem K2f {B:Int} {A:Iso} {f:FrT} {h:HgT} (hA:A∈isoL) (hf:FrOK B f) (hb: -1≤h.2.2∧h.2.2≤1) (v:List Int) (x:SqT):ovF (isoF A v f) (x,(h.2.1,detI A*h.2.2))=isoF A v (ovF f h):=by
 have k:=(K2 A hA _ hf.ru).2 _ (mem_bends hb) h.2.1
 have ef:=shF_z hf.len
 have e2:ovF f h=shF f.1 (ovF (zF f.2) ((0,0),(h.2.1,h.2.2))):=by
  conv=>lhs;rw[←ef]
  rw[ovF_sh];rfl
 rw[e2]
 conv=>lhs;rw[←ef]
 rw[isoF_sh,ovF_sh,isoF_sh,←k]
 rfl
theorem act_bd {A:Iso} {B:Int} (hA:IsoOK A) {x:List Int} (h:∀k:Nat,k<3→ -B≤x.getD k 0∧x.getD k 0≤B):∀k:Nat,k<3→ -B≤(act A x).getD k 0∧(act A x).getD k 0≤B:=fun k hk=>by
 have h0:=h 0 (by omega);have h1:=h 1 (by omega);have h2:=h 2 (by omega)
 have p:∀j:Nat,j<3→ -B≤(prm A.1 x).getD j 0∧(prm A.1 x).getD j 0≤B:=fun j hj=>by
  unfold prm
  rcases(by omega:j=0∨j=1∨j=2) with rfl | rfl | rfl
  all_goals (repeat' split)
  all_goals first | assumption | (simp only[List.getD_cons_zero,List.getD_cons_succ];assumption)
 have q:∀(s z:Int),(s=1∨s= -1)→ -B≤z∧z≤B→ -B≤s*z∧s*z≤B:=fun s z hs hz=>by rcases hs with rfl | rfl<;>omega
 unfold act
 rcases(by omega:k=0∨k=1∨k=2) with rfl | rfl | rfl
 ·exact q _ _ hA.a (p 0 (by omega))
 ·exact q _ _ hA.b (p 1 (by omega))
 ·exact q _ _ hA.c (p 2 (by omega))
theorem FrOK.iso {B C:Int} {A:Iso} {f:FrT} {v:List Int} (hA:A∈isoL) (hf:FrOK B f) (hv:∀k:Nat,k<3→ -C≤v.getD k 0∧v.getD k 0≤C):FrOK (B+C) (isoF A v f):=by
 have ab:=act_bd (isoL_ok A hA) (x:=f.1) (B:=B) fun k hk=>⟨hf.lo k hk,hf.hi k hk⟩
 refine⟨rfl,fun k hk=>?_,fun k hk=>?_,(K2 A hA _ hf.ru).1⟩
 ·have:=ab k hk;have:=hv k hk
  show _≤(vadd v (act A f.1) 1).getD k 0
  rw[vadd_at k hk];omega
 ·have:=ab k hk;have:=hv k hk
  show(vadd v (act A f.1) 1).getD k 0≤_
  rw[vadd_at k hk];omega
def frS (S:List SqT) (O:List FrT) (s:SqT):FrT:=O.getD (idxS S s).toNat frZ
theorem turn_obey {t β:Int} {c:SqT} {S:List SqT} {H:List HgT} {S':List SqT} {H':List HgT} (tn:TN t β c S H S' H') (hn:NetOK S H) (hn':NetOK S' H') {O:List FrT} (hO:∀s∈S,FrOK 20 (frS S O s)) (ho:∀h∈H,ovF (frS S O h.1) h=frS S O (othS h)):
  ∃A v O',A∈isoL∧(∀k:Nat,k<3→ -22≤v.getD k 0∧v.getD k 0≤22)∧Obey S' H' O'∧∀s∈S,frS S' O' (mvS t c s)=isoF A v (reF t (frS S O s)):=by
 have hge':=hn'.ge
 have h0:S'.getD 0 (0,0)∈S':=getD_memS (by omega)
 obtain⟨s0,hs0,e0⟩:=(tn.sq _).1 h0
 have f0:=(hO s0 hs0).re tn.t0
 generalize hF0:reF t (frS S O s0)=F0 at f0
 have hd:β*dt t∈([1, -1]:List Int):=by
  unfold dt
  rcases tn.b1 with rfl | rfl<;>split<;>simp
 obtain⟨A,hA,dA,a1,a2⟩:=K3 _ f0.ru _ hd
 have hAb:=act_bd (isoL_ok A hA) (x:=F0.1) (B:=22) fun k hk=>⟨f0.lo k hk,f0.hi k hk⟩
 have hvb:∀k:Nat,k<3→ -22≤(ngv (act A F0.1)).getD k 0∧(ngv (act A F0.1)).getD k 0≤22:=fun k hk=>by
  have a0:=hAb 0 (by omega);have a1:=hAb 1 (by omega);have a2:=hAb 2 (by omega)
  rcases(by omega:k=0∨k=1∨k=2) with rfl | rfl | rfl
  ·exact⟨show(-22:Int)≤ -((act A F0.1).getD 0 0) by omega,show -((act A F0.1).getD 0 0)≤(22:Int) by omega⟩
  ·exact⟨show(-22:Int)≤ -((act A F0.1).getD 1 0) by omega,show -((act A F0.1).getD 1 0)≤(22:Int) by omega⟩
  ·exact⟨show(-22:Int)≤ -((act A F0.1).getD 2 0) by omega,show -((act A F0.1).getD 2 0)≤(22:Int) by omega⟩
 have hv0:isoF A (ngv (act A F0.1)) F0=frame0:=by
  unfold isoF
  rw[a1,a2]
  refine Prod.ext (ext3 rfl rfl ?_ ?_ ?_) rfl<;>simp[ngv,vadd,frame0]<;>omega
 generalize ngv (act A F0.1)=v at *
 have inv:∀s':SqT,∃s,s'∈S'→s∈S∧mvS t c s=s':=fun s'=>by
  by_cases h:s'∈S'
  ·obtain⟨s,h1,h2⟩:=(tn.sq _).1 h
   exact⟨s,fun _=>⟨h1,h2⟩⟩
  ·exact⟨(0,0),fun c=>absurd c h⟩
 obtain⟨ψ,hψ⟩:=Classical.axiomOfChoice inv
 have hψ2:∀s∈S,ψ (mvS t c s)=s:=fun s hs=>mvS_inj (hψ _ ((tn.sq _).2 ⟨s,hs,rfl⟩)).2
 obtain⟨F,hF⟩:∃F:SqT→FrT,∀s',F s'=isoF A v (reF t (frS S O (ψ s'))):=⟨_,fun _=>rfl⟩
 have at_:∀s'∈S',(S'.map F).getD (idxS S' s').toNat frZ=F s':=fun s' hs'=>by
  obtain⟨x1,x2,x3⟩:=at_idxS hs'
  rw[List.getD,List.getElem?_map]
  rw[List.getD,List.getElem?_eq_getElem x2] at x3
  rw[List.getElem?_eq_getElem x2,Option.map_some,Option.getD_some]
  simp only[Option.getD_some] at x3
  rw[x3]
 refine⟨A,v,S'.map F,hA,hvb,⟨List.length_map _,?_,fun i hi=>?_,fun g hg=>?_⟩,fun s hs=>?_⟩
 ·have:=at_ _ h0
  rw[idxS_at hn'.srt.nodup (by omega)] at this
  rw[show(((0:Nat):Int)).toNat=0 from rfl] at this
  rw[this,hF,←e0,hψ2 s0 hs0,hF0,hv0]
 ·have hm:=getD_memS (L:=S') (i:=i) hi
  have:=at_ _ hm
  rw[idxS_at hn'.srt.nodup hi,Int.toNat_natCast] at this
  rw[this,hF]
  obtain⟨p1,_⟩:=hψ _ hm
  exact(((hO _ p1).re tn.t0).iso hA hvb).mono (by omega)
 ·obtain⟨g1,g2⟩:=hn'.ends g hg
  obtain⟨k,hk,e⟩:=(tn.hg g).1 hg
  obtain⟨k1,k2⟩:=hn.ends k hk
  have kb:=hn.bend k hk
  rw[at_ _ g1,at_ _ g2,hF,hF]
  obtain⟨q1,q2⟩:=btw_turn (c:=c) tn.t0 k (β*k.2.2)
  rw[←e] at q1 q2
  have hk0:=ho k hk
  obtain⟨z1,z2⟩:=K1f (hO _ k1) kb tn.t0 (0,0)
  have bb:β*k.2.2=detI A* (dt t*k.2.2):=by
   rw[dA]
   unfold dt
   rcases tn.b1 with rfl | rfl<;>split<;>omega
  have kb2: -1≤dt t*k.2.2∧dt t*k.2.2≤1:=by
   unfold dt
   split<;>omega
  have eg:g=(g.1,(upT t k.2.1,detI A* (dt t*k.2.2))):=by
   conv=>lhs;rw[q1]
   rw[q1,←bb]
  cases hsw:swT t k.2.1 with
  | false=>
    rw[hsw] at q1 q2
    have e1:g.1=mvS t c k.1:=by rw[q1];rfl
    have e2:othS g=mvS t c (othS k):=q2
    rw[e1,e2]
    have w1:ψ (mvS t c k.1)=k.1:=hψ2 _ k1
    have w2:ψ (mvS t c (othS k))=othS k:=hψ2 _ k2
    show ovF (isoF A v (reF t (frS S O (ψ (mvS t c k.1))))) g=isoF A v (reF t (frS S O (ψ (mvS t c (othS k)))))
    rw[w1,w2,eg,K2f hA ((hO _ k1).re tn.t0) (h:=(g.1,(upT t k.2.1,dt t*k.2.2))) kb2 v g.1,←hk0,←z1 hsw]
    rfl
  | true=>
    rw[hsw] at q1 q2
    have e1:g.1=mvS t c (othS k):=by rw[q1];rfl
    have e2:othS g=mvS t c k.1:=q2
    rw[e1,e2]
    have w1:ψ (mvS t c k.1)=k.1:=hψ2 _ k1
    have w2:ψ (mvS t c (othS k))=othS k:=hψ2 _ k2
    show ovF (isoF A v (reF t (frS S O (ψ (mvS t c (othS k)))))) g=isoF A v (reF t (frS S O (ψ (mvS t c k.1))))
    rw[w1,w2,eg,K2f hA ((hO _ k2).re tn.t0) (h:=(g.1,(upT t k.2.1,dt t*k.2.2))) kb2 v g.1,←hk0,←z2 hsw]
    rfl
 ·show(S'.map F).getD (idxS S' (mvS t c s)).toNat frZ=_
  rw[at_ _ ((tn.sq _).2 ⟨s,hs,rfl⟩),hF,hψ2 s hs]
end X
end Go.Vm
