/-
  Nets: Compare and Text of valid nets.
  Nets: the law NetsCompare.
-/
import Derived.Test.YtahplmacekfjgaaGreatDoorN2
import Derived.Test.YtahplmacekfjgaaGreatDoorN1
set_option linter.unusedSimpArgs false
set_option linter.unusedVariables false
set_option linter.unusedSectionVars false
set_option linter.unnecessarySimpa false
namespace Go.Vm
namespace X
open W
variable {nn:Nat}
theorem c3_if (a b:Int):(if a<b then(-1:Int) else if b<a then 1 else 0)=c3 a b:=by
 unfold c3
 by_cases h:a<b
 ·simp[h]
 ·by_cases h2:b<a<;>simp[h,h2]
theorem Compare_c3 (a b:Int):cmp_Compare_int (fu nn) (a,b)=some (c3 a b):=by rw[cmp_Compare_ok,c3_if]
theorem Compare8_c3 (a b:Int):cmp_Compare_int8 (fu nn) (a,b)=some (c3 a b):=by
 unfold cmp_Compare_int8 cmp_isNaN_int8
 simp only[ne_eq,not_true_eq_false,decide_false,Option.bind_some,cond_false]
 rw[←c3_if]
 by_cases h:a<b
 ·rw[decide_eq_true h,cond_true,if_pos h]
 ·rw[decide_eq_false h,cond_false,if_neg h]
  by_cases g:b<a
  ·rw[decide_eq_true g,cond_true,if_pos g]
  ·rw[decide_eq_false g,cond_false,if_neg g]
theorem compare_cf (s t:SqT):nets_Square_compare (fu nn) (s,t)=some (cfS s t):=by
 unfold nets_Square_compare
 simp only
 rw[Compare_c3,Option.bind_some,Compare_c3,Option.bind_some,cmp_Or_ok,Option.bind_some]
 unfold cfS
 by_cases h:c3 s.2 t.2=0
 ·rw[if_neg (by simpa using h),decide_eq_true h,cond_true]
 ·rw[if_pos h,decide_eq_false h,cond_false]
theorem wayI_eq (g:HgT):wayI g=wayH g:=by
 unfold wayI wayH
 cases g.2.1<;>rfl
theorem place_cf (g h:HgT):nets_Hinge_place (fu nn) (g,h)=some (cfH g h):=by
 unfold nets_Hinge_place
 simp only
 rw[show nets_Square_compare (fu nn) ((g.1.1,g.1.2),(h.1.1,h.1.2))=some (cfS g.1 h.1) from compare_cf _ _,Option.bind_some,show nets_Hinge_way (fu nn) ((g.1.1,g.1.2),(g.2.1,g.2.2))=some (wayH g) from way_ok _,Option.bind_some,
  show nets_Hinge_way (fu nn) ((h.1.1,h.1.2),(h.2.1,h.2.2))=some (wayH h) from way_ok _,Option.bind_some,Compare_c3,Option.bind_some,cmp_Or_ok,Option.bind_some]
 unfold cfH
 rw[wayI_eq,wayI_eq]
 by_cases e:cfS g.1 h.1=0
 ·rw[if_neg (by simpa using e),decide_eq_true e,cond_true]
 ·rw[if_pos e,decide_eq_false e,cond_false]
theorem compare1_cf (g h:HgT):nets_Compare_c1 (fu nn) (g,h)=some (cfG g h):=by
 unfold nets_Compare_c1
 simp only
 rw[show nets_Hinge_place (fu nn) (((g.1.1,g.1.2),(g.2.1,g.2.2)),((h.1.1,h.1.2),(h.2.1,h.2.2)))=some (cfH g h) from place_cf _ _,Option.bind_some,Compare8_c3,Option.bind_some,cmp_Or_ok,Option.bind_some]
 unfold cfG
 by_cases e:cfH g h=0
 ·rw[if_neg (by simpa using e),if_pos e]
 ·rw[if_pos e,if_neg e]
theorem lexF_drop {α:Type} {cf:α→α→Int} {L K:List α} (h:L.length=K.length) {i:Nat} (hi:i<L.length) (d:α):lexF cf (L.drop i) (K.drop i)=if cf (L.getD i d) (K.getD i d)=0 then lexF cf (L.drop (i+1)) (K.drop (i+1)) else cf (L.getD i d) (K.getD i d):=by
 rw[List.drop_eq_getElem_cons hi,List.drop_eq_getElem_cons (show i<K.length by omega),List.getD,List.getElem?_eq_getElem hi,List.getD,List.getElem?_eq_getElem (show i<K.length by omega)]
 rfl
theorem cf_loop {α:Type} (d:α) {cf:α→α→Int} {L K:List α} (h:L.length=K.length) (hl:L.length≤10000) {cmpP:α→α→Option Int} (hc:∀x y,cmpP x y=some (cf x y)):
  loopF (fun rec1 (x1:Int)=>bif(decide (x1< ((L.length:Nat):Int))) then(chk (inb x1 L.length) (bif(decide (((K.length:Nat):Int)≤x1)) then(some 1) else(chk (inb x1 K.length) ((cmpP (L.getD x1.toNat d) (K.getD x1.toNat d)).bind fun r2=>bif(decide (r2≠0)) then(some r2) else(chk (i64b (x1+1)) (rec1 (x1+1))))))) else(bif(decide (((L.length:Nat):Int)< ((K.length:Nat):Int))) then(some (-1)) else(some 0))) (fu nn) 0=some (lexF cf L K):=by
 apply Ret.eq
 refine Ret_loop (Inv:=fun x:Int=>0≤x∧x≤L.length∧lexF cf L K=lexF cf (L.drop x.toNat) (K.drop x.toNat)) (m:=fun x=>((L.length:Int)-x).toNat) ?_ _ _ ⟨by simp,by simp,by simp⟩ (by simp only[fu];omega)
 rintro i rec ⟨i1,i2,i3⟩ ih
 refine Ret_dec (fun hlt=>?_) fun hge=>Ret_dec (fun g=>by omega) fun _=>Ret_some ?_
 ·have hd:=lexF_drop (cf:=cf) h (i:=i.toNat) (by omega) d
  refine Ret_chk (inb_t (by omega) (by omega)) (Ret_dec (fun g=>by omega) fun _=>Ret_chk (inb_t (by omega) (by omega)) ?_)
  rw[hc,Option.bind_some]
  refine Ret_dec (fun g=>Ret_some ?_) fun g=>Ret_chk (i64b_t (by omega) (by omega)) (ih _ ⟨by omega,by omega,?_⟩ (by omega))
  ·rw[i3,hd,if_neg g]
  ·rw[i3,hd,if_pos (Classical.not_not.1 g),show(i+1).toNat=i.toNat+1 by omega]
 ·rw[i3,List.drop_eq_nil_of_le (by omega),List.drop_eq_nil_of_le (by omega)]
  rfl
theorem compareS_ok {L K:List SqT} (h:L.length=K.length) (hl:L.length≤10000):slices_CompareFunc_nets_Square (fu nn) (L,(K,()))=some (lexF cfS L K):=
 cf_loop (0,0) h hl (cmpP:=fun x y=>nets_Square_compare (fu nn) ((x.1,x.2),(y.1,y.2))) fun x y=>compare_cf x y
theorem compareH_ok {L K:List HgT} (h:L.length=K.length) (hl:L.length≤10000):slices_CompareFunc_nets_Hinge (fu nn) (L,(K,()))=some (lexF cfG L K):=
 cf_loop ((0,0),(false,0)) h hl (cmpP:=fun x y=>nets_Compare_c1 (fu nn) (((x.1.1,x.1.2),(x.2.1,x.2.2)),((y.1.1,y.1.2),(y.2.1,y.2.2)))) fun x y=>compare1_cf x y
theorem Compare_ok {a b:List SqT×List HgT} (h1:a.1.length≤10000) (h2:a.2.length≤10000):nets_Compare (fu nn) (a,b)=some (cmpN a b):=by
 unfold nets_Compare
 simp only
 rw[cmpN_eq,Compare_c3,Option.bind_some]
 by_cases e1:c3 (a.1.length:Int) b.1.length=0
 ·rw[if_neg (by simpa using e1),decide_eq_false (by simpa using e1),cond_false,compareS_ok (by have:=c3_0.1 e1;omega) h1,Option.bind_some]
  by_cases e2:lexF cfS a.1 b.1=0
  ·rw[if_neg (by simpa using e2),decide_eq_false (by simpa using e2),cond_false,Compare_c3,Option.bind_some]
   by_cases e3:c3 (a.2.length:Int) b.2.length=0
   ·rw[if_neg (by simpa using e3),decide_eq_false (by simpa using e3),cond_false,compareH_ok (by have:=c3_0.1 e3;omega) h2,Option.bind_some]
   ·rw[if_pos e3,decide_eq_true e3,cond_true]
  ·rw[if_pos e2,decide_eq_true e2,cond_true]
 ·rw[if_pos e1,decide_eq_true e1,cond_true]
def decN (s:List Nat):Int:=match s with
 | 45::r=> - (r.foldl (fun(a:Int) (c:Nat)=>10*a+ ((c:Int)-48)) 0)
 | r=>r.foldl (fun(a:Int) (c:Nat)=>10*a+ ((c:Int)-48)) 0
def okNum (n:Int) (s:List Nat):Bool:=s.length.ble 3&& !(s.length.beq 0)&&s.all (fun y=>Nat.ble 33 y&&y.ble 255)&&ieq (decN s) n
theorem itoa_chk:((List.range 129).all fun k=>match strconv_Itoa (fu nn) ((k:Int)-64) with | some s=>okNum ((k:Int)-64) s | none=>false)=true:=by kernel_rfl
def itN (nn:Nat) (n:Int):List Nat:=(strconv_Itoa (fu nn) n).getD []
theorem itN_ok {n:Int} (h1: -64≤n) (h2:n≤64):strconv_Itoa (fu nn) n=some (itN nn n)∧(itN nn n).length≤3∧1≤(itN nn n).length∧(∀y∈itN nn n,y<256∧33≤y)∧decN (itN nn n)=n:=by
 have:=List.all_eq_true.1 (itoa_chk (nn:=nn)) (n+64).toNat (List.mem_range.2 (by omega))
 rw[show(((n+64).toNat:Nat):Int)-64=n by omega] at this
 unfold itN
 split at this
 ·rename_i s e
  rw[e]
  unfold okNum at this
  simp only[Bool.and_eq_true,ble_dec,beq_dec,decide_eq_true_eq,List.all_eq_true,ieq_dec,Bool.not_eq_true',decide_eq_false_iff_not] at this
  obtain⟨⟨⟨q1,q2⟩,q3⟩,q4⟩:=this
  exact⟨rfl,q1,by show 1≤s.length;omega,fun y hy=>by have:=q3 y hy;omega,q4⟩
 ·cases this
abbrev D64 (n:Int):Prop:= -64≤n∧n≤64
theorem itB_eq {n:Int} (h:D64 n):(itB (strconv_Itoa (fu nn)) n).data.toList=u8 (itN nn n):=by
 obtain⟨e,l,_⟩:=itN_ok (nn:=nn) h.1 h.2
 unfold itB
 rw[e]
 simp only
 rw[ble_dec,decide_eq_true (by omega),cond_true]
 rfl
theorem numOK:Num (itB (strconv_Itoa (fu nn))) D64 where
 ok n hn y hy:=by
  obtain⟨e,l,_,hb,_⟩:=itN_ok (nn:=nn) hn.1 hn.2
  rw[itB_eq hn] at hy
  obtain⟨z,hz,rfl⟩:=List.mem_map.1 hy
  have:=hb z hz
  constructor
  ·intro e
   have:=congrArg UInt8.toNat e
   simp[Nat.mod_eq_of_lt (hb z hz).1] at this
   omega
  ·intro e
   have:=congrArg UInt8.toNat e
   simp[Nat.mod_eq_of_lt (hb z hz).1] at this
   omega
 inj n m hn hm e:=by
  rw[itB_eq hn,itB_eq hm] at e
  obtain⟨_,_,_,hb,d1⟩:=itN_ok (nn:=nn) hn.1 hn.2
  obtain⟨_,_,_,kb,d2⟩:=itN_ok (nn:=nn) hm.1 hm.2
  have e:(u8 (itN nn n)).map UInt8.toNat=(u8 (itN nn m)).map UInt8.toNat:=by rw[e]
  rw[u8_back fun x hx=>(hb x hx).1,u8_back fun x hx=>(kb x hx).1] at e
  rw[←d1,←d2,e]
def txN (nn:Nat) (n:List SqT×List HgT):List Nat:=(tlT (itB (strconv_Itoa (fu nn))) n.1 n.2).map UInt8.toNat
theorem NetOK.dS {S:List SqT} {H:List HgT} (h:NetOK S H):∀s∈S,DS D64 s:=fun s hs=>h.bd s hs
theorem NetOK.dH {S:List SqT} {H:List HgT} (h:NetOK S H):∀g∈H,DH D64 g:=fun g hg=>by
 have h1:=h.bd _ (h.ends g hg).1
 have h2:=h.bend g hg
 exact⟨h1.1,h1.2,by unfold D64;omega⟩
theorem Text_ok {S:List SqT} {H:List HgT} (h:NetOK S H) (hH:H.length≤1000):nets_Text (fu nn) (S,H)=some (txN nn (S,H)):=by
 have hle:=h.le
 have hge:=h.ge
 unfold nets_Text textR
 rw[Check_ok h (by omega),Option.bind_some,decide_eq_true rfl,cond_true]
 have o1:okT2 S H=true:=by
  unfold okT2
  simp only[Bool.and_eq_true,ble_dec,decide_eq_true_eq,List.all_eq_true]
  exact⟨⟨by omega,hH⟩,fun g hg=>by have:=h.bend g hg;omega⟩
 have o2:okI (strconv_Itoa (fu nn)) (intsT S H)=true:=by
  unfold okI
  rw[List.all_eq_true]
  intro x hx
  have hd:D64 x:=by
   unfold intsT at hx
   rcases List.mem_append.1 hx with g | g
   ·obtain⟨s,hs,e⟩:=List.mem_flatMap.1 g
    have:=h.dS s hs
    simp only[List.mem_cons,List.not_mem_nil,or_false] at e
    rcases e with rfl | rfl
    ·exact this.1
    ·exact this.2
   ·obtain⟨s,hs,e⟩:=List.mem_flatMap.1 g
    have:=h.dH s hs
    simp only[List.mem_cons,List.not_mem_nil,or_false] at e
    rcases e with rfl | rfl | rfl
    ·exact this.1
    ·exact this.2.1
    ·exact this.2.2
  obtain⟨e,l,_⟩:=itN_ok (nn:=nn) hd.1 hd.2
  rw[e]
  show(itN nn x).length.ble 100=true
  rw[ble_dec]
  exact decide_eq_true (by omega)
 have o3:(!(List.length (α:=SqT) S).beq 0)=true:=by
  rw[beq_dec,decide_eq_false (by omega)]
  rfl
 simp only
 rw[o1,o2,o3]
 rfl
theorem txN_inj {a b:List SqT×List HgT} (ha:NetOK a.1 a.2) (hb:NetOK b.1 b.2) (e:txN nn a=txN nn b):a=b:=by
 unfold txN at e
 have e:=congrArg u8 e
 rw[back_u8,back_u8] at e
 obtain⟨h1,h2⟩:=tlT_inj numOK ha.dS ha.dH hb.dS hb.dH e
 exact Prod.ext h1 h2
end X
end Go.Vm
namespace Go.Vm
namespace X
open W
variable {nn:Nat}
theorem Of_net {a:List (List Int)} {c b:Int} (hb:bytes3 a) (hn:a.length≤nn) (hbig:a.length≤140737488355328) (hc:0≤c∧c≤18446744073709551615) (hbb:0≤b∧b≤18446744073709551615):
  ∃n,law38_N_Of (fu nn) (a,(c,b))=some n∧NetOK n.1 n.2∧n.1.length≤20∧n.2.length≤100:=by
 obtain⟨n,en,hnet,htree,h20,_⟩:=Tree_ok (c:=c) (b:=b) hb hn hbig
 obtain⟨q,eq,hq,hsub,hql⟩:=Of_ok en hnet htree h20 hc hbb
 exact⟨(n.1,q),eq,hq,h20,hql⟩
theorem beq_t {p q:Prop} [Decidable p] [Decidable q] (h:p↔q):(decide p==decide q)=true:=by
 rw[beq_iff_eq,decide_eq_decide];exact h
theorem cfS_ltS {x y:SqT}:cfS x y<0↔ltS x y:=by rw[cfS_lt];rfl
theorem cfS_eq {x y:SqT}:cfS x y=0↔x=y:=by
 rw[cfS_0]
 constructor
 ·intro h;exact Prod.ext h.2 h.1
 ·intro h;rw[h];exact⟨rfl,rfl⟩
theorem NetsCompare_core {a b c:List SqT×List HgT} (ha:NetOK a.1 a.2) (hb:NetOK b.1 b.2) (hc:NetOK c.1 c.2) (la:a.2.length≤100) (lb:b.2.length≤100) (lc:c.2.length≤100) {xa xb xc:List (List Int)×(Int×Int)}
  (ea:law38_N_Of (fu nn) xa=some a) (eb:law38_N_Of (fu nn) xb=some b) (ec:law38_N_Of (fu nn) xc=some c) (hl:law38_lives (fu nn) ()=some true):law38_NetsCompare (fu nn) (xa,(xb,xc))=some true:=by
 apply Ret.eq
 have LV:Ret ((law38_lives (fu nn) ()).bind fun r=>some r) fun x=>x=true:=by rw[hl];exact Ret_some rfl
 have h1:=ha.le;have h2:=hb.le;have h3:=hc.le
 have ta:=Text_ok (nn:=nn) ha (by omega)
 have tb:=Text_ok (nn:=nn) hb (by omega)
 have ht:cmpN a b=0↔txN nn a=txN nn b:=by
  rw[cmpN_0]
  exact⟨fun e=>by rw[e],txN_inj ha hb⟩
 have p1:=lexI_bd (kN a) (kN b)
 have p2:cmpN b a= - cmpN a b:=lexI_neg _ _
 have p3:cmpN a a=0:=lexI_0.2 rfl
 have t1:cmpN a b≤0→cmpN b c≤0→cmpN a c≤0:=lexI_trans
 have t2:0≤cmpN a b→0≤cmpN b c→0≤cmpN a c:=lexI_trans'
 have p1: -1≤cmpN a b∧cmpN a b≤1:=p1
 have C1:nets_Compare (fu nn) (a,b)=some (cmpN a b):=Compare_ok (by omega) (by omega)
 have C2:nets_Compare (fu nn) (b,c)=some (cmpN b c):=Compare_ok (by omega) (by omega)
 have C3:nets_Compare (fu nn) (a,c)=some (cmpN a c):=Compare_ok (by omega) (by omega)
 have C4:nets_Compare (fu nn) (b,a)=some (cmpN b a):=Compare_ok (by omega) (by omega)
 have C5:nets_Compare (fu nn) (a,a)=some (cmpN a a):=Compare_ok (by omega) (by omega)
 have pe:=cmpN_eq a b
 obtain⟨xa1,xa2,xa3⟩:=xa
 obtain⟨xb1,xb2,xb3⟩:=xb
 obtain⟨xc1,xc2,xc3⟩:=xc
 obtain⟨S,H⟩:=a
 obtain⟨T,G⟩:=b
 obtain⟨U,K⟩:=c
 unfold law38_NetsCompare
 simp only at *
 rw[ea,Option.bind_some,eb,Option.bind_some,ec,Option.bind_some]
 simp only
 rw[C1,Option.bind_some,C2,Option.bind_some,C3,Option.bind_some]
 generalize hp:cmpN (S,H) (T,G)=p at *
 generalize hq:cmpN (T,G) (U,K)=q at *
 generalize hr:cmpN (S,H) (U,K)=r at *
 refine Ret_jn (fun x=>x=false) (fun x hx=>?_) fun j hj=>?_
 rotate_left
 ·refine Ret_dec (fun g=>by omega) fun _=>Ret_dec (fun g=>by omega) fun _=>?_
  rw[C4,Option.bind_some,p2]
  refine Ret_chk (i64b_t (by omega) (by omega)) (Ret_dec (fun g=>absurd rfl g) fun _=>?_)
  rw[C5,Option.bind_some,p3]
  refine Ret_dec (fun g=>absurd rfl g) fun _=>?_
  rw[ta,Option.bind_some,tb,Option.bind_some,beq_t ht]
  simp only[Bool.not_true,cond_false]
  have fin:∀(h:¬r<0∨True),Ret (j false) fun x=>x=true:=fun _=>hj _ rfl
  have mid:Ret (bif decide ((0:Int)≤p) then(bif decide ((0:Int)≤q) then j (decide (r<0)) else j false) else j false) fun x=>x=true:=
   Ret_dec (fun g1=>Ret_dec (fun g2=>hj _ (decide_eq_false (by have:=t2 g1 g2;omega))) fun _=>hj _ rfl) fun _=>hj _ rfl
  exact Ret_dec (fun g1=>Ret_dec (fun g2=>Ret_dec (fun g3=>absurd (t1 g1 g2) (by omega)) fun _=>mid) fun _=>mid) fun _=>mid
 subst hx
 simp only[cond_false]
 have hc:=fun(x y:Nat)=>c3_lt (a:=(x:Int)) (b:=(y:Int))
 refine Ret_dec (fun hne=>?_) fun hlen=>?_
 ·have e0:c3 (S.length:Int) T.length≠0:=fun c=>hne (c3_0.1 c)
  rw[if_pos e0] at pe
  rw[beq_t (show p<0↔(S.length:Int)<T.length by rw[pe];exact c3_lt),cond_true]
  exact LV
 have hlen:S.length=T.length:=by have:=Classical.not_not.1 hlen;omega
 rw[if_neg (by rw[hlen];exact fun c=>c (c3_0.2 rfl))] at pe
 refine Ret_loop (Inv:=fun x:Int=>0≤x∧x≤S.length∧lexF cfS S T=lexF cfS (S.drop x.toNat) (T.drop x.toNat)) (m:=fun x=>((S.length:Int)-x).toNat) ?_ _ _ ⟨by simp,by simp,by simp⟩ (by simp only[fu];omega)
 rintro i rec ⟨i1,i2,i3⟩ ih
 refine Ret_dec (fun hlt=>?_) fun hge=>?_
 ·have hd:=lexF_drop (cf:=cfS) hlen (i:=i.toNat) (by omega) (0,0)
  refine Ret_chk (inb_t (by omega) (by omega)) (Ret_chk (inb_t (by omega) (by omega)) ?_)
  rw[show(decide ((S.getD i.toNat (0,0)).1=(T.getD i.toNat (0,0)).1)&&decide ((S.getD i.toNat (0,0)).2=(T.getD i.toNat (0,0)).2))=decide (S.getD i.toNat (0,0)=T.getD i.toNat (0,0)) from sq_eq _ _]
  by_cases he:S.getD i.toNat (0,0)=T.getD i.toNat (0,0)
  ·rw[decide_eq_true he]
   refine Ret_chk (i64b_t (by omega) (by omega)) (ih _ ⟨by omega,by omega,?_⟩ (by omega))
   rw[i3,hd,if_pos (cfS_eq.2 he),show(i+1).toNat=i.toNat+1 by omega]
  ·have hcf:cfS (S.getD i.toNat (0,0)) (T.getD i.toNat (0,0))≠0:=fun c=>he (cfS_eq.1 c)
   rw[if_neg hcf] at hd
   rw[i3,hd,if_pos hcf] at pe
   rw[decide_eq_false he]
   refine Ret_chk (inb_t (by omega) (by omega)) (Ret_chk (inb_t (by omega) (by omega)) ?_)
   rw[show law38_less (fu nn) (((S.getD i.toNat (0,0)).1,(S.getD i.toNat (0,0)).2),((T.getD i.toNat (0,0)).1,(T.getD i.toNat (0,0)).2))=some (decide (ltS (S.getD i.toNat (0,0)) (T.getD i.toNat (0,0)))) from less_ok _ _,Option.bind_some,
    beq_t (show p<0↔_ by rw[pe];exact cfS_ltS),cond_true]
   exact LV
 have e2:lexF cfS S T=0:=by
  rw[i3,List.drop_eq_nil_of_le (by omega),List.drop_eq_nil_of_le (by omega)];rfl
 rw[if_neg (fun c=>c e2)] at pe
 refine Ret_dec (fun hne=>?_) fun hlen2=>?_
 ·have e0:c3 (H.length:Int) G.length≠0:=fun c=>hne (c3_0.1 c)
  rw[if_pos e0] at pe
  rw[beq_t (show p<0↔(H.length:Int)<G.length by rw[pe];exact c3_lt),cond_true]
  exact LV
 have hlen2:H.length=G.length:=by have:=Classical.not_not.1 hlen2;omega
 rw[if_neg (by rw[hlen2];exact fun c=>c (c3_0.2 rfl))] at pe
 refine Ret_loop (Inv:=fun x:Int=>0≤x∧x≤H.length∧lexF cfG H G=lexF cfG (H.drop x.toNat) (G.drop x.toNat)) (m:=fun x=>((H.length:Int)-x).toNat) ?_ _ _ ⟨by simp,by simp,by simp⟩ (by simp only[fu];omega)
 rintro k rec2 ⟨k1,k2,k3⟩ ih2
 refine Ret_dec (fun hlt=>?_) fun hge=>LV
 have hd:=lexF_drop (cf:=cfG) hlen2 (i:=k.toNat) (by omega) ((0,0),(false,0))
 refine Ret_chk (inb_t (by omega) (by omega)) (Ret_chk (inb_t (by omega) (by omega)) ?_)
 generalize H.getD k.toNat ((0,0),(false,0))=g at *
 generalize G.getD k.toNat ((0,0),(false,0))=h at *
 rw[show(decide (g.1.1=h.1.1)&&decide (g.1.2=h.1.2))=decide (g.1=h.1) from sq_eq _ _]
 by_cases he:g.1=h.1
 rotate_left
 ·have hcf:cfS g.1 h.1≠0:=fun c=>he (cfS_eq.1 c)
  have hG:cfG g h=cfS g.1 h.1:=by
   unfold cfG cfH
   rw[decide_eq_false hcf,cond_false,if_neg hcf]
  rw[hG,if_neg hcf] at hd
  rw[k3,hd] at pe
  rw[decide_eq_false he]
  simp only[Bool.not_false,cond_true]
  rw[show law38_less (fu nn) ((g.1.1,g.1.2),(h.1.1,h.1.2))=some (decide (ltS g.1 h.1)) from less_ok _ _,Option.bind_some,beq_t (show p<0↔_ by rw[pe];exact cfS_ltS),cond_true]
  exact LV
 rw[decide_eq_true he]
 simp only[Bool.not_true,cond_false]
 have hS0:cfS g.1 h.1=0:=cfS_eq.2 he
 have hG:cfH g h=c3 (wayI g) (wayI h):=by
  unfold cfH
  rw[decide_eq_true hS0,cond_true]
 by_cases hu:g.2.1=h.2.1
 rotate_left
 ·have hw:c3 (wayI g) (wayI h)≠0:=fun c=>hu (by
   have:=c3_0.1 c
   unfold wayI at this
   cases e1:g.2.1<;>cases e2:h.2.1<;>first | rfl | (rw[e1,e2] at this;simp at this))
  have hG2:cfG g h=c3 (wayI g) (wayI h):=by
   unfold cfG
   rw[hG,if_neg hw]
  rw[hG2,if_neg hw] at hd
  rw[k3,hd] at pe
  rw[show(g.2.1==h.2.1)=false from beq_eq_false_iff_ne.2 hu]
  simp only[Bool.not_false,cond_true]
  have hb2:(decide (p<0)==h.2.1)=true:=by
   rw[pe]
   unfold wayI
   cases e1:g.2.1<;>cases e2:h.2.1<;>first | (rw[e1,e2] at hu;exact absurd rfl hu) | rfl
  rw[hb2,cond_true]
  exact LV
 rw[show(g.2.1==h.2.1)=true from beq_iff_eq.2 hu]
 simp only[Bool.not_true,cond_false]
 have hH0:cfH g h=0:=by
  rw[hG]
  exact c3_0.2 (by unfold wayI;rw[hu])
 have hG3:cfG g h=c3 g.2.2 h.2.2:=by
  unfold cfG
  rw[if_pos hH0]
 rw[hG3] at hd
 refine Ret_dec (fun hbn=>?_) fun hbe=>?_
 ·have hw:c3 g.2.2 h.2.2≠0:=fun c=>hbn (c3_0.1 c)
  rw[if_neg hw] at hd
  rw[k3,hd] at pe
  rw[beq_t (show p<0↔g.2.2<h.2.2 by rw[pe];exact c3_lt),cond_true]
  exact LV
 ·rw[if_pos (c3_0.2 (Classical.not_not.1 hbe))] at hd
  exact Ret_chk (i64b_t (by omega) (by omega)) (ih2 _ ⟨by omega,by omega,by rw[k3,hd,show(k+1).toNat=k.toNat+1 by omega]⟩ (by omega))
structure ArgN (nn:Nat) (x:List (List Int)×(Int×Int)):Prop where
 b3:bytes3 x.1
 fu:x.1.length≤nn
 big:x.1.length≤140737488355328
 c:0≤x.2.1∧x.2.1≤18446744073709551615
 b:0≤x.2.2∧x.2.2≤18446744073709551615
theorem law38_NetsCompare_true {x y z:List (List Int)×(Int×Int)} (hx:ArgN nn x) (hy:ArgN nn y) (hz:ArgN nn z) (hl:law38_lives (fu nn) ()=some true):law38_NetsCompare (fu nn) (x,(y,z))=some true:=by
 obtain⟨a,ea,ha,_,la⟩:=Of_net hx.b3 hx.fu hx.big hx.c hx.b
 obtain⟨b,eb,hb,_,lb⟩:=Of_net hy.b3 hy.fu hy.big hy.c hy.b
 obtain⟨c,ec,hc,_,lc⟩:=Of_net hz.b3 hz.fu hz.big hz.c hz.b
 exact NetsCompare_core ha hb hc la lb lc ea eb ec hl
end X
end Go.Vm
