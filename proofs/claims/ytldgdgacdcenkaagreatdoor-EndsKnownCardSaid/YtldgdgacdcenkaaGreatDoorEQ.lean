/-
  Ends: the law EndsAny.
  Ends: the law EndsBack.
  Ends: the laws EndsFolds, EndsPile, EndsKnown.
-/
import Derived.Test.YtldgdgacdcenkaaGreatDoorEFb
set_option linter.unusedSimpArgs false
set_option linter.unusedVariables false
set_option linter.unusedSectionVars false
set_option linter.unnecessarySimpa false
namespace Go.Vm
namespace X
open W Go.Proofs.St Go.Vm.X.Fd
theorem jwf {s:Sp} (h:Good s):Ret (ja2 jak s) fun r=>(r.1=true↔jdf s)∧r.2=0:=
 ⟨_,jlw h,by simp only[decide_eq_true_eq];exact(jpi h).symm,rfl⟩
theorem j4h {L:List (Int×Int)} {i:Nat} (h:i<L.length):L.getD i (0,0)∈L:=by
 rw[List.getD,List.getElem?_eq_getElem h];exact List.getElem_mem h
theorem jli {a:(List Int×List Int)×List Int} (h1:bytes a.1.1) (h2:bytes a.1.2) (h3:bytes a.2):jdc jak a=some true:=by
 apply Ret.eq
 unfold jdc
 refine jac (fun _=>jai (Ret.of jev) fun r hr=>jal hr) fun hn=>?_
 refine jai (jgs (a:=(a.1.1,a.1.2)) h1 h2) fun s hs=>?_
 refine jai (jwf hs.1) fun q ⟨q1,q2⟩=>?_
 refine jac (fun h=>absurd q2 h) fun _=>?_
 refine jas (Inv:=fun x:Int×(List Int×List Int)=>0≤x.1∧x.1≤a.2.length∧Good x.2∧(q.1=true↔jdf x.2)) (m:=fun x=>((a.2.length:Int)-x.1).toNat) ?_ _ _ ⟨by simp,by simp,hs.1,q1⟩ (by simp only[jak];omega)
 rintro ⟨i,c⟩ rec ⟨i1,i2,i3,i4⟩ ih
 simp only[eta] at i1 i2 i3 i4 ⊢
 refine jac (fun hlt=>?_) fun _=>jai (Ret.of jev) fun r hr=>jal hr
 refine jai (Ret.of (jlt i3.1)) fun r hr=>?_
 subst hr
 refine jac (fun h=>absurd rfl h) fun _=>jac (fun h0=>?_) fun h0=>?_
 ·have e:ja1 c=[]:=List.eq_nil_of_length_eq_zero (by simp only at h0;omega)
  have hl:=i3.len
  have hf:=jpi i3
  rw[jdj e] at hf
  simp only at hf
  have hq:q.1=decide (((c.1.length:Nat):Int)=1):=by
   rw[Bool.eq_iff_iff,i4,hf,decide_eq_true_eq];omega
  rw[hq]
  refine ja7 (fun _=>jai (Ret.of jev) fun r hr=>jal hr) fun h=>by simp at h
 ·simp only at h0 ⊢
  have hb:=h3 _ (jaw (L:=a.2) (i:=i.toNat) (by omega))
  generalize a.2.getD i.toNat 0=v at hb ⊢
  have hm1:=Int.emod_nonneg v (show(((ja1 c).length:Nat):Int)≠0 by omega)
  have hm2:=Int.emod_lt_of_pos v (show 0< (((ja1 c).length:Nat):Int) by omega)
  generalize v% (((ja1 c).length:Nat):Int)=k at hm1 hm2 ⊢
  refine jaa (jat (by omega) (by omega)) (jaa (jah (by omega) (by omega)) (jaa (by rw[Bool.and_eq_true];exact⟨decide_eq_true (by omega),decide_eq_true (by omega)⟩) (jaa (jat (by omega) (by omega)) ?_)))
  have hx:=jq5 (j4h (L:=ja1 c) (i:=k.toNat) (by omega))
  generalize (ja1 c).getD k.toNat (0,0)=x at hx ⊢
  refine jai (Ret.of (j79 i3.1 x)) fun r hr=>?_
  rw[if_pos hx] at hr
  subst hr
  have ha:=jeg i3 hx
  refine jai (jwf ha) fun u ⟨u1,u2⟩=>?_
  refine jac (fun h=>absurd rfl h) fun _=>jac (fun h=>absurd u2 h) fun _=>?_
  have hu:u.1=q.1:=by rw[Bool.eq_iff_iff,u1,i4,jr7 i3 hx]
  rw[hu]
  refine ja7 (fun h=>by simp at h) fun _=>jaa (jah (by omega) (by omega)) (ih _ ⟨by simp only;omega,by simp only;omega,ha,by simp only;rw[i4,jr7 i3 hx]⟩ (by simp only;omega))
end X
end Go.Vm
namespace Go.Vm
namespace X
open W Go.Proofs.St
theorem ju7 {s:Sp} (h:Dec s) {c:Nat} (hc:c<s.2.length) {a b:Int} (ha:a=c) (hb:b=(c:Int)+1):jbs jak (s,(a,b))=some (abv s c):=by
 subst ha;subst hb
 have hk:=h.2 _ (jaw (L:=s.2) hc)
 unfold jbs abv
 simp only[show min (c:Int) ((c:Int)+1)=c by omega,Int.toNat_natCast]
 rw[ja8 (jat (by omega) (by omega)),ja8 (by simp;omega)]
 rcases(by omega:c%2=0∨c%2=1) with e | e
 ·rw[decide_eq_true (show((c:Int)+1)%2=1 by omega),cond_true,decide_eq_true e]
  simp
 ·rw[decide_eq_false (show ¬((c:Int)+1)%2=1 by omega),cond_false,decide_eq_false (show ¬c%2=0 by omega)]
  rcases hk with hk | hk<;>rw[hk]<;>rfl
theorem jxj {s:Sp} (h:Dec s) {c:Nat} (hc:c<s.2.length) {a b:Int} (ha:a=(c:Int)+1) (hb:b=c):jbs jak (s,(a,b))=some (!abv s c):=by
 subst ha;subst hb
 have hk:=h.2 _ (jaw (L:=s.2) hc)
 unfold jbs abv
 simp only[show min ((c:Int)+1) (c:Int)=c by omega,Int.toNat_natCast]
 rw[ja8 (jat (by omega) (by omega)),ja8 (by simp)]
 rcases(by omega:c%2=0∨c%2=1) with e | e
 ·rw[decide_eq_false (show ¬(c:Int)%2=1 by omega),cond_false,decide_eq_true e]
  rcases hk with hk | hk<;>rw[hk]<;>rfl
 ·rw[decide_eq_true (show(c:Int)%2=1 by omega),cond_true,decide_eq_false (show ¬c%2=0 by omega)]
  rcases hk with hk | hk<;>rw[hk]<;>rfl
def gL (s:Sp) (k:Int):List Int:=if k=1 then(if abv s 0 then [0,k] else [k,0]) else [k]
def gR (s:Sp) (k:Int):List Int:=if k=(s.2.length:Int)-1 then(if abv s (s.2.length-1) then [k,(s.2.length:Int)] else [(s.2.length:Int),k]) else [k]
def gC (s:Sp) (c:Nat) (k:Int):List Int:=if k=(c:Int) then(if abv s c then [k,k+1,k+2] else [k+2,k+1,k]) else [if(c:Int)+1≤k then k+2 else k]
theorem kf2 {s:Sp} (h:Dec s) (hk:0<s.2.length) (k:Int):jdb jak (s,(k,(decide (k=1),(0,0))))=some (gL s k):=by
 unfold jdb gL
 by_cases e:k=1
 ·subst e
  simp only[decide_true,Bool.not_true,cond_false,if_true]
  rw[decide_eq_false (by omega),cond_false,show((s.1,s.2),((1:Int),(0:Int)))=(s,(1,0)) from rfl,jxj h hk (c:=0) (a:=1) (b:=0) rfl rfl]
  cases abv s 0<;>rfl
 ·simp only[decide_eq_false e,Bool.not_false,cond_true,if_neg e]
theorem kf1 {s:Sp} (h:Dec s) (hk:0<s.2.length) (k:Int) {n:Int} (hn:n=(s.2.length:Int)+1):jdb jak (s,(k,(decide (k=n-2),(n-1,n-2))))=some (gR s k):=by
 subst hn
 rw[show(s.2.length:Int)+1-2=(s.2.length:Int)-1 by omega,show(s.2.length:Int)+1-1=(s.2.length:Int) by omega]
 unfold jdb gR
 by_cases e:k=(s.2.length:Int)-1
 ·simp only[decide_eq_true e,Bool.not_true,cond_false,if_pos e]
  rw[decide_eq_false (by omega),cond_false,show((s.1,s.2),(k,(s.2.length:Int)))=(s,(k,(s.2.length:Int))) from rfl,ju7 h (c:=s.2.length-1) (by omega) (by omega) (by omega)]
  cases abv s (s.2.length-1)<;>rfl
 ·simp only[decide_eq_false e,Bool.not_false,cond_true,if_neg e]
theorem jgc {G:Int→List Int} {L:List Int} {i:Nat} (h:i<L.length):(L.take (i+1)).flatMap G=(L.take i).flatMap G++G (L.getD i 0):=by
 rw[jhz h,List.flatMap_append];simp
theorem jln {G:Int→List Int} (hG:∀k,(G k).length≤3):∀ {L:List Int},(L.flatMap G).length≤3*L.length
 | []=>by simp
 | a::L=>by
   have:=jln hG (L:=L)
   have:=hG a
   rw[List.flatMap_cons,List.length_append,List.length_cons];omega
theorem j8v {s:Sp} (k:Int):(gL s k).length≤3:=by unfold gL;split<;>(try split)<;>simp
theorem j8u {s:Sp} (k:Int):(gR s k).length≤3:=by unfold gR;split<;>(try split)<;>simp
theorem j8w {s:Sp} {c:Nat} (k:Int):(gC s c k).length≤3:=by unfold gC;split<;>(try split)<;>simp
theorem jkn {a:List Int×List Int} (h1:bytes a.1) (h2:bytes a.2):jcv jak a=some true:=by
 apply Ret.eq
 unfold jcv
 refine jai (jgs (a:=(a.1,a.2)) h1 h2) fun s hs0=>?_
 have hs:=hs0.1
 have hl:=hs.len
 have hn:=hs.1.1.1
 simp only[eta]
 refine jai (Ret.of (jlt hs.1)) fun r2 hr2=>?_
 subst hr2
 by_cases hd:Done s
 case neg=>
  refine jai (Ret.of ((jp5 hs).2 hd)) fun r3 hr3=>?_
  subst hr3
  refine jac (fun h=>absurd rfl h) fun _=>jen (fun b=>b=true) (fun b hb=>?_) fun j hj=>jac (fun _=>hj _ rfl) fun h=>absurd (by decide) h
  subst hb
  exact ja7 (fun _=>jac (fun _=>jai (Ret.of jev) fun r hr=>jal hr) fun h=>absurd rfl h) fun h=>by cases h
 refine jai (Ret.of ((jp5 hs).1 hd)) fun r3 hr3=>?_
 subst hr3
 have ho:=jha hs hd
 have pl:=ho.len
 refine jac (fun h=>absurd rfl h) fun _=>jen (fun b=>b=decide (ja1 s=[])) (fun b hb=>?_) fun j hj=>jac (fun h=>absurd rfl h) fun _=>hj _ ?_
 case refine_2=>
  apply decide_eq_decide.2
  rw[←List.length_eq_zero_iff];simp only;omega
 subst hb
 refine jac (fun hnil=>?_) fun hcons=>?_
 ·refine jac (fun h=>by cases h) fun _=>?_
  have hp:=jos hnil
  have hd':=hd
  unfold Done at hd'
  rw[jdj hnil] at hd'
  simp only at hd'
  refine jac (fun h=>absurd (by simp only[hp];rfl) h) fun _=>jac (fun h=>absurd rfl h) fun _=>?_
  refine jas (Inv:=fun i:Int=>0≤i∧i≤1) (m:=fun i=>(1-i).toNat) ?_ _ _ ⟨by omega,by omega⟩ (by simp only[jak];omega)
  intro i rec ⟨i1,i2⟩ ih
  refine jac (fun hlt=>?_) fun _=>jac (fun _=>jai (Ret.of jev) fun r hr=>jal hr) fun h=>absurd (by omega) h
  simp only[hp,List.length_singleton] at hlt
  refine jaa (by simp only[hp];exact jat (by omega) (by simp only[List.length_singleton];omega)) (jaa (jat (by omega) (by omega)) (jac (fun h=>absurd (by simp only[hp]) h) fun _=>jaa (jah (by omega) (by omega)) (ih _ ⟨by omega,by omega⟩ (by omega))))
 ·obtain⟨x,t,e⟩:∃x t,ja1 s=x::t:=by
   cases e:ja1 s with
   | nil=>exact absurd e hcons
   | cons x t=>exact⟨x,t,rfl⟩
  have hx:=jay e
  have ha:=jeg hs hx
  have hda:=hd.cons e
  have hq:=jha ha hda
  have ql:=hq.len
  have qin:=hq.in
  have hk0:=(jbx hx).1
  have pe:=ji5 e
  have al:=ha.len
  have an:=ha.1.1.1
  rw[e]
  simp only[List.getD_cons_zero,eta]
  refine jaa (jat (by omega) (by simp only[List.length_cons];omega)) ?_
  refine jai (Ret.of (j79 hs.1 x)) fun r8 hr8=>?_
  rw[if_pos hx] at hr8
  subst hr8
  simp only[eta]
  refine jai (Ret.of ((jp5 ha).1 hda)) fun r9 hr9=>?_
  subst hr9
  generalize jff (aft s x)=q at hq ql qin pe ⊢
  refine jen (fun b=>b=false) (fun b hb=>?_) fun j hj=>jac (fun h=>absurd rfl h) fun _=>jac (fun h=>absurd rfl h) fun _=>hj _ (decide_eq_false (by simp only;omega))
  subst hb
  refine ja7 (fun h=>by cases h) fun _=>?_
  simp only
  have fin:∀w:List Int,w=jff s→Ret (chk (bnb 0 ((w.length:Nat):Int) w.length&&decide (((w.length:Nat):Int)≤((w.length:Nat):Int))&&decide (((w.length:Nat):Int)≤((w.length:Nat):Int))) (bif(decide ((((jff s).length:Nat):Int)≠((w.length:Nat):Int))) then(some false) else(bif(decide ((((jff s).length:Nat):Int)≠(((jff s).length:Nat):Int))) then(some false) else(jbe (fun(rec17:Int→Option Bool) (x17:Int)=>bif(decide (x17< (((jff s).length:Nat):Int))) then(chk (inb x17 (jff s).length) (chk (inb x17 w.length) (bif(decide (((jff s).getD x17.toNat 0)≠(w.getD (0+x17.toNat) 0))) then(some false) else(chk (jap (x17+1)) (rec17 (x17+1)))))) else((jao jak ()).bind fun r18=>some r18)) jak 0)))) fun x=>x=true:=fun w hw=>by
   subst hw
   refine jaa (by simp[bnb]) (jac (fun h=>absurd rfl h) fun _=>jac (fun h=>absurd rfl h) fun _=>?_)
   refine jas (Inv:=fun i:Int=>0≤i) (m:=fun i=>(((jff s).length:Int)-i).toNat) ?_ _ _ (Int.le_refl 0) (by simp only[jak];omega)
   intro i rec i1 ih
   refine jac (fun hlt=>jaa (jat i1 hlt) (jaa (jat i1 hlt) (jac (fun h=>absurd (by rw[Nat.zero_add]) h) fun _=>jaa (jah (by omega) (by omega)) (ih _ (by omega) (by omega))))) fun _=>jai (Ret.of jev) fun r hr=>jal hr
  obtain⟨k,at_⟩:=x
  obtain⟨-,g | g | ⟨g,g2,g3⟩⟩:=jbx hx
  ·simp only at g;subst g
   have ea:(aft s (1,at_)).1.length=s.2.length:=by simp only[aft,if_true,jz7,List.length_drop];omega
   rw[ea] at hq qin ql
   rw[jjs hk0 hq] at pe
   have rl:(jg5 q 0 1).reverse.length=q.length:=by simp[jg5]
   have gv:∀i:Nat,i<q.length→(jg5 q 0 1).reverse.getD i 0=q.getD (q.length-1-i) 0+1:=fun i hi=>by
    have hm:=qin _ (jaw (L:=q) (i:=q.length-1-i) (by omega))
    rw[jm6 (by simp[jg5];omega)]
    have h':q.length-1-i<q.length:=by omega
    simp only[jg5,List.length_map,List.getD,List.getElem?_map,List.getElem?_eq_getElem h',Option.map_some,Option.getD_some] at hm ⊢
    rw[if_pos hm.1]
   refine jas (Inv:=fun x:List Int×Int=>0≤x.2∧x.2≤q.length∧x.1=((jg5 q 0 1).reverse.take x.2.toNat).flatMap (gL s)) (m:=fun x=>((q.length:Int)-x.2).toNat) ?_ _ _ ⟨by simp,by simp,by simp⟩ (by simp only[jak];omega)
   rintro ⟨w,i⟩ rec ⟨i1,i2,i3⟩ ih
   simp only at i1 i2 i3 ⊢
   refine jac (fun hlt=>?_) fun hge=>?_
   ·have hlw:=jln (j8v (s:=s)) (L:=(jg5 q 0 1).reverse.take i.toNat)
    rw[←i3,List.length_take] at hlw
    have hb:=qin _ (jaw (L:=q) (i:=q.length-1-i.toNat) (by omega))
    refine jaa (jat i1 hlt) (jaa (jat (by omega) (by simp only[List.length_cons];omega)) (jac (fun _=>?_) fun h=>absurd trivial h))
    have e1:(((q.length:Nat):Int)-1-i).toNat=q.length-1-i.toNat:=by omega
    rw[e1]
    refine jaa (jah (by omega) (by omega)) (jaa (jah (by omega) (by omega)) (jaa (jat (by omega) (by omega)) (jaa (jah (by omega) (by omega)) ?_)))
    refine jai (Ret.of (kf2 hs.1 hk0 _)) fun r hr=>?_
    subst hr
    have:=j8v (s:=s) (q.getD (q.length-1-i.toNat) 0+1)
    refine jaa (jbg (by omega)) (jaa (jah (by omega) (by omega)) (ih _ ⟨by simp only;omega,by simp only;omega,?_⟩ (by simp only;omega)))
    simp only
    rw[show(i+1).toNat=i.toNat+1 by omega,jgc (by omega),←i3,gv _ (by omega)]
   ·refine fin w ?_
    rw[i3,List.take_of_length_le (by omega),pe]
    rfl
  ·simp only at g;subst g
   have ea:(aft s (2,at_)).1.length=s.2.length:=by simp only[aft,if_true,jz6,List.length_take,show ¬((2:Int)=1) by omega,if_false];omega
   rw[ea] at hq qin ql
   rw[jhx hk0 hq] at pe
   refine jas (Inv:=fun x:List Int×Int=>0≤x.2∧x.2≤q.length∧x.1=(q.take x.2.toNat).flatMap (gR s)) (m:=fun x=>((q.length:Int)-x.2).toNat) ?_ _ _ ⟨by simp,by simp,by simp⟩ (by simp only[jak];omega)
   rintro ⟨w,i⟩ rec ⟨i1,i2,i3⟩ ih
   simp only at i1 i2 i3 ⊢
   refine jac (fun hlt=>?_) fun hge=>?_
   ·have hlw:=jln (j8u (s:=s)) (L:=q.take i.toNat)
    rw[←i3,List.length_take] at hlw
    refine jaa (jat i1 hlt) (jaa (jat (by omega) (by simp only[List.length_cons];omega)) (jac (fun h=>by omega) fun _=>jac (fun _=>?_) fun h=>absurd trivial h))
    refine jaa (jah (by omega) (by omega)) (jaa (jah (by omega) (by omega)) (jaa (jah (by omega) (by omega)) ?_))
    refine jai (Ret.of (kf1 hs.1 hk0 _ (n:=(s.1.length:Int)) (by omega))) fun r hr=>?_
    subst hr
    have:=j8u (s:=s) (q.getD i.toNat 0)
    refine jaa (jbg (by omega)) (jaa (jah (by omega) (by omega)) (ih _ ⟨by simp only;omega,by simp only;omega,?_⟩ (by simp only;omega)))
    simp only
    rw[show(i+1).toNat=i.toNat+1 by omega,jgc (by omega),←i3]
   ·refine fin w ?_
    rw[i3,List.take_of_length_le (by omega),pe]
    rfl
  ·simp only at g g2 g3;subst g
   obtain⟨c,rfl⟩:∃c:Nat,at_=(c:Int)+1:=⟨(at_-1).toNat,by omega⟩
   have ea:(aft s (3,(c:Int)+1)).1.length=s.1.length-2:=by
    have:((c:Int)+1).toNat=c+1:=by omega
    simp only[aft,show ¬((3:Int)=1) by omega,show ¬((3:Int)=2) by omega,if_false,this,jnt,List.length_append,List.length_take,List.length_drop,List.length_singleton,Nat.add_sub_cancel];omega
   rw[ea] at hq qin ql
   rw[jhy (by omega) (by omega) (n:=s.1.length-2) (by omega) hq] at pe
   refine jas (Inv:=fun x:List Int×Int=>0≤x.2∧x.2≤q.length∧x.1=(q.take x.2.toNat).flatMap (gC s c)) (m:=fun x=>((q.length:Int)-x.2).toNat) ?_ _ _ ⟨by simp,by simp,by simp⟩ (by simp only[jak];omega)
   rintro ⟨w,i⟩ rec ⟨i1,i2,i3⟩ ih
   simp only at i1 i2 i3 ⊢
   refine jac (fun hlt=>?_) fun hge=>?_
   ·have hlw:=jln (j8w (s:=s) (c:=c)) (L:=q.take i.toNat)
    rw[←i3,List.length_take] at hlw
    have hb:=qin _ (jaw (L:=q) (i:=i.toNat) (by omega))
    have es:=jgc (G:=gC s c) (L:=q) (i:=i.toNat) (by omega)
    rw[←i3] at es
    have hin:=jat (i:=(0:Int)) (n:=(((3:Int),(c:Int)+1)::t).length) (by omega) (by simp only[List.length_cons];omega)
    generalize hv:q.getD i.toNat 0=k at hb es ⊢
    refine jaa (jat i1 hlt) (jaa hin (jac (fun h=>by omega) fun _=>jac (fun h=>by omega) fun _=>jaa hin ?_))
    have nxt:∀p:List Int,p=gC s c k→Ret (chk (jb0 (w.length+p.length)) (chk (jap (i+1)) (rec (w++p,i+1)))) fun x=>x=true:=fun p hp=>by
     subst hp
     have:=j8w (s:=s) (c:=c) k
     refine jaa (jbg (by omega)) (jaa (jah (by omega) (by omega)) (ih _ ⟨by simp only;omega,by simp only;omega,?_⟩ (by simp only;omega)))
     simp only
     rw[show(i+1).toNat=i.toNat+1 by omega,es]
    refine jen (fun x=>k≠(c:Int)→x.1=gC s c k) (fun x hx=>?_) fun j hj=>?_
    ·rw[show(c:Int)+1-1=c by omega]
     refine jaa hin (jaa (jah (by omega) (by omega)) (jac (fun hkc=>?_) fun hkc=>nxt _ (hx hkc)))
     have hg:gC s c k=if abv s c then [k,k+1,k+2] else [k+2,k+1,k]:=if_pos hkc
     refine jen (fun x=>x.1=[k,k+1,k+2]) (fun x hx=>?_) fun j hj=>jaa (jah (by omega) (by omega)) (jaa (jah (by omega) (by omega)) (hj _ rfl))
     refine jaa (jah (by omega) (by omega)) (jai (Ret.of (ju7 hs.1 (c:=c) (by omega) hkc (by omega))) fun r hr=>?_)
     subst hr
     refine ja7 (fun hb'=>?_) fun hb'=>?_
     ·refine jaa (jah (by omega) (by omega)) (jaa (jah (by omega) (by omega)) (nxt [k+2,k+1,k] ?_))
      rw[hg,if_neg (by simpa using hb')]
     ·refine nxt _ ?_
      rw[hx,hg,if_pos (by simpa using hb')]
    ·refine jac (fun hge'=>?_) fun hlt'=>?_
     ·exact jaa (jah (by omega) (by omega)) (hj _ fun hkc=>by unfold gC;rw[if_neg hkc,if_pos hge'])
     ·exact hj _ fun hkc=>by unfold gC;rw[if_neg hkc,if_neg hlt']
   ·refine fin w ?_
    rw[i3,List.take_of_length_le (by omega),pe]
    rfl
end X
end Go.Vm
namespace Go.Vm
namespace X
open W Go.Proofs.St Go.Vm.X.Fd
theorem jxg {a:List Int×List Int} (h1:bytes a.1) (h2:bytes a.2):Ret (jcw jak a) fun s=>kfb s∧s.1.length≤max 1 a.1.length:=by
 unfold jcw
 refine jai (j76 (a:=(a.1,a.2)) h1 h2) fun r ⟨⟨q1,q2,q3,q4,q5⟩,q6⟩=>?_
 refine jas (Inv:=fun x:Int×(List Int×Option Nat)=>0≤x.1∧x.1≤r.2.length∧x.2.1.length=r.2.length∧∀i:Nat,i<r.2.length→1≤x.2.1.getD i 0∧x.2.1.getD i 0≤3∧((i:Int)<x.1→x.2.1.getD i 0≠3)) (m:=fun x=>((r.2.length:Int)-x.1).toNat) ?_ _ _ ⟨by simp,by simp,rfl,fun i hi=>?_⟩ (by simp only[jak];omega)
 ·rintro ⟨i,K,o⟩ rec ⟨i1,i2,i3,i4⟩ ih
  simp only at i1 i2 i3 i4 ⊢
  refine jac (fun hlt=>jaa (jat (by omega) (by omega)) (jac (fun h3=>?_) fun h3=>?_)) fun hge=>?_
  ·refine jaa (jat (by omega) (by omega)) (jaa (jah (by omega) (by omega)) (ih _ ⟨by simp only;omega,by simp only;omega,by simp only[List.length_set];exact i3,fun j hj=>?_⟩ (by simp only;omega)))
   simp only
   rw[jfg (by omega)]
   split
   ·omega
   ·have:=i4 j hj;omega
  ·refine jaa (jah (by omega) (by omega)) (ih _ ⟨by simp only;omega,by simp only;omega,i3,fun j hj=>?_⟩ (by simp only;omega))
   have:=i4 j hj
   refine⟨this.1,this.2.1,fun h=>?_⟩
   by_cases hji:(j:Int)=i
   ·rw[←hji,Int.toNat_natCast] at h3;exact h3
   ·exact this.2.2 (by simp only at h;omega)
  ·have hK:∀x∈K,1≤x∧x≤2:=je0 fun j hj=>by have:=i4 j (by omega);omega
   refine jal ⟨⟨⟨⟨⟨by simp only;omega,by simp only;omega,fun x hx=>by have:=q4 x hx;omega,fun x hx=>by have:=hK x hx;omega⟩,fun x hx=>by have:=hK x hx;omega⟩,?_⟩,q2,q4⟩,q6⟩
   have:=ji2 fun x hx=>(q4 x hx).2
   simp only;omega
 ·have:=q5 _ (jaw (L:=r.2) hi)
  exact⟨this.1,this.2,fun h=>absurd h (by simp only;omega)⟩
theorem jkb {k:Nat} (h:k≤6):(jbc k).length≤720:=by
 by_cases e:k=6
 ·subst e
  have:(jbc 6).length=(jbc 5).length* (5+1):=jds (k:=5)
  have:=jra (k:=5) (by omega)
  omega
 ·have:=jra (k:=k) (by omega);omega
theorem j3i {n:Nat} (hn:n≤6):jdy jak (n:Int)=some (jbc n):=by
 apply Ret.eq
 unfold jdy
 refine jas (Inv:=fun x:List (List Int)×Int=>0≤x.2∧x.2≤n∧x.1=jbc x.2.toNat) (m:=fun x=>((n:Int)-x.2).toNat) ?_ _ _ ⟨by simp,by simp,rfl⟩ (by simp only[jak];omega)
 rintro ⟨out,k⟩ rec ⟨i1,i2,i3⟩ ih
 simp only at i1 i2 i3 ⊢
 refine jac (fun hlt=>?_) fun hge=>jal (by rw[i3,show k.toNat=n by omega])
 have hle:=jkb (k:=k.toNat) (by omega)
 have hle1:=jkb (k:=k.toNat+1) (by omega)
 have hll:=jds (k:=k.toNat)
 have hord:∀l∈out,l.length=k.toNat:=fun l hl=>by rw[i3] at hl;exact(jfr hl).len
 have hout:out.length≤720:=by rw[i3];exact hle
 have fl:∀m:Nat,((out.take m).flatMap fun l=>(List.range (l.length+1)).map fun a=>(l.take a++[k])++l.drop a).length=(out.take m).length* (k.toNat+1):=fun m=>jlo fun l hl=>by rw[List.length_map,List.length_range,hord l (List.mem_of_mem_take hl)]
 refine jas (Inv:=fun x:List (List Int)×Int=>0≤x.2∧x.2≤out.length∧x.1=(out.take x.2.toNat).flatMap fun l=>(List.range (l.length+1)).map fun a=>(l.take a++[k])++l.drop a) (m:=fun x=>((out.length:Int)-x.2).toNat) ?_ _ _ ⟨by simp,by simp,by simp⟩ (by simp only[jak];omega)
 rintro ⟨nx,i⟩ rec2 ⟨j1,j2,j3⟩ ih2
 simp only at j1 j2 j3 ⊢
 refine jac (fun hlt2=>?_) fun hge2=>?_
 ·have hnx:nx.length≤5040:=by
   rw[j3,fl]
   have:(out.take i.toNat).length≤720:=by rw[List.length_take];omega
   have:=Nat.mul_le_mul this (show k.toNat+1≤7 by omega)
   omega
  have hin:=jat (i:=i) (n:=out.length) (by omega) (by omega)
  have hm:out.getD i.toNat []∈out:=by rw[List.getD,List.getElem?_eq_getElem (by omega)];exact List.getElem_mem _
  have et:out.take (i+1).toNat=out.take i.toNat++[out.getD i.toNat []]:=by
   rw[show(i+1).toNat=i.toNat+1 by omega,List.take_add_one,List.getD,List.getElem?_eq_getElem (by omega)];rfl
  have hlk:=hord _ hm
  generalize out.getD i.toNat []=l at hm et hlk ⊢
  refine jas (Inv:=fun x:List (List Int)×Int=>0≤x.2∧x.2≤l.length+1∧x.1=nx++(List.range x.2.toNat).map fun a=>(l.take a++[k])++l.drop a) (m:=fun x=>((l.length:Int)+1-x.2).toNat) ?_ _ _ ⟨by simp,by simp;omega,by simp⟩ (by simp only[jak];omega)
  rintro ⟨nx2,at_⟩ rec3 ⟨k1,k2,k3⟩ ih3
  simp only at k1 k2 k3 ⊢
  refine jaa hin (jac (fun hlt3=>?_) fun hge3=>?_)
  ·have hn2:nx2.length≤6000:=by rw[k3];simp;omega
   refine jaa hin (jaa (by simp[bnb];omega) (jaa hin (jaa (by simp[bnb];omega) (jaa (jbg (by simp;omega)) (jaa (jbg (by simp;omega)) (jaa (jbg (by simp;omega)) (jaa (jbg (by omega)) (jaa (jah (by omega) (by omega)) (ih3 _ ⟨by simp only;omega,by simp only;omega,?_⟩ (by simp only;omega))))))))))
   simp only
   rw[show(at_+1).toNat=at_.toNat+1 by omega,List.range_succ,List.map_append,k3,List.append_assoc]
   congr 2
   rw[List.drop_zero,List.nil_append,List.take_of_length_le (l:=l.drop at_.toNat) (by simp)]
   rfl
  ·refine jaa (jah (by omega) (by omega)) (ih2 _ ⟨by simp only;omega,by simp only;omega,?_⟩ (by simp only;omega))
   simp only
   rw[et,List.flatMap_append,k3,j3,show at_.toNat=l.length+1 by omega]
   simp
 ·refine jaa (jah (by omega) (by omega)) (ih _ ⟨by simp only;omega,by simp only;omega,?_⟩ (by simp only;omega))
  simp only
  rw[j3,List.take_of_length_le (by omega),show(k+1).toNat=k.toNat+1 by omega,jbc,i3,show((k.toNat:Nat):Int)=k by omega]
def Free (E:List Int) (n:Nat) (p o:List Int) (i:Int):Prop:=i∉o∧∀k:Int,0≤k→k<n→k∈o∨rkF p i≤rkF p k∨ovl E i.toNat k.toNat=false
structure Greedy (E:List Int) (n:Nat) (p L:List Int):Prop where
 nd:L.Nodup
 rng:In n L
 free:∀m:Nat,m<L.length→Free E n p (L.take m) (L.getD m 0)
 j68:∀m:Nat,m<L.length→∀j:Int,0≤j→j<n→Free E n p (L.take m) j→L.getD m 0≤j
theorem jjm {a:List Int×List Int} (h1:bytes a.1) (h2:bytes a.2):jcg jak a=some true:=by
 apply Ret.eq
 unfold jcg
 refine jaa (by simp[bnb];omega) ?_
 rw[List.drop_zero]
 refine jai (jxg (a:=(a.1.take (min ((a.1.length:Nat):Int) 6).toNat,a.2)) (fun x hx=>h1 x (List.mem_of_mem_take hx)) h2) fun s ⟨hs0,jbj⟩=>?_
 have hs:=hs0.1
 have hl:=hs.len
 simp only[eta,List.length_take] at jbj ⊢
 refine jai (Ret.of (jlw hs)) fun r hr=>?_
 subst hr
 refine jai (Ret.of (j3i (n:=s.1.length) (by omega))) fun r3 hr3=>?_
 subst hr3
 have hle:=jkb (k:=s.1.length) (by omega)
 have dn:(jcx s).2.2.length=0↔∃p,p∈jbc s.1.length∧j71 s p=0:=by
  show Done s↔_
  rw[j7x hs]
  exact⟨fun⟨p,a,b⟩=>⟨p,jov a,b⟩,fun⟨p,a,b⟩=>⟨p,jfr a,b⟩⟩
 have hmem:∀i,i< (jbc s.1.length).length→(jbc s.1.length).getD i []∈jbc s.1.length:=fun i hi=>by
  rw[List.getD,List.getElem?_eq_getElem hi];exact List.getElem_mem hi
 have hord:∀p,p∈jbc s.1.length→Ord s.1.length p:=fun p hp=>jfr hp
 have hget:∀p,p∈jbc s.1.length→∃i,i< (jbc s.1.length).length∧(jbc s.1.length).getD i []=p:=fun p hp=>by
  obtain⟨i,hi,e⟩:=List.getElem_of_mem hp
  exact⟨i,hi,by rw[List.getD,List.getElem?_eq_getElem hi];exact e⟩
 generalize jbc s.1.length=L at hle dn hmem hord hget ⊢
 refine jas (Inv:=fun x:Bool×Int=>0≤x.2∧x.2≤L.length∧(x.1=true→∃p,p∈L∧j71 s p=0)∧(x.1=false→∀i:Nat,(i:Int)<x.2→j71 s (L.getD i [])≠0)) (m:=fun x=>((L.length:Int)-x.2).toNat) ?_ _ _ ⟨by simp,by simp,fun h=>(by cases h),fun _ i hi=>(by simp at hi;omega)⟩ (by simp only[jak];omega)
 rintro ⟨v,i⟩ rec ⟨i1,i2,i3,i4⟩ ih
 simp only at i1 i2 i3 i4 ⊢
 refine jen (fun b=>b=(decide (i< (L.length:Int))&& !v)) (fun b hb=>?_) fun j hj=>jac (fun h=>hj _ (by rw[decide_eq_true h];rfl)) fun h=>hj _ (by rw[decide_eq_false h];rfl)
 subst hb
 refine ja7 (fun hc=>?_) fun hc=>?_
 ·rw[Bool.and_eq_true,decide_eq_true_eq] at hc
  obtain⟨hlt,hv⟩:=hc
  have hv:v=false:=by simpa using hv
  have hm:=hmem i.toNat (by omega)
  refine jaa (jat (by omega) (by omega)) (jai (Ret.of (j0k hs.1.1 (hord _ hm))) fun r hr=>?_)
  subst hr
  refine jaa (jah (by omega) (by omega)) (ih _ ⟨by simp only;omega,by simp only;omega,fun h=>?_,fun h k hk=>?_⟩ (by simp only;omega))
  ·exact⟨_,hm,by simpa using h⟩
  ·simp only at h hk
   by_cases hki:(k:Int)=i
   ·rw[show k=i.toNat by omega];simpa using h
   ·exact i4 hv k (by omega)
 ·refine jac (fun _=>?_) fun h=>absurd trivial h
  have hq:decide ((jcx s).2.2.length=0)=v:=by
   cases v with
   | true=>rw[decide_eq_true (dn.2 (i3 rfl))]
   | false=>
     rw[decide_eq_false]
     rintro hd
     obtain⟨p,hp,hp0⟩:=dn.1 hd
     obtain⟨k,hk,rfl⟩:=hget p hp
     have:¬i< (L.length:Int):=fun h=>by rw[decide_eq_true h] at hc;cases hc
     exact i4 rfl k (by omega) hp0
  simp only[hq,beq_self_eq_true,cond_true]
  exact jai (Ret.of jev) fun r hr=>jal hr
theorem ka4 {v:Int}:∀ {s:Sp},Good s→(∀x∈s.1,x=v)→Done s:=fun {s} hs hv=>by
 revert hs hv
 refine ji8 (P:=fun s=>Good s→(∀x∈s.1,x=v)→Done s) ?_ ?_ s
 ·intro s e hs hv
  have hl:=hs.len
  unfold Done
  rw[jdj e]
  by_cases hk:0<s.2.length
  ·have h0:=hv _ (jaw (L:=s.1) (i:=0) (by omega))
   have h1:=hv _ (jaw (L:=s.1) (i:=1) (by omega))
   have:lok s=true:=by rw[lok,decide_eq_true hk,decide_eq_true (by omega)];rfl
   have hm:=jlc (s:=s) (k:=0) (i:=0) (by omega) (by omega) (by simp[sok,this])
   rw[e] at hm;cases hm
  ·simp only;omega
 ·intro s x t e ih hs hv
  have hx:=jay e
  have hl:=hs.len
  have hk:=(jbx hx).1
  have h0:=hv _ (jaw (L:=s.1) (i:=0) (by omega))
  have h1:=hv _ (jaw (L:=s.1) (i:=1) (by omega))
  have hlk:lok s=true:=by rw[lok,decide_eq_true hk,decide_eq_true (by omega)];rfl
  have ex:x=(1,0):=by
   obtain⟨rest,er⟩:=jl4 (n:=s.1.length) (j:=0) (i:=0) (by omega) (by omega)
   have el:ja1 s=((((0:Nat):Int)+1,((0:Nat):Int))::rest).filter (sok s):=by
    rw[ja1,er,List.filter_append];simp[jsd,jnf,idL]
   rw[List.filter_cons,if_pos (by simp[sok,hlk])] at el
   rw[el] at e
   cases e;rfl
  have hd:=ih (jeg hs hx) fun y hy=>by
   subst ex
   exact hv y (List.mem_of_mem_drop hy)
  unfold Done at hd ⊢
  rw[jey e];exact hd
theorem jkl {a:(List Int×List Int)×Bool} (h1:bytes a.1.1) (h2:bytes a.1.2):jct jak a=some true:=by
 apply Ret.eq
 unfold jct
 refine jai (jgs (a:=(a.1.1,a.1.2)) h1 h2) fun s hs0=>?_
 obtain⟨hs,jbj,hb8⟩:=hs0
 have hl:=hs.len
 have fin:∀(s:Sp) (hs:Good s) (hq:a.2=true→Done s),Ret ((ja2 jak (s.1,s.2)).bind fun r3=>(jb7 jak (s.1,s.2)).bind fun r4=>jn (fun(x5:Bool)=>bif x5 then(some false) else(bif(!r3.1) then(bif(decide (r4.2=15)) then(bif(decide (((r4.1.length:Nat):Int)=0)) then((jao jak ()).bind fun r6=>some r6) else(some false)) else(some false)) else(bif(decide (r4.2=0)) then(bif(decide (((r4.1.length:Nat):Int)=((r4.1.length:Nat):Int))) then((jca jak ((s.1,s.2),r4.1)).bind fun r7=>bif(decide (r7=0)) then((jao jak ()).bind fun r8=>some r8) else(some false)) else(some false)) else(some false)))) (fun j5=>bif(decide (r3.2≠0)) then(j5 true) else(bif a.2 then(j5 (!r3.1)) else(j5 false)))) fun x=>x=true:=fun s hs hq=>by
  simp only[eta]
  refine jai (Ret.of (jlw hs)) fun r hr=>?_
  subst hr
  by_cases hd:Done s
  ·have hdd:decide ((jcx s).2.2.length=0)=true:=decide_eq_true hd
   refine jai (Ret.of ((jp5 hs).1 hd)) fun r4 hr=>?_
   subst hr
   simp only[hdd,Bool.not_true,cond_false]
   refine jen (fun b=>b=false) (fun b hb=>?_) fun j hj=>jac (fun h=>absurd rfl h) fun _=>ja7 (fun _=>hj _ rfl) fun _=>hj _ rfl
   subst hb
   refine ja7 (fun h=>by cases h) fun _=>jac (fun _=>jac (fun _=>?_) fun h=>absurd trivial h) fun h=>absurd trivial h
   refine jai (Ret.of (j0k hs.1.1 (jha hs hd))) fun r hr=>?_
   subst hr
   rw[jy0 hs hd]
   exact jac (fun _=>jai (Ret.of jev) fun r hr=>jal hr) fun h=>absurd rfl h
  ·have hdd:decide ((jcx s).2.2.length=0)=false:=decide_eq_false hd
   have ha:a.2=false:=by
    cases e:a.2 with
    | false=>rfl
    | true=>exact absurd (hq e) hd
   refine jai (Ret.of ((jp5 hs).2 hd)) fun r4 hr=>?_
   subst hr
   simp only[hdd,Bool.not_false,cond_true]
   refine jen (fun b=>b=false) (fun b hb=>?_) fun j hj=>jac (fun h=>absurd rfl h) fun _=>ja7 (fun h=>by rw[ha] at h;cases h) fun _=>hj _ rfl
   subst hb
   refine ja7 (fun h=>by cases h) fun _=>jac (fun _=>jac (fun _=>?_) fun h=>absurd rfl h) fun h=>absurd trivial h
   exact jai (Ret.of jev) fun r hr=>jal hr
 refine jas (Inv:=fun x:Int×(List Int×Option Nat)=>0≤x.1∧x.1≤s.1.length∧x.2.1.length=s.1.length∧(∀i:Nat,i<s.1.length→1≤x.2.1.getD i 0∧x.2.1.getD i 0≤8)∧(∀i:Nat,(i:Int)<x.1→x.2.1.getD i 0=x.2.1.getD 0 0)∧(a.2=false→x.2.1=s.1)) (m:=fun x=>((s.1.length:Int)-x.1).toNat) ?_ _ _ ⟨by simp,by simp,rfl,fun i hi=>hb8 _ (jaw hi),fun i hi=>(by simp at hi;omega),fun _=>rfl⟩ (by simp only[jak];omega)
 rintro ⟨i,L,c⟩ rec ⟨i1,i2,i3,i4,i5,i6⟩ ih
 simp only at i1 i2 i3 i4 i5 i6
 dsimp only
 have hLb:∀x∈L,1≤x∧x≤8:=je0 fun j hj=>i4 j (by omega)
 have hgood:Good (L,s.2):=by
  obtain⟨⟨⟨v1,v2,v3,v4⟩,v5⟩,v6⟩:=hs
  refine⟨⟨⟨by simp only;omega,by simp only;omega,fun x hx=>by have:=hLb x hx;omega,v4⟩,v5⟩,?_⟩
  have:=ji2 fun x hx=>(hLb x hx).2
  simp only;omega
 refine jac (fun hlt=>?_) fun hge=>?_
 ·refine ja7 (fun hat=>?_) fun hat=>fin (L,s.2) hgood fun h=>by rw[hat] at h;cases h
  refine jaa (jat (by omega) (by omega)) (jaa (jat (by omega) (by omega)) (jaa (jah (by omega) (by omega)) (ih _ ⟨by simp only;omega,by simp only;omega,by simp only[List.length_set];exact i3,fun j hj=>?_,fun j hj=>?_,fun h=>by rw[hat] at h;cases h⟩ (by simp only;omega))))
  ·simp only
   rw[jfg (by omega)]
   split
   ·exact i4 0 (by omega)
   ·exact i4 j hj
  ·simp only at hj ⊢
   rw[jfg (by omega),jfg (by omega)]
   by_cases h0:0=i.toNat
   ·rw[if_pos h0,if_pos (by omega)]
   ·rw[if_neg h0]
    split
    ·rfl
    ·exact i5 j (by omega)
 ·exact fin (L,s.2) hgood fun h=>ka4 (v:=L.getD 0 0) hgood (je0 fun j hj=>i5 j (by simp only at hj;omega))
theorem j87 (z:Int):0≤IntKind.u8.wrap z∧IntKind.u8.wrap z≤255:=by
 simp[IntKind.wrap,IntKind.bits,IntKind.signed];omega
theorem jjl:jeb jak ()=some true:=by
 apply Ret.eq
 unfold jeb
 refine jas (Inv:=fun x:Int×Int=>0≤x.2∧x.2≤60∧0≤x.1∧x.1≤100003) (m:=fun x=>(60-x.2).toNat) ?_ _ _ ⟨by simp,by simp,by simp,by simp⟩ (by simp[jak])
 rintro ⟨z,i⟩ rec ⟨i1,i2,i3,i4⟩ ih
 simp only at i1 i2 i3 i4 ⊢
 refine jac (fun hlt=>?_) fun hge=>by rw[jev];exact jal rfl
 refine jas (Inv:=fun x:Int×(List Int×(Int×(List Int×List Int)))=>0≤x.1∧x.1≤100003∧bytes x.2.1∧0≤x.2.2.1∧x.2.2.1≤7∧bytes x.2.2.2.1∧bytes x.2.2.2.2∧(x.2.1.length:Int)=x.2.2.1∧(x.2.2.2.1.length:Int)=x.2.2.1∧(x.2.2.2.2.length:Int)=x.2.2.1) (m:=fun x=>(7-x.2.2.1).toNat) ?_ _ _ ⟨i3,i4,(fun x hx=>by simp at hx),by simp,by simp,(fun x hx=>by simp at hx),(fun x hx=>by simp at hx),rfl,rfl,rfl⟩ (by simp[jak])
 rintro ⟨w,y,k,a,b⟩ rec2 ⟨j1,j2,j3,j4,j5,j6,j7,j8,j9,j10⟩ ih2
 simp only at j1 j2 j3 j4 j5 j6 j7 j8 j9 j10 ⊢
 have wr:∀v:Int, -9223372036854775808≤v→v≤9223372036854775807→IntKind.i64.wrap v=v:=fun v h1 h2=>j4e (jah h1 h2)
 refine jaa (by simp;omega) (jaa (jah (by omega) (by omega)) (jac (fun hlt2=>?_) fun hge2=>?_))
 ·have sn:∀(L:List Int) (v:Int),bytes L→bytes (L++[IntKind.u8.wrap v]):=fun L v h x hx=>by
   rcases List.mem_append.1 hx with g | g
   ·exact h x g
   ·simp at g;subst g;exact j87 v
  refine jaa (by simp;omega) (jaa (jbg (by omega)) (jaa (by rw[wr _ (by omega) (by omega)];simp;omega) (jaa (by simp;omega) (jaa (jbg (by omega)) (jaa (by rw[wr _ (by omega) (by omega)];simp;omega) (jaa (jbg (by omega)) ?_))))))
  refine jaa (jah (by omega) (by omega)) (jaa (jah (by omega) (by omega)) (jaa (jah (by omega) (by omega)) (jaa (jah (by omega) (by omega)) (jaa (by simp;omega) (jaa (jah (by omega) (by omega)) (ih2 _ ⟨by simp only;omega,by simp only;omega,sn _ _ j3,by simp only;omega,by simp only;omega,sn _ _ j6,sn _ _ j7,by simp;omega,by simp;omega,by simp;omega⟩ (by simp only;omega)))))))
 ·rw[jjk (a:=((a,b),(3,i))) j6 j7,Option.bind_some]
  simp only[Bool.not_true,cond_false]
  rw[jkm (a:=(a,b)) j6 j7,Option.bind_some]
  simp only[Bool.not_true,cond_false]
  rw[jli (a:=((a,b),y)) j6 j7 j3,Option.bind_some]
  simp only[Bool.not_true,cond_false]
  refine jaa (by simp;omega) ?_
  rw[jkl (a:=((a,b),decide (i%5=0))) j6 j7,Option.bind_some]
  simp only[Bool.not_true,cond_false]
  rw[jkn (a:=(a,b)) j6 j7,Option.bind_some]
  simp only[Bool.not_true,cond_false]
  have nxt:Ret (chk (jap (i+1)) (rec (w,i+1))) fun x=>x=true:=jaa (jah (by omega) (by omega)) (ih _ ⟨by simp only;omega,by simp only;omega,j1,j2⟩ (by simp only;omega))
  refine jac (fun _=>?_) fun _=>nxt
  rw[jjm (a:=(a,b)) j6 j7,Option.bind_some]
  simp only[Bool.not_true,cond_false]
  exact nxt
end X
end Go.Vm
