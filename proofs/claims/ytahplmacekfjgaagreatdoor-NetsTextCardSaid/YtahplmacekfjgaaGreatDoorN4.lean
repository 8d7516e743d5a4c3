/-
  Nets: Check tells why a net is not valid.
  Nets: Parse; the law NetsText.
-/
import Derived.Test.YtahplmacekfjgaaGreatDoorN1
set_option linter.unusedSimpArgs false
set_option linter.unusedVariables false
set_option linter.unusedSectionVars false
set_option linter.unnecessarySimpa false
namespace Go.Vm
namespace X
open W
variable {nn:Nat}
def Rch (S:List SqT) (H:List HgT) (s:SqT):Prop:=∀C:SqT→Prop,C (S.getD 0 (0,0))→(∀h∈H,(C h.1↔C (jef h)))→C s
theorem Rch.start {S:List SqT} {H:List HgT}:Rch S H (S.getD 0 (0,0)):=fun C h _=>h
theorem Rch.step {S:List SqT} {H:List HgT} {h:HgT} (hh:h∈H):Rch S H h.1↔Rch S H (jef h):=
 ⟨fun r C h0 hc=>(hc h hh).1 (r C h0 hc),fun r C h0 hc=>(hc h hh).2 (r C h0 hc)⟩
def RI (S:List SqT) (H:List HgT) (y:Int):Prop:=(0≤y∧y<S.length)∧Rch S H (S.getD y.toNat (0,0))
theorem jze {S:List SqT} {H:List HgT} (h:∀s∈S,Rch S H s):Connd S H:=fun C ⟨s,hs,hc⟩ hh u hu=>by
 by_cases h0:C (S.getD 0 (0,0))
 ·exact h u hu C h0 hh
 ·exact absurd hc (h s hs (fun x=>¬C x) h0 fun g hg=>not_congr (hh g hg))
theorem j0h {S:List SqT} {H:List HgT} (h:Ends S H) (hne:1≤S.length) (hH:H.length≤10000):Ret (jb6 (fu nn) (S,H)) fun o=>o.Nodup∧(∀x∈o,RI S H x)∧(0:Int)∈o∧∀g∈H,(idxS S g.1∈o↔idxS S (jef g)∈o):=by
 have hle:=h.le
 unfold jb6
 refine jbb (Inv:=fun x:List Int×Int=>0≤x.2∧x.2≤x.1.length∧x.1.Nodup∧(∀y∈x.1,RI S H y)∧(0:Int)∈x.1∧∀m:Nat,(m:Int)<x.2→∀g∈H,(idxS S g.1=x.1.getD m 0→idxS S (jef g)∈x.1)∧(idxS S (jef g)=x.1.getD m 0→idxS S g.1∈x.1)) (m:=fun x=>((S.length:Int)-x.2).toNat) ?_ _ _ ⟨by simp,by simp,by simp,fun y hy=>by simp at hy;subst hy;exact⟨by omega,Rch.start⟩,by simp,fun m hm=>by simp only at hm;omega⟩ (by simp only[fu];omega)
 rintro ⟨o,k⟩ rec ⟨i1,i2,i3,i4,i5,i6⟩ ih
 simp only at i1 i2 i3 i4 i5 i6 ⊢
 have cnt:∀q:List Int,q.Nodup→(∀y∈q,0≤y∧y<S.length)→q.length≤S.length:=fun q a b=>by
  have:=ji7 a (p:=j1d S.length) fun x hx=>jo0.2 (b x hx)
  simpa[j1d] using this
 have hol:=cnt o i3 fun y hy=>(i4 y hy).1
 refine jag (fun hlt=>?_) fun hge=>?_
 ·refine jbb (Inv:=fun x:List Int×Int=>0≤x.2∧x.2≤H.length∧x.1.Nodup∧(∀y∈x.1,RI S H y)∧(∃more,x.1=o++more)∧∀m:Nat,(m:Int)<x.2→(idxS S (H.getD m hZ).1=o.getD k.toNat 0→idxS S (jef (H.getD m hZ))∈x.1)∧(idxS S (jef (H.getD m hZ))=o.getD k.toNat 0→idxS S (H.getD m hZ).1∈x.1)) (m:=fun x=>((H.length:Int)-x.2).toNat) ?_ _ _ ⟨by simp,by simp,i3,i4,⟨[],by simp⟩,fun m hm=>by simp only at hm;omega⟩ (by simp only[fu];omega)
  rintro ⟨p,i⟩ rec2 ⟨j1,j2,j3,j4,⟨more,j5⟩,j6⟩ ih2
  simp only at j1 j2 j3 j4 j5 j6 ⊢
  have hpl:=cnt p j3 fun y hy=>(j4 y hy).1
  have gk:p.getD k.toNat 0=o.getD k.toNat 0:=by rw[j5,List.getD,List.getD,List.getElem?_append_left (by omega)]
  have hpo:o.length≤p.length:=by rw[j5,List.length_append];omega
  refine jag (fun hlt2=>?_) fun hge2=>?_
  ·have hg:=jgf (H:=H) (i:=i.toNat) (by omega)
   obtain⟨e1,e2⟩:=h.ends _ hg
   refine jac (jc8 (by omega) (by omega)) ?_
   rw[show jan (fu nn) ((S,H),((H.getD i.toNat hZ).1.1,(H.getD i.toNat hZ).1.2))=some (idxS S (H.getD i.toNat hZ).1) from jiv h.srt (by omega) _,Option.bind_some,
    show jar (fu nn) (((H.getD i.toNat hZ).1.1,(H.getD i.toNat hZ).1.2),((H.getD i.toNat hZ).2.1,(H.getD i.toNat hZ).2.2))=some (jef (H.getD i.toNat hZ)) from h.other hg,Option.bind_some,
    show jan (fu nn) ((S,H),((jef (H.getD i.toNat hZ)).1,(jef (H.getD i.toNat hZ)).2))=some (idxS S (jef (H.getD i.toNat hZ))) from jiv h.srt (by omega) _,Option.bind_some]
   have a1:=jia e1
   have a2:=jia e2
   have hne':idxS S (H.getD i.toNat hZ).1≠idxS S (jef (H.getD i.toNat hZ)):=fun c=>kai _ (j2g e1 e2 c).symm
   refine jac (jc8 (by omega) (by omega)) ?_
   rw[gk]
   have nxt:∀q:List Int,q.Nodup→(∀y∈q,RI S H y)→(∃more',q=p++more')→((idxS S (H.getD i.toNat hZ).1=o.getD k.toNat 0→idxS S (jef (H.getD i.toNat hZ))∈q)∧(idxS S (jef (H.getD i.toNat hZ))=o.getD k.toNat 0→idxS S (H.getD i.toNat hZ).1∈q))→Ret (chk (jaq (i+1)) (rec2 (q,i+1))) fun o=>o.Nodup∧(∀x∈o,RI S H x)∧(0:Int)∈o∧∀g∈H,(idxS S g.1∈o↔idxS S (jef g)∈o):=fun q q1 q2 ⟨more',q3⟩ q4=>by
    refine jac (ja6 (by omega) (by omega)) (ih2 _ ⟨by simp only;omega,by simp only;omega,q1,q2,⟨more++more',by simp only;rw[q3,j5,List.append_assoc]⟩,fun m hm=>?_⟩ (by simp only;omega))
    simp only at hm ⊢
    by_cases e:(m:Int)=i
    ·rw[show m=i.toNat by omega];exact q4
    ·have:=j6 m (by omega)
     exact⟨fun c=>by rw[q3];exact List.mem_append_left _ (this.1 c),fun c=>by rw[q3];exact List.mem_append_left _ (this.2 c)⟩
   have rr:Rch S H (S.getD (idxS S (H.getD i.toNat hZ).1).toNat (0,0))↔Rch S H (S.getD (idxS S (jef (H.getD i.toNat hZ))).toNat (0,0)):=by rw[a1.2.2,a2.2.2];exact Rch.step hg
   have ok:Rch S H (S.getD (o.getD k.toNat 0).toNat (0,0)):=(i4 _ (jv3 (by omega))).2
   generalize idxS S (H.getD i.toNat hZ).1=a at *
   generalize idxS S (jef (H.getD i.toNat hZ))=b at *
   have add:∀y:Int,RI S H y→(∀q:List Int,y∈q→(a=o.getD k.toNat 0→b∈q)∧(b=o.getD k.toNat 0→a∈q))→Ret ((jbe (fu nn) (p,y)).bind fun r7=>bif(!r7) then(chk (jfo (p.length+1)) (chk (jaq (i+1)) (rec2 ((p++[y]),(i+1))))) else(chk (jaq (i+1)) (rec2 (p,(i+1))))) fun o=>o.Nodup∧(∀x∈o,RI S H x)∧(0:Int)∈o∧∀g∈H,(idxS S g.1∈o↔idxS S (jef g)∈o):=fun y hy hq=>by
    rw[jqv (by omega),Option.bind_some]
    by_cases hm:y∈p
    ·rw[decide_eq_true hm]
     exact nxt p j3 j4 ⟨[],by simp⟩ (hq p hm)
    ·rw[decide_eq_false hm]
     refine jac (jh5 (by omega)) (nxt (p++[y]) ?_ (fun z hz=>?_) ⟨[y],rfl⟩ (hq _ (by simp)))
     ·rw[List.nodup_append]
      exact⟨j3,by simp,fun u hu v hv e=>hm (by simp at hv;rw[←hv,←e];exact hu)⟩
     ·rcases List.mem_append.1 hz with c | c
      ·exact j4 z c
      ·simp at c;rw[c];exact hy
   refine j21 (fun x:Int×Int=>(x=(b,a)∧b=o.getD k.toNat 0)∨(x=(a,b)∧b≠o.getD k.toNat 0)) (fun x hx=>?_) fun j hj=>?_
   ·refine jac (jc8 (by omega) (by omega)) ?_
    rcases hx with⟨rfl,hb⟩ | ⟨rfl,hb⟩
    ·refine jag (fun _=>add a ⟨by omega,rr.2 (by rw[hb];exact ok)⟩ fun q hq=>⟨fun c=>absurd (c.trans hb.symm) hne',fun _=>hq⟩) fun g=>absurd hb g
    ·refine jag (fun ha=>add b ⟨by omega,rr.1 (by rw[show a=o.getD k.toNat 0 from ha];exact ok)⟩ fun q hq=>⟨fun _=>hq,fun c=>absurd c hb⟩) fun ha=>nxt p j3 j4 ⟨[],by simp⟩ ⟨fun c=>absurd c ha,fun c=>absurd c hb⟩
   ·exact jag (fun g=>hj _ (.inl ⟨rfl,g⟩)) fun g=>hj _ (.inr ⟨rfl,g⟩)
  ·refine jac (ja6 (by omega) (by omega)) (ih _ ⟨by simp only;omega,by simp only;omega,j3,j4,by simp only;rw[j5];exact List.mem_append_left _ i5,fun m hm g hg=>?_⟩ (by simp only;omega))
   simp only at hm ⊢
   by_cases e:(m:Int)=k
   ·obtain⟨q,hq,rfl⟩:=List.mem_iff_getElem.1 hg
    have:=j6 q (by omega)
    rw[List.getD,List.getElem?_eq_getElem hq,Option.getD_some] at this
    rw[show m=k.toNat by omega,gk]
    exact this
   ·have:=i6 m (by omega) g hg
    have gm:p.getD m 0=o.getD m 0:=by rw[j5,List.getD,List.getD,List.getElem?_append_left (by omega)]
    rw[gm]
    exact⟨fun c=>by rw[j5];exact List.mem_append_left _ (this.1 c),fun c=>by rw[j5];exact List.mem_append_left _ (this.2 c)⟩
 ·refine ja4 ⟨i3,i4,i5,fun g hg=>?_⟩
  have at_:∀y∈o,∃m:Nat,(m:Int)<k∧o.getD m 0=y:=fun y hy=>by
   obtain⟨m,hm,e⟩:=List.mem_iff_getElem.1 hy
   exact⟨m,by omega,by rw[List.getD,List.getElem?_eq_getElem hm];exact e⟩
  constructor
  ·intro c
   obtain⟨m,hm,e⟩:=at_ _ c
   exact(i6 m hm g hg).1 e.symm
  ·intro c
   obtain⟨m,hm,e⟩:=at_ _ c
   exact(i6 m hm g hg).2 e.symm
structure Good (S:List SqT) (H:List HgT):Prop where
 srt:Sorted S
 bd:∀s∈S,(-64≤s.1∧s.1≤64)∧(-64≤s.2∧s.2≤64)
 ge:1≤S.length
 hs:H.Pairwise ltH
 bend:∀h∈H, -1≤h.2.2∧h.2.2≤1
def j29 (S:List SqT) (H:List HgT):Prop:=∀h∈H,h.1∈S∧jef h∈S
def ChkR (S:List SqT) (H:List HgT) (r:Int):Prop:=
 (64<S.length∧r=3)∨(S.length≤64∧((¬Good S H∧r=1)∨(Good S H∧((¬j29 S H∧r=7)∨(j29 S H∧((¬Connd S H∧r=14)∨(Connd S H∧r=0)))))))
theorem ChkR.net {S:List SqT} {H:List HgT} (h:ChkR S H 0):NetOK S H:=by
 rcases h with⟨_,e⟩ | ⟨a,⟨_,e⟩ | ⟨b,⟨_,e⟩ | ⟨c,⟨_,e⟩ | ⟨d,_⟩⟩⟩⟩
 ·cases e
 ·cases e
 ·cases e
 ·cases e
 ·exact⟨a,b.ge,b.srt,b.bd,b.hs,b.bend,c,d⟩
theorem jpn {α:Type} {R:α→α→Prop} (ht:∀a b c,R a b→R b c→R a c) (d:α):∀ {L:List α},(∀k:Nat,0<k→k<L.length→R (L.getD (k-1) d) (L.getD k d))→L.Pairwise R
 | [],_=>List.Pairwise.nil
 | [x],_=>List.pairwise_singleton _ _
 | x::y::L,h=>by
   have ih:=jpn ht d (L:=y::L) fun k h1 h2=>by
    have:=h (k+1) (by omega) (by simp at h2 ⊢;omega)
    obtain⟨k,rfl⟩:∃j,k=j+1:=⟨k-1,by omega⟩
    exact this
   have h01:R x y:=h 1 (by omega) (by simp)
   refine List.pairwise_cons.2 ⟨fun a ha=>?_,ih⟩
   rcases List.mem_cons.1 ha with rfl | ha
   ·exact h01
   ·exact ht _ _ _ h01 ((List.pairwise_cons.1 ih).1 a ha)
theorem juf {α:Type} {R:α→α→Prop} (d:α) {L:List α} (h:L.Pairwise R) {k:Nat} (h1:0<k) (h2:k<L.length):R (L.getD (k-1) d) (L.getD k d):=by
 rw[List.getD,List.getElem?_eq_getElem (by omega),List.getD,List.getElem?_eq_getElem h2]
 exact List.pairwise_iff_getElem.1 h _ _ (by omega) h2 (by omega)
theorem j6p {a b c:HgT} (h:ltH a b) (k:ltH b c):ltH a c:=by
 unfold ltH at *
 rcases h with h | ⟨h,h'⟩<;>rcases k with k | ⟨k,k'⟩
 ·exact .inl (jh4 h k)
 ·rw[←k];exact .inl h
 ·rw[h];exact .inl k
 ·exact .inr ⟨h.trans k,by omega⟩
theorem jvt {α:Type} (d:α) {L:List α} {P:α→Prop} (h:∀k:Nat,k<L.length→P (L.getD k d)):∀x∈L,P x:=fun x hx=>by
 obtain⟨k,hk,rfl⟩:=List.mem_iff_getElem.1 hx
 have:=h k hk
 rw[List.getD,List.getElem?_eq_getElem hk] at this
 exact this
theorem j4q {S:List SqT} {H:List HgT} (hS:S.length≤70) (hH:H.length≤1000):Ret (jce (fu nn) (S,H)) (ChkR S H):=by
 unfold jce
 simp only
 refine jag (fun g=>ja4 (.inl ⟨by omega,rfl⟩)) fun h64=>?_
 have bad:¬Good S H→Ret (some (1:Int)) (ChkR S H):=fun h=>ja4 (.inr ⟨by omega,.inl ⟨h,rfl⟩⟩)
 refine jbb (Inv:=fun x:Int=>0≤x∧x≤S.length∧∀k:Nat,(k:Int)<x→((-64≤(S.getD k (0,0)).1∧(S.getD k (0,0)).1≤64)∧(-64≤(S.getD k (0,0)).2∧(S.getD k (0,0)).2≤64))∧(0<k→ltS (S.getD (k-1) (0,0)) (S.getD k (0,0)))) (m:=fun x=>((S.length:Int)-x).toNat) ?_ _ _ ⟨by simp,by simp,fun k hk=>by omega⟩ (by simp only[fu];omega)
 rintro i rec ⟨i1,i2,i3⟩ ih
 refine jag (fun hlt=>?_) fun hge'=>?_
 ·have hm:=jdx (L:=S) (i:=i.toNat) (by omega)
  refine jac (jc8 (by omega) (by omega)) (jag (fun g=>bad fun c=>by have:=c.bd _ hm;omega) fun g1=>jag (fun g=>bad fun c=>by have:=c.bd _ hm;omega) fun g2=>jag (fun g=>bad fun c=>by have:=c.bd _ hm;omega) fun g3=>jag (fun g=>bad fun c=>by have:=c.bd _ hm;omega) fun g4=>?_)
  have nxt:(0<i.toNat→ltS (S.getD (i.toNat-1) (0,0)) (S.getD i.toNat (0,0)))→Ret (chk (jaq (i+1)) (rec (i+1))) (ChkR S H):=fun hl=>jac (ja6 (by omega) (by omega)) (ih _ ⟨by omega,by omega,fun k hk=>by
   by_cases e:(k:Int)=i
   ·rw[show k=i.toNat by omega];exact⟨by omega,hl⟩
   ·exact i3 k (by omega)⟩ (by omega))
  refine jag (fun g=>?_) fun g=>nxt fun c=>by omega
  refine jac (ja6 (by omega) (by omega)) (jac (jc8 (by omega) (by omega)) ?_)
  rw[show jam (fu nn) (((S.getD (i-1).toNat (0,0)).1,(S.getD (i-1).toNat (0,0)).2),((S.getD i.toNat (0,0)).1,(S.getD i.toNat (0,0)).2))=some (j37 (S.getD (i-1).toNat (0,0)) (S.getD i.toNat (0,0))) from jjz _ _,Option.bind_some,show(i-1).toNat=i.toNat-1 by omega]
  refine jag (fun g5=>bad fun c=>?_) fun g5=>nxt fun _=>jnw.1 (by omega)
  have:=jnw.2 (juf (0,0) c.srt (k:=i.toNat) (by omega) (by omega))
  omega
 have gS:(∀s∈S,(-64≤s.1∧s.1≤64)∧(-64≤s.2∧s.2≤64))∧Sorted S:=⟨jvt (0,0) fun k hk=>(i3 k (by omega)).1,jpn (R:=ltS) (fun _ _ _=>jh4) (0,0) fun k h1 h2=>(i3 k (by omega)).2 h1⟩
 clear i1 i2 i3 hge' ih
 refine jbb (Inv:=fun x:Int=>0≤x∧x≤H.length∧∀k:Nat,(k:Int)<x→(-1≤(H.getD k hZ).2.2∧(H.getD k hZ).2.2≤1)∧(0<k→ltH (H.getD (k-1) hZ) (H.getD k hZ))) (m:=fun x=>((H.length:Int)-x).toNat) ?_ _ _ ⟨by simp,by simp,fun k hk=>by omega⟩ (by simp only[fu];omega)
 rintro i rec ⟨i1,i2,i3⟩ ih
 refine jag (fun hlt=>?_) fun hge'=>?_
 ·have hm:=jgf (H:=H) (i:=i.toNat) (by omega)
  change Ret (chk _ (bif decide ((H.getD i.toNat hZ).2.2 < -1) then _ else bif decide ((1:Int)< (H.getD i.toNat hZ).2.2) then _ else _)) _
  refine jac (jc8 (by omega) (by omega)) (jag (fun g=>bad fun c=>by have:=c.bend _ hm;omega) fun g1=>jag (fun g=>bad fun c=>by have:=c.bend _ hm;omega) fun g2=>?_)
  have nxt:(0<i.toNat→ltH (H.getD (i.toNat-1) hZ) (H.getD i.toNat hZ))→Ret (chk (jaq (i+1)) (rec (i+1))) (ChkR S H):=fun hl=>jac (ja6 (by omega) (by omega)) (ih _ ⟨by omega,by omega,fun k hk=>by
   by_cases e:(k:Int)=i
   ·rw[show k=i.toNat by omega];exact⟨by omega,hl⟩
   ·exact i3 k (by omega)⟩ (by omega))
  refine jag (fun g=>?_) fun g=>nxt fun c=>by omega
  refine jac (ja6 (by omega) (by omega)) (jac (jc8 (by omega) (by omega)) ?_)
  obtain⟨r,hr,hr2⟩:=jxj (nn:=nn) (H.getD (i-1).toNat hZ) (H.getD i.toNat hZ)
  rw[show jby (fu nn) ((((H.getD (i-1).toNat hZ).1.1,(H.getD (i-1).toNat hZ).1.2),((H.getD (i-1).toNat hZ).2.1,(H.getD (i-1).toNat hZ).2.2)),(((H.getD i.toNat hZ).1.1,(H.getD i.toNat hZ).1.2),((H.getD i.toNat hZ).2.1,(H.getD i.toNat hZ).2.2)))=some r from hr,Option.bind_some]
  rw[show(i-1).toNat=i.toNat-1 by omega] at hr2
  refine jag (fun g5=>bad fun c=>absurd (juf hZ c.hs (k:=i.toNat) (by omega) (by omega)) (hr2.1 g5)) fun g5=>nxt fun _=>Classical.byContradiction fun c=>g5 (hr2.2 c)
 have gH:(∀h∈H, -1≤h.2.2∧h.2.2≤1)∧H.Pairwise ltH:=⟨jvt hZ fun k hk=>(i3 k (by omega)).1,jpn (R:=ltH) (fun _ _ _=>j6p) hZ fun k h1 h2=>(i3 k (by omega)).2 h1⟩
 clear i1 i2 i3 hge' ih
 refine jag (fun g=>bad fun c=>by have:=c.ge;omega) fun hne=>?_
 have good:Good S H:=⟨gS.2,gS.1,by omega,gH.2,gH.1⟩
 refine jbb (Inv:=fun x:Int=>0≤x∧x≤H.length∧∀k:Nat,(k:Int)<x→(H.getD k hZ).1∈S∧jef (H.getD k hZ)∈S) (m:=fun x=>((H.length:Int)-x).toNat) ?_ _ _ ⟨by simp,by simp,fun k hk=>by omega⟩ (by simp only[fu];omega)
 rintro i rec ⟨i1,i2,i3⟩ ih
 have b7:¬j29 S H→Ret (some (7:Int)) (ChkR S H):=fun h=>ja4 (.inr ⟨by omega,.inr ⟨good,.inl ⟨h,rfl⟩⟩⟩)
 refine jag (fun hlt=>?_) fun hge'=>?_
 ·have hm:=jgf (H:=H) (i:=i.toNat) (by omega)
  refine jac (jc8 (by omega) (by omega)) ?_
  rw[show jan (fu nn) ((S,H),((H.getD i.toNat hZ).1.1,(H.getD i.toNat hZ).1.2))=some (idxS S (H.getD i.toNat hZ).1) from jiv good.srt (by omega) _,Option.bind_some]
  refine jag (fun g=>b7 fun c=>jrf.1 g (c _ hm).1) fun g=>?_
  have hin:(H.getD i.toNat hZ).1∈S:=Classical.byContradiction fun c=>g (jrf.2 c)
  have hb:=good.bd _ hin
  rw[show jar (fu nn) (((H.getD i.toNat hZ).1.1,(H.getD i.toNat hZ).1.2),((H.getD i.toNat hZ).2.1,(H.getD i.toNat hZ).2.2))=some (jef (H.getD i.toNat hZ)) from j1x (h:=H.getD i.toNat hZ) (by omega),Option.bind_some,
   show jan (fu nn) ((S,H),((jef (H.getD i.toNat hZ)).1,(jef (H.getD i.toNat hZ)).2))=some (idxS S (jef (H.getD i.toNat hZ))) from jiv good.srt (by omega) _,Option.bind_some]
  refine jag (fun g=>b7 fun c=>jrf.1 g (c _ hm).2) fun g2=>jac (ja6 (by omega) (by omega)) (ih _ ⟨by omega,by omega,fun k hk=>?_⟩ (by omega))
  by_cases e:(k:Int)=i
  ·rw[show k=i.toNat by omega];exact⟨hin,Classical.byContradiction fun c=>g2 (jrf.2 c)⟩
  ·exact i3 k (by omega)
 have hE:j29 S H:=jvt hZ fun k hk=>i3 k (by omega)
 have ends:Ends S H:=⟨good.srt,by omega,good.bd,hE⟩
 refine jpe (j0h ends good.ge (by omega)) fun o ⟨o1,o2,o3,o4⟩=>?_
 have fin:(¬Connd S H∧(o.length:Int)<S.length)∨(Connd S H∧¬(o.length:Int)<S.length):=by
  by_cases hl:o.length<S.length
  ·refine .inl ⟨fun hc=>?_,by omega⟩
   have all:∀s∈S,idxS S s∈o:=hc (fun s=>idxS S s∈o) ⟨_,jdx (L:=S) (i:=0) (by omega),by
    rw[js0 good.srt.nodup (by omega)];exact o3⟩ o4
   have:=ji7 (l:=j1d S.length) (p:=o) (by
    unfold j1d
    exact List.nodup_range.map (f:=Int.ofNat) (fun a b h h2=>h (Int.ofNat.inj h2))) fun x hx=>by
     have hx:=jo0.1 hx
     have:=all _ (jdx (L:=S) (i:=x.toNat) (by omega))
     rw[js0 good.srt.nodup (by omega)] at this
     rwa[show((x.toNat:Nat):Int)=x by omega] at this
   have h2:S.length≤o.length:=by simpa[j1d] using this
   omega
  ·refine .inr ⟨jze fun s hs=>?_,by omega⟩
   have hi:=jia hs
   have hin:idxS S s∈o:=Classical.byContradiction fun c=>by
    have:=ji7 (l:=idxS S s::o) (p:=j1d S.length) (List.nodup_cons.2 ⟨c,o1⟩) fun x hx=>jo0.2 (by
     rcases List.mem_cons.1 hx with rfl | hx
     ·omega
     ·exact(o2 x hx).1)
    simp[j1d] at this
    omega
   have:=(o2 _ hin).2
   rw[hi.2.2] at this
   exact this
 rcases fin with⟨f1,f2⟩ | ⟨f1,f2⟩
 ·exact jag (fun _=>ja4 (.inr ⟨by omega,.inr ⟨good,.inr ⟨hE,.inl ⟨f1,rfl⟩⟩⟩⟩)) fun g=>absurd f2 g
 ·exact jag (fun g=>absurd g f2) fun _=>ja4 (.inr ⟨by omega,.inr ⟨good,.inr ⟨hE,.inr ⟨f1,rfl⟩⟩⟩⟩)
theorem khy {a:List (List Int)} {c b:Int} (hb:jyw a) (hn:a.length≤nn) (hbig:a.length≤140737488355328) (hc:0≤c∧c≤18446744073709551615) (hbb:0≤b∧b≤18446744073709551615):
  ∃n,jhk (fu nn) (a,(c,b))=some n∧NetOK n.1 n.2∧n.1.length≤20∧n.2.length≤100:=by
 obtain⟨n,en,hnet,htree,h20,_⟩:=kdk (c:=c) (b:=b) hb hn hbig
 obtain⟨q,eq,hq,hsub,hql⟩:=kjh en hnet htree h20 hc hbb
 exact⟨(n.1,q),eq,hq,h20,hql⟩
structure ArgN (nn:Nat) (x:List (List Int)×(Int×Int)):Prop where
 b3:jyw x.1
 fu:x.1.length≤nn
 big:x.1.length≤140737488355328
 c:0≤x.2.1∧x.2.1≤18446744073709551615
 b:0≤x.2.2∧x.2.2≤18446744073709551615
end X
end Go.Vm
namespace Go.Vm
namespace X
open W
variable {nn:Nat}
theorem kbf {S:List SqT} {H:List HgT} (hS:S.length≤70) (hH:H.length≤1000):∃t,jdd (fu nn) (S,H)=some t∧(t≠[]→NetOK S H):=by
 obtain⟨r,ec,hr⟩:=j4q (nn:=nn) hS hH
 by_cases h0:r=0
 ·subst h0
  have hn:=hr.net
  exact⟨_,j72 hn hH,fun _=>hn⟩
 ·refine⟨[],?_,fun c=>absurd rfl c⟩
  unfold jdd j3f
  rw[ec,Option.bind_some,decide_eq_false h0,cond_false]
def jq1 (w:List Nat):List Nat:=if w.getLast?=some 10 then w.dropLast else w
theorem kbd {w:List Nat} (h:w.length≤1000000):jcl (fu nn) (w,[10])=some (jq1 w):=by
 rcases List.eq_nil_or_concat w with rfl | ⟨v,c,rfl⟩
 ·rfl
 ·unfold jcl jba jq1
  simp only[List.concat_eq_append,List.length_append,List.length_cons,List.length_nil,List.getLast?_append,List.getLast?_singleton,List.dropLast_concat] at h ⊢
  have e:(((v.length+1:Nat):Int)-((0+1:Nat):Int))=v.length:=by omega
  rw[decide_eq_true (by omega),cond_true,e,jtu (ja6 (by omega) (by omega)),jtu (jgs.2 ⟨by omega,by omega,by omega⟩),Option.bind_some,Int.toNat_natCast,List.drop_left,show v.length+1-v.length=1 by omega]
  by_cases hc:c=10
  ·subst hc
   simp only[List.take_succ_cons,List.take_zero,decide_true,cond_true,Option.some_or,if_true]
   rw[jtu (ja6 (by omega) (by omega)),jtu (jgs.2 ⟨by omega,by omega,by omega⟩),List.drop_zero,List.take_left]
  ·have:decide (List.take 1 [c]=[10])=false:=decide_eq_false (by simpa using hc)
   rw[this,cond_false]
   simp[hc]
def atV (w:List Nat):Int:=match Lib.atoiAll (u8 w) with
 | .ok v=>v
 | Lib.NumEnd.syntax=>0
 | .range=>Lib.atoiSat (u8 w)
theorem jwm {w:List Nat} (h:w.length≤1000000):∃b,jex (fu nn) w=some (atV w,b):=by
 unfold jex kdc atV
 rw[jab,decide_eq_true h,cond_true]
 cases Lib.atoiAll (u8 w)<;>exact⟨_,rfl⟩
def jko (st:List SqT×List HgT) (w:List (List Nat)):List SqT×List HgT:=
 if w.length<3 then st else if 64<st.1.length then st else if 128<st.2.length then st else
 if w.length=3 then(st.1++[(atV (w.getD 1 []),atV (w.getD 2 []))],st.2)
 else(st.1,st.2++[((atV (w.getD 1 []),atV (w.getD 2 [])),(decide (w.getD 3 []=[117,112]),IntKind.i8.wrap (max (-2) (min (atV (w.getD (w.length-1) [])) 2))))])
def jgc (st:List SqT×List HgT) (l:List Nat):List SqT×List HgT:=jko st (jed (jq1 l) [32])
def je9 (s:List Nat):List SqT×List HgT:=(jca s [10]).foldl jgc ([],[])
theorem jr9 {st:List SqT×List HgT} {w:List (List Nat)} (h:st.1.length≤65∧st.2.length≤129):(jko st w).1.length≤65∧(jko st w).2.length≤129:=by
 unfold jko
 repeat' split
 all_goals first | exact h | (simp only[List.length_append,List.length_cons,List.length_nil];omega)
theorem jt2 (s:List Nat):jca s [10]=(jzg 10 (u8 s)).map fun w=>w.map UInt8.toNat:=by
 unfold jca jvc
 rw[show u8 [10]=[10] from rfl,show([10]:List UInt8).length=1 from rfl,jt5]
theorem j3d (s:List Nat):(jca s [10]).length≤s.length+1∧∀w∈jca s [10],w.length≤s.length:=by
 obtain⟨h1,h2⟩:=j1m (c:=10) (u8 s)
 rw[jt2]
 refine⟨by simpa[u8] using h1,fun w hw=>?_⟩
 obtain⟨w',hw',rfl⟩:=List.mem_map.1 hw
 simpa[u8] using h2 w' hw'
theorem j44 (w:List Nat):(jq1 w).length≤w.length:=by
 unfold jq1
 split
 ·rw[List.length_dropLast];omega
 ·exact Nat.le_refl _
theorem jyb {L:List (List Nat)} {i:Nat} (h:i<L.length):L.getD i []∈L:=by rw[List.getD,List.getElem?_eq_getElem h];exact List.getElem_mem _
set_option maxHeartbeats 1000000 in
theorem ju3 {s:List Nat} (hl:s.length≤100000):∃t,jdd (fu nn) (je9 s)=some t∧(t≠[]→NetOK (je9 s).1 (je9 s).2)∧jhh (fu nn) s=some (if s=[]∨t≠s then(([],[]),4) else(je9 s,0)):=by
 obtain⟨wl,ww⟩:=j3d s
 have key:(je9 s).1.length≤65∧(je9 s).2.length≤129:=by
  unfold je9
  have:∀(L:List (List Nat)) (st:List SqT×List HgT),st.1.length≤65∧st.2.length≤129→(L.foldl jgc st).1.length≤65∧(L.foldl jgc st).2.length≤129:=fun L=>by
   induction L with
   | nil=>exact fun st h=>h
   | cons l L ih=>exact fun st h=>ih _ (jr9 h)
  exact this _ _ (by simp)
 obtain⟨t,et,ht⟩:=kbf (nn:=nn) (S:=(je9 s).1) (H:=(je9 s).2) (by omega) (by omega)
 refine⟨t,et,ht,?_⟩
 apply Ret.eq
 unfold jhh je7 jzr
 have e0:(s.length.ble 1000000&& !(List.length [10]).beq 0)=true:=by rw[jab,decide_eq_true (by omega)];rfl
 simp only
 rw[e0,cond_true,Option.bind_some]
 unfold je9 at et ht key ⊢
 generalize jca s [10]=L at *
 refine jbb (Inv:=fun x:Int×(List SqT×List HgT)=>0≤x.1∧x.1≤L.length∧x.2.1.length≤65∧x.2.2.length≤129∧(L.drop x.1.toNat).foldl jgc x.2=L.foldl jgc ([],[])) (m:=fun x=>((L.length:Int)-x.1).toNat) ?_ _ _ ⟨by simp,by simp,by simp,by simp,by simp⟩ (by simp only[fu];omega)
 rintro ⟨i,S,H⟩ rec ⟨i1,i2,i3,i4,i5⟩ ih
 simp only at i1 i2 i3 i4 i5 ⊢
 refine jag (fun hlt=>?_) fun hge=>?_
 ·have hm:=jyb (L:=L) (i:=i.toNat) (by omega)
  have jbh:=ww _ hm
  have hd:L.drop i.toNat=L.getD i.toNat []::L.drop (i.toNat+1):=by
   rw[List.drop_eq_getElem_cons (by omega),List.getD,List.getElem?_eq_getElem (by omega)]
   rfl
  have nxt:∀st:List SqT×List HgT,jko (S,H) (jed (jq1 (L.getD i.toNat [])) [32])=st→Ret (chk (jaq (i+1)) (rec (i+1,st))) fun x=>x=if s=[]∨t≠s then(([],[]),4) else(L.foldl jgc ([],[]),0):=fun st e=>by
   have hb:=jr9 (st:=(S,H)) (w:=jed (jq1 (L.getD i.toNat [])) [32]) ⟨i3,i4⟩
   rw[e] at hb
   refine jac (ja6 (by omega) (by omega)) (ih _ ⟨by simp only;omega,by simp only;omega,hb.1,hb.2,?_⟩ (by simp only;omega))
   simp only
   rw[←i5,hd,List.foldl_cons,show(i+1).toNat=i.toNat+1 by omega]
   unfold jgc at *
   rw[e]
  generalize L.getD i.toNat []=w at *
  refine jac (jc8 (by omega) (by omega)) ?_
  rw[kbd (by omega),Option.bind_some]
  have htl:=j44 w
  obtain⟨v1,v2⟩:=j4w (jq1 w)
  unfold strings_Split j5j
  have e1:((jq1 w).length.ble 1000000&& !(List.length [32]).beq 0)=true:=by rw[jab,decide_eq_true (by omega)];rfl
  simp only
  rw[e1,cond_true,Option.bind_some]
  generalize jed (jq1 w) [32]=p at *
  have wl:∀j:Nat,j<p.length→(p.getD j []).length≤1000000:=fun j hj=>by have:=v2 _ (jyb hj);omega
  refine jag (fun g=>nxt _ ?_) fun g1=>jag (fun g=>nxt _ ?_) fun g2=>jag (fun g=>nxt _ ?_) fun g3=>?_
  ·unfold jko;rw[if_pos (by omega)]
  ·unfold jko;rw[if_neg (by omega),if_pos (by simp only;omega)]
  ·unfold jko;rw[if_neg (by omega),if_neg (by simp only;omega),if_pos (by simp only;omega)]
  obtain⟨b1,a1⟩:=jwm (nn:=nn) (wl 1 (by omega))
  obtain⟨b2,a2⟩:=jwm (nn:=nn) (wl 2 (by omega))
  refine jac (jc8 (by omega) (by omega)) ?_
  rw[a1,Option.bind_some]
  refine jac (jc8 (by omega) (by omega)) ?_
  rw[a2,Option.bind_some]
  refine jag (fun g4=>jac (jh5 (by omega)) (nxt _ ?_)) fun g4=>?_
  ·unfold jko;rw[if_neg (by omega),if_neg (by simp only;omega),if_neg (by simp only;omega),if_pos (by omega)]
  ·have et:(((p.length:Nat):Int)-1).toNat=p.length-1:=by omega
   obtain⟨b3,a3⟩:=jwm (nn:=nn) (wl (p.length-1) (by omega))
   refine jac (ja6 (by omega) (by omega)) (jac (jc8 (by omega) (by omega)) ?_)
   rw[et,a3,Option.bind_some]
   refine jac (jc8 (by omega) (by omega)) (jac (jh5 (by omega)) (nxt _ ?_))
   unfold jko;rw[if_neg (by omega),if_neg (by simp only;omega),if_neg (by simp only;omega),if_neg (by omega)]
 ·rw[List.drop_eq_nil_of_le (by omega),List.foldl_nil] at i5
  refine jag (fun g=>ja4 ?_) fun g=>?_
  ·rw[if_pos (.inl g)]
  rw[show jdd (fu nn) (S,H)=some t by rw[i5];exact et,Option.bind_some]
  refine jag (fun g2=>ja4 ?_) fun g2=>?_
  ·rw[if_pos (.inr g2)]
  refine jac ?_ (jac ?_ (jac ?_ (ja4 ?_)))
  ·simp[jgs]
  ·simp[jgs]
  ·simp[jn0]
  ·rw[if_neg (by rintro (c | c);exact g c;exact g2 c),←i5,List.take_of_length_le (Nat.le_refl _),List.take_of_length_le (Nat.le_refl _)]
theorem kdd:((List.range 129).all fun k=>ieq (atV (itN nn ((k:Int)-64))) ((k:Int)-64))=true:=by kernel_rfl
theorem jyz {n:Int} (h:D64 n):atV (itN nn n)=n:=by
 have:=List.all_eq_true.1 (kdd (nn:=nn)) (n+64).toNat (List.mem_range.2 (by unfold D64 at h;omega))
 rw[show(((n+64).toNat:Nat):Int)-64=n by unfold D64 at h;omega,jlv,decide_eq_true_eq] at this
 exact this
theorem ji9 {n:Int} (h:D64 n):((itB (jah (fu nn)) n).data.toList).map UInt8.toNat=itN nn n:=by
 rw[j2a h,jzk fun x hx=>((jg1 (nn:=nn) h.1 h.2).2.2.2.1 x hx).1]
theorem jw6 (v:List UInt8):jq1 ((v++[10]).map UInt8.toNat)=v.map UInt8.toNat:=by
 unfold jq1
 rw[List.map_append]
 simp
theorem jt1 {w:List UInt8} {ws:List (List UInt8)} (h:∀x∈w::ws,∀y∈x,y≠32∧y≠10):jed ((Lib.join (w::ws) [32]).map UInt8.toNat) [32]=(w::ws).map fun x=>x.map UInt8.toNat:=by
 unfold jed
 rw[j7r,show u8 [32]=[32] from rfl,jrw,j5m h]
abbrev nL (it:Int→ByteArray) (s:SqT):List Nat:=(tlS it s).map UInt8.toNat
abbrev hL (it:Int→ByteArray) (g:HgT):List Nat:=(tlH it g).map UInt8.toNat
theorem ke3 {P:List SqT} {Q:List HgT} {s:SqT} (hs:DS D64 s) (hp:P.length≤64) (hq:Q.length≤128):jgc (P,Q) (nL (itB (jah (fu nn))) s)=(P++[s],Q):=by
 unfold jgc nL
 rw[j1h,jw6,wdS,jt1 (kab kca hs)]
 simp only[List.map_cons,List.map_nil]
 rw[ji9 hs.1,ji9 hs.2]
 unfold jko
 rw[if_neg (by simp),if_neg (by simp only;omega),if_neg (by simp only;omega),if_pos (by simp)]
 show(P++[(atV (itN nn s.1),atV (itN nn s.2))],Q)=_
 rw[jyz hs.1,jyz hs.2]
theorem ke4 {P:List SqT} {Q:List HgT} {g:HgT} (hg:DH D64 g) (hb: -1≤g.2.2∧g.2.2≤1) (hp:P.length≤64) (hq:Q.length≤128):jgc (P,Q) (hL (itB (jah (fu nn))) g)=(P,Q++[g]):=by
 unfold jgc hL
 rw[j47,jw6,wdH,jt1 (kac kca hg)]
 simp only[List.map_cons,List.map_nil]
 rw[ji9 hg.1,ji9 hg.2.1,ji9 hg.2.2]
 unfold jko
 rw[if_neg (by simp),if_neg (by simp only;omega),if_neg (by simp only;omega),if_neg (by simp)]
 show(P,Q++[((atV (itN nn g.1.1),atV (itN nn g.1.2)),(decide ((wyB g.2.1).map UInt8.toNat=[117,112]),IntKind.i8.wrap (max (-2) (min (atV (itN nn g.2.2)) 2))))])=_
 rw[jyz hg.1,jyz hg.2.1,jyz hg.2.2]
 have e1:decide ((wyB g.2.1).map UInt8.toNat=[117,112])=g.2.1:=by cases g.2.1<;>rfl
 have e2:IntKind.i8.wrap (max (-2) (min g.2.2 2))=g.2.2:=by
  rcases(by omega:g.2.2= -1∨g.2.2=0∨g.2.2=1) with h | h | h<;>(rw[h];decide)
 rw[e1,e2]
theorem kav:∀(S P:List SqT),(∀s∈S,DS D64 s)→P.length+S.length≤65→(S.map (nL (itB (jah (fu nn))))).foldl jgc (P,[])=(P++S,[])
 | [],P,_,_=>by simp
 | s::S,P,h,hl=>by
   rw[List.length_cons] at hl
   rw[List.map_cons,List.foldl_cons,ke3 (h s (by simp)) (by omega) (by simp),kav S (P++[s]) (fun x hx=>h x (List.mem_cons_of_mem _ hx)) (by rw[List.length_append,List.length_singleton];omega),List.append_assoc]
   rfl
theorem kaw {S:List SqT} (hS:S.length≤64):∀(H P:List HgT),(∀g∈H,DH D64 g∧(-1≤g.2.2∧g.2.2≤1))→P.length+H.length≤129→(H.map (hL (itB (jah (fu nn))))).foldl jgc (S,P)=(S,P++H)
 | [],P,_,_=>by simp
 | g::H,P,h,hl=>by
   rw[List.length_cons] at hl
   obtain⟨h1,h2⟩:=h g (by simp)
   rw[List.map_cons,List.foldl_cons,ke4 h1 h2 hS (by omega),kaw hS H (P++[g]) (fun x hx=>h x (List.mem_cons_of_mem _ hx)) (by rw[List.length_append,List.length_singleton];omega),List.append_assoc]
   rfl
theorem j3t {S:List SqT} {H:List HgT} (h:NetOK S H) (hH:H.length≤129):je9 (txN nn (S,H))=(S,H):=by
 have hle:=h.le
 unfold je9 txN
 rw[jt2,j7r,kev kca h.dS h.dH,jxx,List.map_append,List.map_append,List.map_map,List.map_map,List.foldl_append,List.foldl_append]
 have e1:(S.map ((fun w=>w.map UInt8.toNat)∘tlS (itB (jah (fu nn))))).foldl jgc ([],[])=(S,[]):=by
  have:=kav (nn:=nn) S [] h.dS (by simp;omega)
  rw[List.nil_append] at this
  exact this
 have e2:(H.map ((fun w=>w.map UInt8.toNat)∘tlH (itB (jah (fu nn))))).foldl jgc (S,[])=(S,H):=by
  have:=kaw (nn:=nn) hle H [] (fun g hg=>⟨h.dH g hg,h.bend g hg⟩) (by simp;omega)
  rw[List.nil_append] at this
  exact this
 rw[e1,e2]
 rfl
theorem j14 {s:SqT} (hs:DS D64 s):nL (itB (jah (fu nn))) s=((([115,113,117,97,114,101,32]++itN nn s.1)++[32])++itN nn s.2)++[10]:=by
 unfold nL
 rw[j1h,wdS,←ji9 hs.1,←ji9 hs.2,Lib.join_cons]
 simp[Lib.joinTail]
theorem j15 {g:HgT} (hg:DH D64 g):hL (itB (jah (fu nn))) g=((((([104,105,110,103,101,32]++itN nn g.1.1)++[32])++itN nn g.1.2)++(bif g.2.1 then [32,117,112,32] else [32,114,105,103,104,116,32]))++itN nn g.2.2)++[10]:=by
 unfold hL
 rw[j47,wdH,←ji9 hg.1,←ji9 hg.2.1,←ji9 hg.2.2,Lib.join_cons]
 cases g.2.1<;>simp[Lib.joinTail,wyB]
theorem jyf {α:Type} {f:α→List Nat} {L:List α} {k:Nat} (h:k<L.length) (d:α):(L.take (k+1)).flatMap f=(L.take k).flatMap f++f (L.getD k d):=by
 rw[List.take_add_one,List.getElem?_eq_getElem h,List.flatMap_append,List.getD,List.getElem?_eq_getElem h]
 simp
theorem jv4 {α:Type} {f:α→List Nat} {B:Nat}:∀ {L:List α},(∀x∈L,(f x).length≤B)→(L.flatMap f).length≤L.length*B
 | [],_=>by simp
 | x::L,h=>by
   have ih:=jv4 (L:=L) fun y hy=>h y (List.mem_cons_of_mem _ hy)
   have:=h x (by simp)
   rw[List.flatMap_cons,List.length_append,List.length_cons,Nat.add_mul]
   omega
set_option maxHeartbeats 2000000 in
theorem jnt {x:List (List Int)×(Int×Int)} (hx:ArgN nn x) (s:List Nat) (hl:jdw (fu nn) ()=some true):jf6 (fu nn) (x,s)=some true:=by
 apply Ret.eq
 have LV:Ret ((jdw (fu nn) ()).bind fun r=>some r) fun x=>x=true:=by rw[hl];exact ja4 rfl
 unfold jf6
 simp only
 refine jag (fun _=>LV) fun h200=>?_
 obtain⟨n,en,hn,h20,h100⟩:=khy hx.b3 hx.fu hx.big hx.c hx.b
 obtain⟨S,H⟩:=n
 simp only at hn h20 h100
 rw[show jhk (fu nn) (x.1,(x.2.1,x.2.2))=some (S,H) from en,Option.bind_some]
 have hdS:=hn.dS
 have hdH:=hn.dH
 have lS:∀s∈S,(nL (itB (jah (fu nn))) s).length≤30:=fun s hs=>by
  rw[j14 (hdS s hs)]
  have:=(jg1 (nn:=nn) (hdS s hs).1.1 (hdS s hs).1.2).2.1
  have:=(jg1 (nn:=nn) (hdS s hs).2.1 (hdS s hs).2.2).2.1
  simp only[List.length_append,List.length_cons,List.length_nil]
  omega
 have lH:∀g∈H,(hL (itB (jah (fu nn))) g).length≤40:=fun g hg=>by
  rw[j15 (hdH g hg)]
  have:=(jg1 (nn:=nn) (hdH g hg).1.1 (hdH g hg).1.2).2.1
  have:=(jg1 (nn:=nn) (hdH g hg).2.1.1 (hdH g hg).2.1.2).2.1
  have:=(jg1 (nn:=nn) (hdH g hg).2.2.1 (hdH g hg).2.2.2).2.1
  cases g.2.1<;>(simp only[List.length_append,List.length_cons,List.length_nil,cond_true,cond_false];omega)
 refine jbb (Inv:=fun z:List Nat×Int=>0≤z.2∧z.2≤S.length∧z.1=(S.take z.2.toNat).flatMap (nL (itB (jah (fu nn))))) (m:=fun z=>((S.length:Int)-z.2).toNat) ?_ _ _ ⟨by simp,by simp,by simp⟩ (by simp only[fu];omega)
 rintro ⟨acc,k⟩ rec ⟨k1,k2,k3⟩ ih
 simp only at k1 k2 k3 ⊢
 refine jag (fun hlt=>?_) fun hge=>?_
 ·have hm:=jdx (L:=S) (i:=k.toNat) (by omega)
  have hd:=hdS _ hm
  have hacc:acc.length≤700:=by
   rw[k3]
   have:=jv4 (L:=S.take k.toNat) (f:=nL (itB (jah (fu nn)))) (B:=30) fun s hs=>lS s (List.mem_of_mem_take hs)
   rw[List.length_take] at this
   have:min k.toNat S.length*30≤20*30:=Nat.mul_le_mul_right 30 (by omega)
   omega
  have hs1:=jyf (f:=nL (itB (jah (fu nn)))) (L:=S) (k:=k.toNat) (by omega) (0,0)
  rw[j14 hd,←k3] at hs1
  generalize S.getD k.toNat (0,0)=q at *
  obtain⟨e1,n1,_⟩:=jg1 (nn:=nn) hd.1.1 hd.1.2
  obtain⟨e2,n2,_⟩:=jg1 (nn:=nn) hd.2.1 hd.2.2
  refine jac (jc8 (by omega) (by omega)) ?_
  rw[e1,Option.bind_some]
  refine jac (decide_eq_true (by omega)) (jac (decide_eq_true (by simp only[List.length_append,List.length_cons,List.length_nil];omega)) (jac (jc8 (by omega) (by omega)) ?_))
  rw[e2,Option.bind_some]
  refine jac (decide_eq_true (by simp only[List.length_append,List.length_cons,List.length_nil];omega)) (jac (decide_eq_true (by simp only[List.length_append,List.length_cons,List.length_nil];omega)) (jac (decide_eq_true (by simp only[List.length_append,List.length_cons,List.length_nil];omega)) (jac (ja6 (by omega) (by omega)) (ih _ ⟨by simp only;omega,by simp only;omega,?_⟩ (by simp only;omega)))))
  simp only
  rw[show(k+1).toNat=k.toNat+1 by omega,hs1]
 have k3:acc=S.flatMap (nL (itB (jah (fu nn)))):=by rw[k3,List.take_of_length_le (by omega)]
 have hacc:acc.length≤600:=by
  rw[k3]
  have:=jv4 (L:=S) (f:=nL (itB (jah (fu nn)))) (B:=30) lS
  have:S.length*30≤20*30:=Nat.mul_le_mul_right 30 h20
  omega
 clear k1 k2 hge ih
 refine jbb (Inv:=fun z:List Nat×Int=>0≤z.2∧z.2≤H.length∧z.1=acc++(H.take z.2.toNat).flatMap (hL (itB (jah (fu nn))))) (m:=fun z=>((H.length:Int)-z.2).toNat) ?_ _ _ ⟨by simp,by simp,by simp⟩ (by simp only[fu];omega)
 rintro ⟨want,k⟩ rec ⟨k1,k2,k4⟩ ih
 simp only at k1 k2 k4 ⊢
 have hwant:want.length≤5000:=by
  rw[k4,List.length_append]
  have:=jv4 (L:=H.take k.toNat) (f:=hL (itB (jah (fu nn)))) (B:=40) fun s hs=>lH s (List.mem_of_mem_take hs)
  rw[List.length_take] at this
  have:min k.toNat H.length*40≤100*40:=Nat.mul_le_mul_right 40 (by omega)
  omega
 refine jag (fun hlt=>?_) fun hge=>?_
 ·have hm:H.getD k.toNat ((0,0),(false,0))∈H:=jgf (H:=H) (i:=k.toNat) (by omega)
  have hd:=hdH _ hm
  have hbd:=hn.bend _ hm
  have hs1:=jyf (f:=hL (itB (jah (fu nn)))) (L:=H) (k:=k.toNat) (by omega) ((0,0),(false,0))
  rw[j15 hd] at hs1
  generalize H.getD k.toNat ((0,0),(false,0))=g at *
  obtain⟨e1,n1,_⟩:=jg1 (nn:=nn) hd.1.1 hd.1.2
  obtain⟨e2,n2,_⟩:=jg1 (nn:=nn) hd.2.1.1 hd.2.1.2
  obtain⟨e3,n3,_⟩:=jg1 (nn:=nn) hd.2.2.1 hd.2.2.2
  refine jac (jc8 (by omega) (by omega)) ?_
  refine j21 (fun w:List Nat=>w=bif g.2.1 then [32,117,112,32] else [32,114,105,103,104,116,32]) (fun w hw=>?_) fun j hj=>?_
  rotate_left
  ·cases hg:g.2.1
   ·exact hj _ (by rw[hg];rfl)
   ·exact hj _ (by rw[hg];rfl)
  have wl:w.length≤7:=by rw[hw];cases g.2.1<;>decide
  rw[←hw] at hs1
  rw[e1,Option.bind_some]
  refine jac (decide_eq_true (by omega)) (jac (decide_eq_true (by simp only[List.length_append,List.length_cons,List.length_nil];omega)) ?_)
  rw[e2,Option.bind_some]
  refine jac (decide_eq_true (by simp only[List.length_append,List.length_cons,List.length_nil];omega)) (jac (decide_eq_true (by simp only[List.length_append,List.length_cons,List.length_nil];omega)) (jac (ja6 (by omega) (by omega)) ?_))
  rw[e3,Option.bind_some]
  refine jac (decide_eq_true (by simp only[List.length_append,List.length_cons,List.length_nil];omega)) (jac (decide_eq_true (by simp only[List.length_append,List.length_cons,List.length_nil];omega)) (jac (decide_eq_true (by simp only[List.length_append,List.length_cons,List.length_nil];omega)) (jac (ja6 (by omega) (by omega)) (ih _ ⟨by simp only;omega,by simp only;omega,?_⟩ (by simp only;omega)))))
  simp only
  rw[show(k+1).toNat=k.toNat+1 by omega,hs1,k4,List.append_assoc acc]
 have hw:want=txN nn (S,H):=by
  rw[k4,k3,List.take_of_length_le (by omega)]
  unfold txN tlT nL hL
  rw[List.map_append,List.map_flatMap,List.map_flatMap]
 clear k4 k1 k2 hge ih
 have hne:want≠[]:=fun c=>by
  rw[k3] at hacc
  have hge:=hn.ge
  rw[hw] at c
  unfold txN at c
  rw[List.map_eq_nil_iff] at c
  match S,hge with
  | s::S,_=>
    have:=khd (itB (jah (fu nn))) s
    unfold tlT at c
    rw[List.flatMap_cons,List.append_assoc] at c
    rw[(List.append_eq_nil_iff.1 c).1] at this
    cases this
 have eT:jdd (fu nn) (S,H)=some want:=by rw[hw];exact j72 hn (by omega)
 obtain⟨t,et,_,ep⟩:=ju3 (nn:=nn) (s:=want) (by omega)
 have hpl:je9 want=(S,H):=by rw[hw];exact j3t hn (by omega)
 rw[hpl] at et ep
 rw[eT] at et
 cases et
 rw[if_neg (by rintro (c | c);exact hne c;exact c rfl)] at ep
 rw[ep,Option.bind_some]
 refine j21 (fun x=>x=false) (fun x hx=>?_) fun j hj=>?_
 rotate_left
 ·simp only
  rw[eT,Option.bind_some]
  refine jag (fun c=>absurd rfl c) fun _=>jag (fun c=>absurd rfl c) fun _=>jag (fun c=>absurd rfl c) fun _=>jag (fun c=>absurd rfl c) fun _=>jag (fun c=>absurd rfl c) fun _=>jag (fun c=>absurd rfl c) fun _=>?_
  refine jbb (Inv:=fun z:Int=>0≤z∧z≤S.length) (m:=fun z=>((S.length:Int)-z).toNat) ?_ _ _ ⟨by simp,by simp⟩ (by simp only[fu];omega)
  rintro k rec ⟨k1,k2⟩ ih
  refine jag (fun hlt=>?_) fun hge=>?_
  ·refine jac (jc8 (by omega) (by omega)) (jac (jc8 (by omega) (by omega)) ?_)
   simp only[decide_true,Bool.and_self,Bool.not_true,cond_false]
   exact jac (ja6 (by omega) (by omega)) (ih _ ⟨by omega,by omega⟩ (by omega))
  refine jbb (Inv:=fun z:Int=>0≤z∧z≤H.length) (m:=fun z=>((H.length:Int)-z).toNat) ?_ _ _ ⟨by simp,by simp⟩ (by simp only[fu];omega)
  rintro k rec ⟨k1,k2⟩ ih
  refine jag (fun hlt=>?_) fun hge=>hj _ rfl
  refine jac (jc8 (by omega) (by omega)) (jac (jc8 (by omega) (by omega)) ?_)
  simp only[decide_true,Bool.and_self,Bool.not_true,cond_false,beq_self_eq_true]
  exact jac (ja6 (by omega) (by omega)) (ih _ ⟨by omega,by omega⟩ (by omega))
 subst hx
 rw[cond_false]
 obtain⟨t,et,htn,ep⟩:=ju3 (nn:=nn) (s:=s) (by omega)
 rw[ep,Option.bind_some]
 by_cases hc:s=[]∨t≠s
 ·rw[if_pos hc]
  exact jag (fun _=>jag (fun _=>jac (show jaq 0=true by decide) (jag (fun _=>LV) fun c=>absurd (show(0:Int)=0 from rfl) c)) fun c=>absurd rfl c) fun c=>absurd (by decide) c
 ·rw[if_neg hc]
  have hts:t=s:=Classical.byContradiction fun c=>hc (.inr c)
  have hs0:s≠[]:=fun c=>hc (.inl c)
  have hno:=htn (by rw[hts];exact hs0)
  have h2:(je9 s).2.length≤10000:=by
   have:∀(L:List (List Nat)) (st:List SqT×List HgT),st.1.length≤65∧st.2.length≤129→(L.foldl jgc st).1.length≤65∧(L.foldl jgc st).2.length≤129:=fun L=>by
    induction L with
    | nil=>exact fun st h=>h
    | cons l L ih=>exact fun st h=>ih _ (jr9 h)
   have:=(this (jca s [10]) ([],[]) (by simp)).2
   unfold je9
   omega
  refine jag (fun c=>absurd rfl c) fun _=>?_
  rw[show jce (fu nn) ((je9 s).1,(je9 s).2)=some 0 from j3a hno h2,Option.bind_some]
  refine jag (fun _=>?_) fun c=>absurd rfl c
  rw[show jdd (fu nn) ((je9 s).1,(je9 s).2)=some t from et,Option.bind_some]
  exact jag (fun _=>LV) fun c=>absurd hts c
end X
end Go.Vm
