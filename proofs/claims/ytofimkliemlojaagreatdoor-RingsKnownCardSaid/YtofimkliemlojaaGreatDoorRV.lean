/-
  Rings: the piles of strips.
  Rings: the law RingsDifference.
  Rings of stamps: how many ways they have, by a search that is quick.
  Rings: the law RingsKnown: the known numbers of ways of rings of stamps; at the derived values the other laws answer.
-/
import Derived.Test.YtofimkliemlojaaGreatDoorRT
set_option linter.unusedSimpArgs false
set_option linter.unusedVariables false
set_option linter.unusedSectionVars false
set_option linter.unnecessarySimpa false
namespace Go.Vm
namespace X
open W Go.Proofs.St
def jw4 (s:List Int×List Int):Prop:=s.1.length≤32∧s.1.length=s.2.length+1∧(∀x∈s.1,1≤x∧x≤64)∧∀x∈s.2,1≤x∧x≤3
theorem jq3 {a:List Int×List Int} (h:jw4 a):jfm fuel a=some 0:=by
 obtain⟨h1,h2,h3,h4⟩:=h
 apply Ret.eq
 unfold jfm
 refine jab (fun h=>absurd h (by omega)) fun _=>?_
 refine jaa (jah (by omega) (by omega)) ?_
 refine jab (fun h=>absurd h (by omega)) fun _=>?_
 refine jan (Inv:=fun x:Int=>0≤x∧x≤a.1.length) (m:=fun x:Int=>((a.1.length:Int)-x).toNat) ?_ _ _ ⟨by omega,by omega⟩ (by unfold fuel;omega)
 intro x rec ⟨i1,i2⟩ ih
 refine jab (fun hlt=>?_) fun hge=>?_
 ·have:=h3 _ (jau (i:=x.toNat) (by omega))
  refine jaa (jap i1 hlt) ?_
  refine jab (fun h=>absurd h (by omega)) fun _=>jab (fun h=>absurd h (by omega)) fun _=>jaa (jah (by omega) (by omega)) (ih _ ⟨by omega,by omega⟩ (by omega))
 ·refine jan (Inv:=fun x:Int=>0≤x∧x≤a.2.length) (m:=fun x:Int=>((a.2.length:Int)-x).toNat) ?_ _ _ ⟨by omega,by omega⟩ (by unfold fuel;omega)
  intro x rec ⟨i1,i2⟩ ih
  refine jab (fun hlt=>?_) fun hge=>jaj rfl
  have:=h4 _ (jau (i:=x.toNat) (by omega))
  refine jaa (jap i1 hlt) ?_
  exact jab (fun h=>absurd h (by omega)) fun _=>jab (fun h=>absurd h (by omega)) fun _=>jaa (jah (by omega) (by omega)) (ih _ ⟨by omega,by omega⟩ (by omega))
theorem kbj {s:List Int×List Int} (h:jw4 s):okL s.1=true:=by
 obtain⟨h1,h2,h3,_⟩:=h
 unfold okL
 simp only[Bool.and_eq_true,jad,decide_eq_true_eq]
 exact⟨⟨List.all_eq_true.2 fun x hx=>by simpa using h3 x hx,by omega⟩,h1⟩
theorem jsq {s:List Int×List Int} (h:jw4 s):jlb fuel s=some (endsL s.1,0):=by
 unfold jlb ke8
 rw[jq3 h]
 simp only[decide_true,cond_true,kbj h]
theorem kce (L:List Int):(endsL L).length=L.length+1:=by simp[endsL]
theorem kie {L K E:List Int} {i:Int} (h0:0≤i) (h1:i+1<E.length) (h2:E.length≤10000):jc2 fuel (((L,K),E),i)=some (frm E i.toNat):=by
 unfold jc2
 rw[jb9 (jap h0 (by simp only;omega)),jb9 (jah (by simp only;omega) (by simp only;omega)),jb9 (jap (by simp only;omega) (by simp only;omega))]
 simp only[frm,show(i+1).toNat=i.toNat+1 by omega]
theorem knu {L K E:List Int} {i:Int} (h0:0≤i) (h1:i+1<E.length) (h2:E.length≤10000):jd7 fuel (((L,K),E),i)=some (too E i.toNat):=by
 unfold jd7
 rw[jb9 (jap h0 (by simp only;omega)),jb9 (jah (by simp only;omega) (by simp only;omega)),jb9 (jap (by simp only;omega) (by simp only;omega))]
 simp only[too,show(i+1).toNat=i.toNat+1 by omega]
theorem kn4 {s:List Int×List Int} (h:jw4 s):jrd fuel s=some ((s,endsL s.1),0):=by
 unfold jrd
 rw[show(s.1,s.2)=s from rfl,jsq h]
 simp only[Option.bind_some]
 rw[jb9 (by simp[jds])]
theorem kd9 {p:List Int} {n:Nat} (hp:In n p) (hd:p.Nodup) (hn:n≤32) (hl:p.length≤10000):Ret (jip fuel p) fun r=>Rk p r∧r.length=32:=by
 unfold jip
 refine jan (Inv:=fun x:Int×List Int=>0≤x.1∧x.1≤p.length∧x.2.length=32∧∀k:Nat,k<x.1.toNat→x.2.getD (p.getD k 0).toNat 0=k) (m:=fun x=>((p.length:Int)-x.1).toNat) ?_ _ _ ⟨by simp,by simp,rfl,by simp⟩ (by simp only[fuel];omega)
 rintro ⟨i,r⟩ rec ⟨i1,i2,i3,i4⟩ ih
 simp only at i1 i2 i3 i4 ⊢
 refine jab (fun hlt=>?_) fun hge=>?_
 ·have hx:=hp _ (jau (L:=p) (i:=i.toNat) (by omega))
  have:=j6p hd hp (by omega) (by omega) i4
  rw[show((i.toNat:Nat):Int)=i by omega,show i.toNat+1=(i+1).toNat by omega] at this
  exact jaa (jap (by omega) (by omega)) (jaa (jap (by omega) (by omega)) (jaa (jah (by omega) (by omega)) (ih _ ⟨by simp only;omega,by simp only;omega,by simp only[List.length_set];exact i3,this⟩ (by simp only;omega))))
 ·exact jaj ⟨fun k hk=>i4 k (by omega),i3⟩
def Bet (f:Int→Int) (i x:Int):Prop:=min (f i) (f (i+1))<f x∧f x<max (f i) (f (i+1))
instance (f:Int→Int) (i x:Int):Decidable (Bet f i x):=by unfold Bet;infer_instance
def jsm (E:List Int) (n:Nat) (f:Int→Int):Prop:=∃i:Int,0≤i∧i+1<n∧((∃j:Int,0≤j∧j<n∧frm E j.toNat<E.getD (i.toNat+1) 0∧E.getD (i.toNat+1) 0<too E j.toNat∧Bet f i j)∨
 ∃j:Int,0≤j∧j+1<n∧j≠i∧E.getD (j.toNat+1) 0=E.getD (i.toNat+1) 0∧(E.getD (i.toNat+1) 0<E.getD j.toNat 0↔E.getD (i.toNat+1) 0<E.getD i.toNat 0)∧¬(Bet f i j↔Bet f i (j+1)))
theorem j9b {s:List Int×List Int} (h:jw4 s) {p:List Int} (hp:Ord s.1.length p):jg3 fuel (s,p)=some ((s,endsL s.1),0):=by
 have h1:=h.1
 have hle:=hp.len
 apply Ret.eq
 unfold jg3
 rw[show(s.1,s.2)=s from rfl,kn4 h,Option.bind_some]
 refine jab (fun g=>absurd rfl g) fun _=>jab (fun g=>absurd (by simp only;omega) g) fun _=>?_
 refine jan (Inv:=fun x:Int×(Unit×(Unit×Unit))=>0≤x.1∧x.1≤p.length) (m:=fun x=>((p.length:Int)-x.1).toNat) ?_ _ _ ⟨by simp,by simp⟩ (by simp only[fuel];omega)
 rintro ⟨i,_⟩ rec ⟨i1,i2⟩ ih
 simp only at i1 i2 ⊢
 refine jab (fun hlt=>?_) fun hge=>jaa (by simp[jds]) (jaj rfl)
 rw[jww (by omega),Option.bind_some,decide_eq_true (hp.memI i1 (by omega))]
 exact jaa (jah (by omega) (by omega)) (ih _ ⟨by simp only;omega,by simp only;omega⟩ (by simp only;omega))
theorem j9l {r:List Int} {i:Int} (h0:0≤i) (h1:i+1<32) (v:Int):jcr fuel (r,(i,v))=some (decide (min (r.getD i.toNat 0) (r.getD (i+1).toNat 0)<v∧v<max (r.getD i.toNat 0) (r.getD (i+1).toNat 0))):=by
 unfold jcr
 simp only
 rw[jb9 (jap h0 (by omega)),jb9 (jah (by omega) (by omega)),jb9 (jap (by omega) (by omega)),jb9 (jap h0 (by omega)),jb9 (jah (by omega) (by omega)),jb9 (jap (by omega) (by omega))]
 by_cases g:min (r.getD i.toNat 0) (r.getD (i+1).toNat 0)<v
 ·rw[decide_eq_true g,cond_true]
  congr 1
  rw[Bool.eq_iff_iff,decide_eq_true_eq,decide_eq_true_eq]
  exact⟨fun h=>⟨g,h⟩,fun h=>h.2⟩
 ·rw[decide_eq_false g,cond_false]
  congr 1
  symm
  exact decide_eq_false fun h=>g h.1
def jxw (f:Int→Int) (i:Int):Int:=if f (i+i%2)<f (i+1-i%2) then 2 else 1
theorem khs {r:List Int} {i:Int} (h0:0≤i) (h1:i+1<32):jh6 fuel (r,i)=some (jxw (fun x=>r.getD x.toNat 0) i):=by
 unfold jh6 jxw
 simp only
 rw[jb9 (jah (by omega) (by omega)),jb9 (by rw[Bool.and_eq_true];exact⟨decide_eq_true (by omega),rfl⟩),jb9 (jah (by omega) (by omega)),jb9 (jap (by omega) (by omega)),jb9 (jah (by omega) (by omega)),jb9 (jah (by omega) (by omega)),jb9 (jah (by omega) (by omega)),jb9 (jap (by omega) (by omega))]
 rw[show 2*i+1-(i+1-i%2)=i+i%2 by omega]
 by_cases g:r.getD (i+i%2).toNat 0<r.getD (i+1-i%2).toNat 0
 ·rw[decide_eq_true g,cond_true,if_pos g]
 ·rw[decide_eq_false g,cond_false,if_neg g]
def kgi (E:List Int) (n:Nat) (f:Int→Int) (i:Int):Prop:=(∃j:Int,0≤j∧j<n∧frm E j.toNat<E.getD (i.toNat+1) 0∧E.getD (i.toNat+1) 0<too E j.toNat∧Bet f i j)∨
 ∃j:Int,0≤j∧j+1<n∧j≠i∧E.getD (j.toNat+1) 0=E.getD (i.toNat+1) 0∧(E.getD (i.toNat+1) 0<E.getD j.toNat 0↔E.getD (i.toNat+1) 0<E.getD i.toNat 0)∧¬(Bet f i j↔Bet f i (j+1))
theorem j67 {k:Nat} {E:List Int} {t:Int} {rt:Bool} {x:Int}:x∈(jz9 k E t rt).map (fun(i:Nat)=>(i:Int))↔0≤x∧x<k∧E.getD (x.toNat+1) 0=t∧decide (t<E.getD x.toNat 0)=rt:=by
 simp only[jz9,List.mem_map,List.mem_filter,List.mem_range,js3,Bool.and_eq_true,decide_eq_true_eq,beq_iff_eq]
 constructor
 ·rintro ⟨a,⟨h1,h2,h3⟩,rfl⟩
  rw[Int.toNat_natCast]
  exact⟨by omega,by omega,h2,h3⟩
 ·rintro ⟨h1,h2,h3,h4⟩
  exact⟨x.toNat,⟨by omega,h3,h4⟩,by omega⟩
theorem j9h {s:List Int×List Int} (h:jw4 s) {r:List Int} (hr:r.length=32):Ret (jbl fuel ((s,endsL s.1),r)) fun b=>(b=true↔jsm (endsL s.1) s.1.length fun x=>r.getD x.toNat 0):=by
 have hel:=kce s.1
 have hn:=h.1
 have hk:=h.2.1
 generalize hf:(fun x:Int=>r.getD x.toNat 0)=f
 have hfx:∀x:Int,r.getD x.toNat 0=f x:=fun x=>by rw[←hf]
 unfold jbl
 refine jan (Inv:=fun x:Int×(Bool×Unit)=>0≤x.1∧x.1≤s.2.length∧x.2.1=false∧∀i:Int,0≤i→i<x.1→¬kgi (endsL s.1) s.1.length f i) (m:=fun x=>((s.2.length:Int)-x.1).toNat) ?_ _ _ ⟨by simp,by simp,rfl,fun i a b=>by simp at b;omega⟩ (by simp only[fuel];omega)
 rintro ⟨i,bad,_⟩ rec ⟨i1,i2,i3,i4⟩ ih
 simp only at i1 i2 i3 i4 ⊢
 subst i3
 refine jab (fun hlt=>?_) fun hge=>?_
 ·have ei:(i+1).toNat=i.toNat+1:=by omega
  have found:kgi (endsL s.1) s.1.length f i→Ret (some true) fun b=>(b=true↔jsm (endsL s.1) s.1.length f):=fun hc=>jaj ⟨fun _=>⟨i,i1,by omega,hc⟩,fun _=>rfl⟩
  refine jaa (jah (by omega) (by omega)) (jaa (jap (by omega) (by omega)) ?_)
  rw[ei]
  have bt:∀x:Int,jcr fuel (r,(i,f x))=some (decide (Bet f i x)):=fun x=>by
   rw[j9l i1 (by omega)]
   rw[hfx,hfx]
   rfl
  refine jan (Inv:=fun x:Int×(Bool×Unit)=>0≤x.1∧x.1≤s.1.length∧x.2.1=false∧∀j:Int,0≤j→j<x.1→¬(frm (endsL s.1) j.toNat< (endsL s.1).getD (i.toNat+1) 0∧(endsL s.1).getD (i.toNat+1) 0<too (endsL s.1) j.toNat∧Bet f i j)) (m:=fun x=>((s.1.length:Int)-x.1).toNat) ?_ _ _ ⟨by simp,by simp,rfl,fun i a b=>by simp at b;omega⟩ (by simp only[fuel];omega)
  rintro ⟨j,bad,_⟩ rec2 ⟨j1,j2,j3,j4⟩ ih2
  simp only at j1 j2 j3 j4 ⊢
  subst j3
  refine jab (fun hlt2=>?_) fun hge2=>?_
  ·have nxt:¬(frm (endsL s.1) j.toNat< (endsL s.1).getD (i.toNat+1) 0∧(endsL s.1).getD (i.toNat+1) 0<too (endsL s.1) j.toNat∧Bet f i j)→Ret (chk (jak (j+1)) (rec2 (j+1,(false,())))) fun b=>(b=true↔jsm (endsL s.1) s.1.length f):=fun hc=>by
    refine jaa (jah (by omega) (by omega)) (ih2 _ ⟨by simp only;omega,by simp only;omega,rfl,fun j' a b=>?_⟩ (by simp only;omega))
    simp only at b
    by_cases e:j'=j
    ·subst e;exact hc
    ·exact j4 j' a (by omega)
   rw[kie j1 (by omega) (by omega),Option.bind_some]
   refine jab (fun g1=>?_) fun g1=>nxt fun hh=>g1 hh.1
   rw[knu j1 (by omega) (by omega),Option.bind_some]
   refine jab (fun g2=>?_) fun g2=>nxt fun hh=>g2 hh.2.1
   refine jaa (jap (by omega) (by omega)) ?_
   rw[hfx,bt,Option.bind_some]
   refine jab (fun g3=>found (.inl ⟨j,j1,by omega,g1,g2,g3⟩)) fun g3=>nxt fun hh=>g3 hh.2.2
  ·refine jaa (jap (by omega) (by omega)) ?_
   have hla:¬ ∃j:Int,0≤j∧j<s.1.length∧frm (endsL s.1) j.toNat< (endsL s.1).getD (i.toNat+1) 0∧(endsL s.1).getD (i.toNat+1) 0<too (endsL s.1) j.toNat∧Bet f i j:=fun⟨j',a,b,c⟩=>j4 j' a (by omega) c
   unfold jwh
   simp only
   rw[show(Nat.blt (List.length (α:=Int) s.2) (List.length (α:=Int) (endsL s.1))&&Nat.ble (List.length (α:=Int) (endsL s.1)) 1000000)=true by
    simp[Nat.blt_eq]
    omega,cond_true,Option.bind_some]
   refine j1i (Inv:=fun(l:List Int) (x:Bool×Unit)=>x.1=false∧(∀y∈l,0≤y∧y<s.2.length∧(endsL s.1).getD (y.toNat+1) 0=(endsL s.1).getD (i.toNat+1) 0∧decide ((endsL s.1).getD (i.toNat+1) 0< (endsL s.1).getD y.toNat 0)=decide ((endsL s.1).getD (i.toNat+1) 0< (endsL s.1).getD i.toNat 0))∧
    ∀j:Int,0≤j→j<s.2.length→j≠i→(endsL s.1).getD (j.toNat+1) 0=(endsL s.1).getD (i.toNat+1) 0→decide ((endsL s.1).getD (i.toNat+1) 0< (endsL s.1).getD j.toNat 0)=decide ((endsL s.1).getD (i.toNat+1) 0< (endsL s.1).getD i.toNat 0)→(Bet f i j↔Bet f i (j+1))∨j∈l) ?_ ?_ _ _ ⟨rfl,fun y hy=>j67.1 hy,fun j a b c d e=>.inr (j67.2 ⟨a,b,d,e⟩)⟩
   ·rintro ⟨bad,_⟩ ⟨k1,_,k2⟩
    simp only at k1
    subst k1
    refine jaa (jah (by omega) (by omega)) (ih _ ⟨by simp only;omega,by simp only;omega,rfl,fun i' a b=>?_⟩ (by simp only;omega))
    simp only at b
    by_cases e:i'=i
    ·subst e
     rintro (hh | ⟨j,a1,a2,a3,a4,a5,a6⟩)
     ·exact hla hh
     ·rcases k2 j a1 (by omega) a3 a4 (by rw[decide_eq_decide];exact a5) with hh | hh
      ·exact a6 hh
      ·cases hh
    ·exact i4 i' a (by omega)
   ·rintro y l rec3 ⟨bad,_⟩ ⟨k1,k2,k3⟩ ih3
    simp only at k1
    subst k1
    obtain⟨y0,y1,y2,y3⟩:=k2 y List.mem_cons_self
    have nxt:(y≠i→(Bet f i y↔Bet f i (y+1)))→Ret (rec3 (false,())) fun b=>(b=true↔jsm (endsL s.1) s.1.length f):=fun hc=>by
     refine ih3 _ ⟨rfl,fun z hz=>k2 z (List.mem_cons_of_mem _ hz),fun j a b c d e=>?_⟩
     rcases k3 j a b c d e with hh | hh
     ·exact .inl hh
     ·rcases List.mem_cons.1 hh with rfl | hh
      ·exact .inl (hc c)
      ·exact .inr hh
    refine jab (fun g=>?_) fun g=>nxt fun hh=>absurd hh g
    refine jaa (jap (by omega) (by omega)) ?_
    rw[hfx,bt,Option.bind_some]
    refine jaa (jah (by omega) (by omega)) (jaa (jap (by omega) (by omega)) ?_)
    rw[hfx,bt,Option.bind_some]
    by_cases e:Bet f i y↔Bet f i (y+1)
    ·rw[show(decide (Bet f i y)==decide (Bet f i (y+1)))=true by rw[beq_iff_eq,decide_eq_decide];exact e]
     exact nxt fun _=>e
    ·rw[show(decide (Bet f i y)==decide (Bet f i (y+1)))=false by rw[beq_eq_false_iff_ne,ne_eq,decide_eq_decide];exact e]
     exact found (.inr ⟨y,y0,by omega,g,y2,by rw[←decide_eq_decide];exact y3,e⟩)
 ·refine jaj ⟨fun hh=>(by cases hh),?_⟩
  rintro ⟨j,a,b,c⟩
  exact absurd c (i4 j a (by omega))
theorem jxb {f g:Int→Int} {n:Nat} (hfg:∀x:Int,0≤x→x<n→f x=g x) {i x:Int} (h0:0≤i) (h1:i+1<n) (hx:0≤x) (hx':x<n):Bet f i x↔Bet g i x:=by
 unfold Bet
 rw[hfg i h0 (by omega),hfg (i+1) (by omega) h1,hfg x hx hx']
theorem juc {E:List Int} {n:Nat} {f g:Int→Int} (hfg:∀x:Int,0≤x→x<n→f x=g x):jsm E n f→jsm E n g:=by
 rintro ⟨i,h0,h1,⟨j,a1,a2,a3,a4,a5⟩ | ⟨j,a1,a2,a3,a4,a5,a6⟩⟩
 ·exact⟨i,h0,h1,.inl ⟨j,a1,a2,a3,a4,(jxb hfg h0 h1 a1 a2).1 a5⟩⟩
 ·exact⟨i,h0,h1,.inr ⟨j,a1,a2,a3,a4,a5,fun h=>a6 (by rw[jxb hfg h0 h1 a1 (by omega),jxb hfg h0 h1 (by omega) (by omega)];exact h)⟩⟩
def kda (K:List Int) (p:List Int):Prop:=∃i:Int,0≤i∧i<K.length∧K.getD i.toNat 0≠3∧K.getD i.toNat 0≠jxw (rkF p) i
open Classical in
noncomputable def kor (s:List Int×List Int) (p:List Int):Int:=if jsm (endsL s.1) s.1.length (rkF p) then 12 else if kda s.2 p then 13 else 0
theorem j5x {s:List Int×List Int} (h:jw4 s) {p r:List Int} (hp:Ord s.1.length p) (hr:r.length=32) (hk:Rk p r):Ret (jbl fuel ((s,endsL s.1),r)) fun b=>(b=true↔jsm (endsL s.1) s.1.length (rkF p)):=by
 refine(j9h h hr).mono fun b hb=>hb.trans ⟨juc (hk.eqF hp),juc fun x h0 h1=>(hk.eqF hp x h0 h1).symm⟩
theorem j5j {f g:Int→Int} {i:Int} (h1:f (i+i%2)=g (i+i%2)) (h2:f (i+1-i%2)=g (i+1-i%2)):jxw f i=jxw g i:=by
 unfold jxw
 rw[h1,h2]
theorem ken {s:List Int×List Int} (h:jw4 s) {p r:List Int} (hp:Ord s.1.length p) (hk:Rk p r) {i:Int} (h0:0≤i) (h1:i<s.2.length):jh6 fuel (r,i)=some (jxw (rkF p) i):=by
 have:=h.1
 have:=h.2.1
 rw[khs h0 (by omega)]
 rw[j5j (f:=fun x=>r.getD x.toNat 0) (g:=rkF p) (hk.eqF hp _ (by omega) (by omega)) (hk.eqF hp _ (by omega) (by omega))]
theorem kfl {s:List Int×List Int} (h:jw4 s) {p:List Int} (hp:Ord s.1.length p):jfc fuel (s,p)=some (kor s p):=by
 classical
 apply Ret.eq
 have hn:=h.1
 have hk2:=h.2.1
 have hl:=hp.len
 unfold jfc
 rw[show((s.1,s.2),p)=(s,p) from rfl,j9b h hp,Option.bind_some]
 refine jab (fun g=>absurd rfl g) fun _=>?_
 refine jax (kd9 (p:=p) hp.in hp.nodup hn (by omega)) fun r ⟨hr,hr2⟩=>?_
 refine jax (j5x h hp hr2 hr) fun b hb=>?_
 unfold kor
 cases b with
 | true=>exact jaj (by rw[if_pos (hb.1 rfl)])
 | false=>
   rw[if_neg (fun h=>by cases hb.2 h)]
   refine jan (Inv:=fun i:Int=>0≤i∧i≤s.2.length∧∀j:Int,0≤j→j<i→¬(s.2.getD j.toNat 0≠3∧s.2.getD j.toNat 0≠jxw (rkF p) j)) (m:=fun i=>((s.2.length:Int)-i).toNat) ?_ _ _ ⟨by simp,by simp,fun j a b=>by omega⟩ (by simp only[fuel];omega)
   rintro i rec ⟨i1,i2,i3⟩ ih
   simp only
   refine jab (fun hlt=>?_) fun hge=>?_
   ·have nxt:¬(s.2.getD i.toNat 0≠3∧s.2.getD i.toNat 0≠jxw (rkF p) i)→Ret (chk (jak (i+1)) (rec (i+1))) fun x=>x=if kda s.2 p then 13 else 0:=fun hc=>by
     refine jaa (jah (by omega) (by omega)) (ih _ ⟨by omega,by omega,fun j a b=>?_⟩ (by omega))
     by_cases e:j=i
     ·subst e;exact hc
     ·exact i3 j a (by omega)
    refine jaa (jap (by omega) (by omega)) (jab (fun g=>?_) fun g=>nxt fun hh=>g hh.1)
    rw[ken h hp hr i1 hlt,Option.bind_some]
    exact jab (fun g2=>jaj (by rw[if_pos ⟨i,i1,hlt,g,g2⟩])) fun g2=>nxt fun hh=>g2 hh.2
   ·exact jaj (by rw[if_neg];rintro ⟨j,a,b,c⟩;exact i3 j a (by omega) c)
end X
end Go.Vm
namespace Go.Vm
namespace X
open W Go.Proofs.St
def jku (n:Nat) (f:Int→Int):List Int:=(List.range n).map fun(i:Nat)=>je1 n f i
theorem jnf {n:Nat} {f:Int→Int}:(jku n f).length=n:=by simp[jku]
theorem jkt {n:Nat} {f:Int→Int} {i:Nat} (h:i<n):(jku n f).getD i 0=je1 n f i:=by
 simp[jku,List.getD,List.getElem?_range h]
theorem jux {n:Nat} {f:Int→Int} {i:Int}:je1 n f i=1∨je1 n f i=2:=by
 unfold je1
 split<;>split<;>simp
theorem j22 {n:Nat} {f:Int→Int} {x:Int} (h:x∈jku n f):x=1∨x=2:=by
 obtain⟨i,_,rfl⟩:=List.mem_map.1 h
 exact jux
theorem RValid.kinded {s:List Int×List Int} (h:RValid s) (f:Int→Int):RValid (s.1,jku s.1.length f):=
 ⟨h.le,h.two,h.even,jnf,h.lens,fun x hx=>by rcases j22 hx with rfl | rfl<;>omega,h.closed⟩
theorem jxi {s:List Int×List Int} (h:RValid s) {p:List Int} (hp:Ord s.1.length p) (hc:¬jdz (ja9 s.1) s.1.length (rkF p)):
  jfb fuel (s,p)=some ((s.1,jku s.1.length (rkF p)),0):=by
 have hn:=h.le
 have hl:=hp.len
 have hkl:=h.kl
 apply Ret.eq
 unfold jfb
 refine jax (jj0 h hp) fun e he=>?_
 have he2:e=0∨e=13:=by
  by_cases w:jny s.2 s.1.length (rkF p)
  ·exact .inr (he.2.1 hc w)
  ·exact .inl (he.2.2 hc w)
 have body:Ret ((jcv fuel (s.1,s.2)).bind fun r2=>(jdm fuel p).bind fun r3=>(jas fuel s.1).bind fun r4=>chk (bnb 0 ((r4.length:Nat):Int) r4.length&&decide (((r4.length:Nat):Int)≤((r4.length:Nat):Int))&&decide (((r4.length:Nat):Int)≤((r4.length:Nat):Int))) (chk (decide (0≤((s.2.length:Nat):Int))&&decide (((s.2.length:Nat):Int)≤((s.2.length:Nat):Int))&&decide (((s.2.length:Nat):Int)≤1000000)) (jav (fun rec5 (x5:(Int×((List Int)×Option Nat)))=>bif(decide (x5.1< (((List.replicate (α:=Int) s.2.length 0).length:Nat):Int))) then((ja1 fuel (((r2.1.1,r2.1.2),r2.2),(r3,x5.1))).bind fun r6=>chk (inb x5.1 x5.2.1.length) (chk (jak (x5.1+1)) (rec5 ((x5.1+1),((x5.2.1.set x5.1.toNat r6),x5.2.2))))) else(chk (((Nat.beq 0 0)&&(jds (some r4.length) (r4.take r4.length).length))&&(jds x5.2.2 x5.2.1.length)) (some (((r4.take r4.length),x5.2.1),(0:Int))))) fuel (0,((List.replicate (α:=Int) s.2.length 0),(some s.2.length)))))) (fun x=>x=((s.1,jku s.1.length (rkF p)),0)):=by
  rw[show jcv fuel (s.1,s.2)=some (s,ja9 s.1) from jio h,Option.bind_some]
  refine jax (jhw hp.in hp.nodup hn (by omega)) fun r hr=>?_
  have hfg:=hr.rk.eqF hp
  unfold jas
  rw[jb9 (ja7 (by omega)),Option.bind_some,List.nil_append]
  refine jaa (by simp[bnb]) (jaa (by simp;omega) ?_)
  refine jan (Inv:=fun x:Int×(List Int×Option Nat)=>0≤x.1∧x.1≤s.1.length∧x.2.1.length=s.1.length∧x.2.2=some s.2.length∧∀k:Nat,(k:Int)<x.1→x.2.1.getD k 0=je1 s.1.length (rkF p) k) (m:=fun x=>((s.1.length:Int)-x.1).toNat) ?_ _ _ ⟨by simp,by simp,by simp;omega,rfl,fun k hk=>by simp only at hk;omega⟩ (by simp only[fuel];omega)
  rintro ⟨i,K,cp⟩ rec ⟨i1,i2,i3,i4,i5⟩ ih
  simp only[List.length_replicate] at i1 i2 i3 i4 i5 ⊢
  subst i4
  refine jab (fun hlt=>?_) fun hge=>?_
  ·rw[show ja1 fuel (((s.1,s.2),ja9 s.1),(r,i))=some (je1 s.1.length (fun x=>r.getD x.toNat 0) i) from jq7 h i1 (by omega),Option.bind_some,jp7 hfg i1 (by omega)]
   refine jaa (jap (by omega) (by omega)) (jaa (jah (by omega) (by omega)) (ih _ ⟨by simp only;omega,by simp only;omega,by simp only[List.length_set];exact i3,rfl,fun k hk=>?_⟩ (by simp only;omega)))
   simp only at hk ⊢
   rw[jlr (by omega)]
   split
   ·next e=>rw[e,show((i.toNat:Nat):Int)=i by omega]
   ·exact i5 k (by omega)
  ·have eK:K=jku s.1.length (rkF p):=jr2 (by rw[jnf];exact i3) fun k hk=>by
    rw[jkt (by omega)]
    exact i5 k (by omega)
   refine jaa ?_ (jaj ?_)
   ·rw[List.take_of_length_le (Nat.le_refl _)]
    simp[jds];omega
   ·rw[List.take_of_length_le (Nat.le_refl _),eK]
 refine jab (fun g=>jab (fun g2=>by omega) fun g2=>body) fun g=>body
theorem juw {n:Nat} {f:Int→Int}:∀k:Nat, -(k:Int)≤jho (jud n f) 0 k∧jho (jud n f) 0 k≤k
 | 0=>by simp[jho]
 | k+1=>by
   have ih:=juw (n:=n) (f:=f) k
   have:jud n f (0+k)=1∨jud n f (0+k)= -1:=by
    unfold jud
    rcases jux (n:=n) (f:=f) (i:=((0+k:Nat):Int)) with e | e<;>rw[e]<;>simp
   rw[jho]
   omega
theorem j1t {n:Nat} {f:Int→Int} {i:Int} (h:0≤i):jho (jud n f) 0 (i+1).toNat=jho (jud n f) 0 i.toNat+ (3-2*je1 n f i):=by
 rw[show(i+1).toNat=i.toNat+1 by omega,jho,Nat.zero_add,jud,show((i.toNat:Nat):Int)=i by omega]
theorem jpn {s:List Int×List Int} (h:RValid s) (f:Int→Int):jco fuel (s.1,jku s.1.length f)=some (jho (jud s.1.length f) 0 s.1.length,0):=by
 have hn:=h.le
 have hK:=h.kinded f
 apply Ret.eq
 unfold jco
 rw[show ja3 fuel ((s.1,jku s.1.length f).1,(s.1,jku s.1.length f).2)=some 0 from jdo hK,Option.bind_some]
 refine jab (fun g=>absurd rfl g) fun _=>?_
 refine jan (Inv:=fun x:Int×Int=>0≤x.2∧x.2≤s.1.length∧x.1=jho (jud s.1.length f) 0 x.2.toNat) (m:=fun x=>((s.1.length:Int)-x.2).toNat) ?_ _ _ ⟨by simp,by simp,rfl⟩ (by simp only[fuel];omega)
 rintro ⟨z,i⟩ rec ⟨i1,i2,i3⟩ ih
 simp only at i1 i2 i3 ⊢
 rw[jnf]
 refine jab (fun hlt=>?_) fun hge=>jaj (by rw[i3,show i.toNat=s.1.length by omega])
 have hb:=juw (n:=s.1.length) (f:=f) i.toNat
 have hk:=jkt (n:=s.1.length) (f:=f) (i:=i.toNat) (by omega)
 rw[show((i.toNat:Nat):Int)=i by omega] at hk
 have hst:=j1t (n:=s.1.length) (f:=f) i1
 rw[hk]
 refine jaa (jap (by omega) (by omega)) (jab (fun g=>?_) fun g=>jab (fun g2=>?_) fun g2=>?_)
 ·refine jaa (jah (by omega) (by omega)) (jaa (jah (by omega) (by omega)) (ih _ ⟨by simp only;omega,by simp only;omega,?_⟩ (by simp only;omega)))
  simp only
  rw[hst,i3,g];omega
 ·refine jaa (jah (by omega) (by omega)) (jaa (jah (by omega) (by omega)) (ih _ ⟨by simp only;omega,by simp only;omega,?_⟩ (by simp only;omega)))
  simp only
  rw[hst,i3,g2];omega
 ·rcases jux (n:=s.1.length) (f:=f) (i:=i) with e | e
  ·exact absurd e g
  ·exact absurd e g2
theorem km6 {n:Nat} {p:List Int} (hp:Ord n p):RkF n (rkF p) where
 lo x hx:=jn9 p x
 hi x hx:=by
  have:=jjs (hp.mem hx)
  have:=hp.len
  omega
 inj x y hx hy e:=by
  have:=jim (hp.mem hx) (hp.mem hy) e
  omega
theorem j9f (L:List Int):endsL L=ja9 L:=by
 have:∀i,eAt L i=eR L i:=fun i=>by
  induction i with
  | zero=>rfl
  | succ i ih=>rw[eAt,eR,ih]
 unfold endsL ja9
 exact List.map_congr_left fun i _=>this i
theorem kbf {s:List Int×List Int} (h:RValid s) {p:List Int} (hp:Ord s.1.length p) (hc:¬jdz (ja9 s.1) s.1.length (rkF p)):jfc fuel ((s.1,(jku s.1.length (rkF p)).take (s.1.length-1)),p)=some 0:=by
 have hn:=h.two
 have hlk:((jku s.1.length (rkF p)).take (s.1.length-1)).length=s.1.length-1:=by rw[List.length_take,jnf];omega
 have hv:jw4 (s.1,(jku s.1.length (rkF p)).take (s.1.length-1)):=by
  refine⟨h.le,?_,h.lens,fun x hx=>?_⟩
  ·simp only[hlk];omega
  ·rcases j22 (List.mem_of_mem_take hx) with rfl | rfl<;>omega
 rw[kfl hv hp]
 unfold kor
 have esc:∀i:Int,i+1<s.1.length→sc s.1.length i=i+1:=fun i hi=>by unfold sc;rw[if_pos hi]
 rw[if_neg,if_neg]
 ·rintro ⟨i,i0,i1,e1,e2⟩
  simp only[hlk] at i1
  refine e2 ?_
  have:((jku s.1.length (rkF p)).take (s.1.length-1)).getD i.toNat 0=(jku s.1.length (rkF p)).getD i.toNat 0:=by
   rw[List.getD,List.getD,List.getElem?_take,if_pos (by omega)]
  show((jku s.1.length (rkF p)).take (s.1.length-1)).getD i.toNat 0=_
  rw[this,jkt (by omega),show((i.toNat:Nat):Int)=i by omega]
  unfold je1 jxw
  rw[esc i (by omega)]
  by_cases c:i%2=0
  ·rw[if_pos c,c,Int.add_zero,Int.sub_zero]
  ·rw[if_neg c,show i%2=1 by omega,show i+1-1=i by omega]
 ·intro hh
  apply hc
  show jdz (ja9 s.1) s.1.length (rkF p)
  have hh:jsm (endsL s.1) s.1.length (rkF p):=hh
  rw[j9f] at hh
  obtain⟨i,i0,i1,hh⟩:=hh
  have bet:∀x,Bet (rkF p) i x↔jk8 s.1.length (rkF p) i x:=fun x=>by unfold Bet jk8;rw[esc i i1]
  refine⟨i,i0,by omega,?_⟩
  rcases hh with⟨j,j0,j1,e1,e2,e3⟩ | ⟨j,j0,j1,e1,e2,e3,e5⟩
  ·exact .inl ⟨j,j0,j1,e1,e2,(bet j).1 e3⟩
  ·refine .inr ⟨j,j0,by omega,e1,e2,e3,?_⟩
   rw[esc j j1,←bet,←bet]
   exact e5
set_option maxRecDepth 100000 in
set_option maxHeartbeats 2000000 in
theorem ji2 {a0 a1 y:List Int} {l:Int} (h0:bytes a0) (h1:bytes a1) (hl:0≤l∧l≤255) (hy:bytes y):jb0 fuel (((a0,a1),(l,())),y)=some true:=by
 apply Ret.eq
 unfold jb0
 refine jax (jf5 (a:=((a0,a1),(l,()))) h0 h1 hl) fun s ⟨h,h8,_⟩=>?_
 have hn:=h.le
 have h2:=h.two
 have fin:Ret ((ja0 fuel ()).bind fun r5=>some r5) (fun x=>x=true):=by rw[js5];exact jaj rfl
 refine jax (j58 hy (n:=s.1.length) (by omega)) fun p hp=>?_
 refine jax (jj3 h hp) fun e he=>?_
 refine jy7 (fun x:List Int×(List Int×List Int)=>x.2=s∧Ord s.1.length x.1∧¬jdz (ja9 s.1) s.1.length (rkF x.1)) (fun x ⟨x1,x2,x3⟩=>?_) fun j hj=>?_
 ·obtain⟨q,s'⟩:=x
  simp only at x1 x2 x3
  subst x1
  have hK:=h.kinded (rkF q)
  simp only
  rw[show jfb fuel ((s'.1,s'.2),q)=_ from jxi h x2 x3,Option.bind_some]
  refine jab (fun g=>absurd rfl g) fun _=>?_
  refine jax (jj0 hK x2) fun e2 he2=>?_
  have e20:e2=0:=he2.2.2 x3 fun⟨i,i0,i1,w1,w2⟩=>w2 (by
   show(jku s'.1.length (rkF q)).getD i.toNat 0=_
   change i<s'.1.length at i1
   rw[jkt (by omega),show((i.toNat:Nat):Int)=i by omega])
  refine jab (fun g=>absurd e20 g) fun _=>?_
  refine jab (fun g=>absurd rfl g) fun _=>jab (fun g=>absurd rfl g) fun _=>?_
  refine jr7 rfl (by omega) (fun g=>absurd rfl g) fun _=>?_
  have lk:=jnf (n:=s'.1.length) (f:=rkF q)
  have hkl:=h.kl
  refine jab (fun g=>absurd (by simp only[lk];omega) g) fun _=>jab (fun g=>absurd rfl g) fun _=>?_
  rw[jpn h,Option.bind_some]
  have tt:=j8y h.ends (km6 x2) x3
  have hbn:=juw (n:=s'.1.length) (f:=rkF q) s'.1.length
  refine jan (Inv:=fun x:Int×Int=>0≤x.2∧x.2≤s'.1.length∧x.1=jho (jud s'.1.length (rkF q)) 0 x.2.toNat) (m:=fun x=>((s'.1.length:Int)-x.2).toNat) ?_ _ _ ⟨by simp,by simp,rfl⟩ (by simp only[fuel];omega)
  rintro ⟨z,i⟩ rec ⟨i1,i2,i3⟩ ih
  simp only at i1 i2 i3 ⊢
  rw[lk]
  refine jab (fun hlt=>?_) fun hge=>?_
  ·have hb:=juw (n:=s'.1.length) (f:=rkF q) i.toNat
   have hk:=jkt (n:=s'.1.length) (f:=rkF q) (i:=i.toNat) (by omega)
   rw[show((i.toNat:Nat):Int)=i by omega] at hk
   have hst:=j1t (n:=s'.1.length) (f:=rkF q) i1
   have kb:=jux (n:=s'.1.length) (f:=rkF q) (i:=i)
   rw[hk]
   refine jaa (jap (by omega) (by omega)) (jab (fun g=>by omega) fun g=>?_)
   refine jaa (jah (by omega) (by omega)) (jaa (jap (by omega) (by omega)) (jaa (jah (by omega) (by omega)) (jaa (jah (by omega) (by omega)) (jaa (jah (by omega) (by omega)) (jaa (jah (by omega) (by omega)) (ih _ ⟨by simp only;omega,by simp only;omega,?_⟩ (by simp only;omega)))))))
   simp only
   rw[hst,i3];omega
  ·refine jaa (jah (by omega) (by omega)) ?_
   have zz:z=jho (jud s'.1.length (rkF q)) 0 s'.1.length:=by rw[i3,show i.toNat=s'.1.length by omega]
   rw[←zz] at tt ⊢
   rw[show jdn fuel ((s'.1,jku s'.1.length (rkF q)),((s'.1.length:Nat):Int)-1)=_ from jrc hK,Option.bind_some,if_pos (by simp only;omega)]
   have e0:sc s'.1.length (((s'.1.length:Nat):Int)-1)=0:=by unfold sc;rw[if_neg (by omega)]
   have ck:=kbf h x2 x3
   dsimp only
   rw[e0,Int.toNat_zero,jq5,jq5]
   rw[ck,Option.bind_some]
   refine jab (fun _=>?_) fun g=>absurd (by first | trivial | rfl) g
   refine jab (fun _=>?_) fun g=>absurd (by first | trivial | rfl) g
   refine jab (fun _=>?_) fun g=>jab (fun _=>?_) fun g2=>?_
   ·refine jab (fun _=>?_) fun g=>absurd (by first | trivial | rfl) g
    exact jab (fun _=>fin) fun g=>absurd (by first | trivial | rfl) g
   ·refine jab (fun _=>?_) fun g=>absurd (by first | trivial | rfl) g
    exact jab (fun _=>fin) fun g=>absurd (by first | trivial | rfl) g
   ·rcases tt with t | t
    ·exact absurd t g
    ·exact absurd t g2
 ·refine jab (fun g=>?_) fun g=>hj _ ⟨rfl,hp,fun c=>g (he.1 c)⟩
  obtain⟨W,hW⟩:=jso h h8
  rw[show jcs fuel (s.1,s.2)=_ from jpe h h8 hW,Option.bind_some]
  by_cases eW:W=[]
  ·rw[if_pos eW]
   exact jab (fun _=>fin) fun g=>absurd (by decide) g
  ·rw[if_neg eW]
   have hm:W.getD 0 []∈W:=by
    cases W with
    | nil=>exact absurd rfl eW
    | cons a t=>exact List.mem_cons_self
   have wv:=((hW.mem _).1 hm).vp
   exact jab (fun g=>absurd rfl g) fun _=>hj _ ⟨rfl,wv.ord,wv.nc⟩
end X
end Go.Vm
namespace Go.Vm
namespace X
open W Go.Proofs.St
def kol (k:Nat) (p:List Nat):List (List Nat):=(List.range (k+1)).map fun a=>p.take a++k::p.drop a
def rkN (x:Nat):List Nat→Nat
 | []=>0
 | y::l=>bif Nat.beq x y then 0 else rkN x l+1
def btw (a b c:Nat):Bool:=bif Nat.blt a b then(Nat.blt a c&&Nat.blt c b) else(Nat.blt b c&&Nat.blt c a)
def xg (u v:Nat×Nat):Bool:=(btw u.1 u.2 v.1) != (btw u.1 u.2 v.2)
def kjf:List Nat→List (Nat×Nat)
 | a::b::l=>(a,b)::kjf l
 | _=>[]
def jpv:List (Nat×Nat)→Bool
 | []=>true
 | u::l=>(l.all fun v=> !xg u v)&&jpv l
def okR (n k:Nat) (r:List Nat):Bool:=jpv (kjf r)&&jpv (kjf (bif Nat.beq n k then r.tail++r.take 1 else r.tail))
def okN (n k:Nat) (p:List Nat):Bool:=okR n k ((List.range k).map fun x=>rkN x p)
def jvk (n:Nat):Nat→List (List Nat)
 | 0=>[[]]
 | k+1=>(jvk n k).flatMap fun p=>(kol k p).filter (okN n (k+1))
theorem knz:(jvk 2 2).length=2:=by kernel_rfl
theorem kny:(jvk 4 4).length=8:=by kernel_rfl
theorem knx:(jvk 6 6).length=48:=by kernel_rfl
theorem knw:(jvk 8 8).length=336:=by kernel_rfl
theorem jtj {a b:Nat}:Nat.blt a b=true↔a<b:=by
 unfold Nat.blt
 rw[Nat.ble_eq]
 exact Iff.rfl
theorem kco {a b c:Nat} (h:a≠b):btw a b c=true↔min a b<c∧c<max a b:=by
 unfold btw
 cases g:Nat.blt a b with
 | true=>
   have:=jtj.1 g
   rw[cond_true,Bool.and_eq_true,jtj,jtj]
   omega
 | false=>
   have:¬a<b:=fun c=>by rw[jtj.2 c] at g;cases g
   rw[cond_false,Bool.and_eq_true,jtj,jtj]
   omega
theorem kjn {a b c d:Nat} (h:a≠b):xg (a,b) (c,d)=false↔((min a b<c∧c<max a b)↔(min a b<d∧d<max a b)):=by
 rw[←kco h,←kco h]
 show((btw a b c) != (btw a b d))=false↔_
 cases btw a b c<;>cases btw a b d<;>simp
theorem jv9:∀ {l:List (Nat×Nat)},jpv l=true↔l.Pairwise fun u v=>xg u v=false
 | []=>by simp[jpv]
 | u::l=>by
   rw[jpv,Bool.and_eq_true,List.pairwise_cons,jv9,List.all_eq_true]
   simp
theorem ka1:∀(r:List Nat),kjf r=(List.range (r.length / 2)).map fun m=>(r.getD (2*m) 0,r.getD (2*m+1) 0)
 | []=>rfl
 | [a]=>by
   rw[show [a].length / 2=0 by simp];rfl
 | a::b::l=>by
   rw[kjf,ka1 l,show(a::b::l).length / 2=l.length / 2+1 by simp only[List.length_cons];omega,List.range_succ_eq_map,List.map_cons,List.map_map]
   rfl
theorem kfy {r:List Nat}:jpv (kjf r)=true↔∀a b:Nat,a<b→2*b+1<r.length→xg (r.getD (2*a) 0,r.getD (2*a+1) 0) (r.getD (2*b) 0,r.getD (2*b+1) 0)=false:=by
 rw[jv9,ka1,List.pairwise_map,List.pairwise_iff_getElem]
 simp only[List.length_range,List.getElem_range]
 exact⟨fun h a b hab hb=>h a b (by omega) (by omega) hab,fun h a b ha hb hab=>h a b hab (by omega)⟩
def XOK (n k:Nat) (f:Nat→Nat):Prop:=∀x y:Nat,x<y→y<k→x%2=y%2→(y+1<k∨k=n)→xg (f x,f (x+1)) (f y,f (nx n y))=false
theorem khi {n k:Nat} (hk:k≤n) (he:n%2=0) {f:Nat→Nat}:okR n k ((List.range k).map f)=true↔XOK n k f:=by
 have gr:∀m,m<k→((List.range k).map f).getD m 0=f m:=fun m hm=>by simp[List.getD,List.getElem?_range hm]
 have lr:((List.range k).map f).length=k:=by simp
 have tl:∀m,m+1<k→((List.range k).map f).tail.getD m 0=f (m+1):=fun m hm=>by
  rw[←gr (m+1) hm,List.getD,List.getD,List.getElem?_tail]
 have ltl:((List.range k).map f).tail.length=k-1:=by simp
 generalize (List.range k).map f=r at gr lr tl ltl
 unfold okR
 rw[Bool.and_eq_true,kfy,kfy,lr]
 by_cases e:n=k
 ·subst e
  rw[show Nat.beq n n=true by simp,cond_true]
  have lt:(r.tail++r.take 1).length=n:=by
   rw[List.length_append,ltl,List.length_take];omega
  have gt:∀m,m<n→(r.tail++r.take 1).getD m 0=f (nx n m):=fun m hm=>by
   unfold nx
   by_cases c:m+1<n
   ·rw[if_pos c,←tl m c,List.getD,List.getD,List.getElem?_append_left (by omega)]
   ·rw[if_neg c,←gr 0 (by omega),List.getD,List.getD,List.getElem?_append_right (by omega),ltl,show m-(n-1)=0 by omega,List.getElem?_take,if_pos (by omega)]
  rw[lt]
  constructor
  ·rintro ⟨h1,h2⟩ x y hxy hy hp _
   rcases Nat.mod_two_eq_zero_or_one x with c | c
   ·have:=h1 (x / 2) (y / 2) (by omega) (by omega)
    rw[gr _ (by omega),gr _ (by omega),gr _ (by omega),gr _ (by omega),show 2* (x / 2)=x by omega,show 2* (y / 2)=y by omega] at this
    unfold nx
    rw[if_pos (by omega)]
    exact this
   ·have:=h2 (x / 2) (y / 2) (by omega) (by omega)
    rw[gt _ (by omega),gt _ (by omega),gt _ (by omega),gt _ (by omega)] at this
    rw[show nx n (2* (x / 2))=x by unfold nx;rw[if_pos (by omega)];omega,show nx n (2* (y / 2))=y by unfold nx;rw[if_pos (by omega)];omega,show 2* (x / 2)+1=x by omega,show 2* (y / 2)+1=y by omega] at this
    rw[show nx n x=x+1 by unfold nx;rw[if_pos (by omega)]] at this
    exact this
  ·intro h
   refine⟨fun a b hab hb=>?_,fun a b hab hb=>?_⟩
   ·rw[gr _ (by omega),gr _ (by omega),gr _ (by omega),gr _ (by omega)]
    have:=h (2*a) (2*b) (by omega) (by omega) (by omega) (.inr rfl)
    rw[show nx n (2*b)=2*b+1 by unfold nx;rw[if_pos (by omega)]] at this
    exact this
   ·rw[gt _ (by omega),gt _ (by omega),gt _ (by omega),gt _ (by omega)]
    have:=h (2*a+1) (2*b+1) (by omega) (by omega) (by omega) (.inr rfl)
    rw[show nx n (2*a)=2*a+1 by unfold nx;rw[if_pos (by omega)],show nx n (2*b)=2*b+1 by unfold nx;rw[if_pos (by omega)],show nx n (2*a+1)=2*a+1+1 by unfold nx;rw[if_pos (by omega)]]
    exact this
 ·rw[show Nat.beq n k=false by rw[jac,decide_eq_false e],cond_false,ltl]
  constructor
  ·rintro ⟨h1,h2⟩ x y hxy hy hp hq
   have hy1:y+1<k:=by omega
   rw[show nx n y=y+1 by unfold nx;rw[if_pos (by omega)]]
   rcases Nat.mod_two_eq_zero_or_one x with c | c
   ·have:=h1 (x / 2) (y / 2) (by omega) (by omega)
    rw[gr _ (by omega),gr _ (by omega),gr _ (by omega),gr _ (by omega),show 2* (x / 2)=x by omega,show 2* (y / 2)=y by omega] at this
    exact this
   ·have:=h2 (x / 2) (y / 2) (by omega) (by omega)
    rw[tl _ (by omega),tl _ (by omega),tl _ (by omega),tl _ (by omega),show 2* (x / 2)+1=x by omega,show 2* (y / 2)+1=y by omega] at this
    exact this
  ·intro h
   refine⟨fun a b hab hb=>?_,fun a b hab hb=>?_⟩
   ·rw[gr _ (by omega),gr _ (by omega),gr _ (by omega),gr _ (by omega)]
    have:=h (2*a) (2*b) (by omega) (by omega) (by omega) (.inl (by omega))
    rw[show nx n (2*b)=2*b+1 by unfold nx;rw[if_pos (by omega)]] at this
    exact this
   ·rw[tl _ (by omega),tl _ (by omega),tl _ (by omega),tl _ (by omega)]
    have:=h (2*a+1) (2*b+1) (by omega) (by omega) (by omega) (.inl (by omega))
    rw[show nx n (2*b+1)=2*b+1+1 by unfold nx;rw[if_pos (by omega)]] at this
    exact this
def zL (p:List Nat):List Int:=p.map Int.ofNat
theorem jvt (x:Nat):∀p:List Nat,rkF (zL p) (x:Int)=(rkN x p:Nat)
 | []=>rfl
 | y::l=>by
   have ih:=jvt x l
   unfold rkF zL at ih ⊢
   rw[List.map_cons,List.idxOf_cons,rkN]
   by_cases e:x=y
   ·subst e
    rw[show Nat.beq x x=true by simp,cond_true]
    rw[show((Int.ofNat x)==((x:Nat):Int))=true by simp]
    rfl
   ·rw[show Nat.beq x y=false by rw[jac,decide_eq_false e],cond_false,show((Int.ofNat y)==((x:Nat):Int))=false by simp;omega]
    simp only[cond_false]
    omega
theorem kbz {k a:Nat} {p:List Nat}:zL (p.take a++k::p.drop a)=(zL p).take a++[(k:Int)]++(zL p).drop a:=by
 unfold zL
 rw[List.map_append,List.map_cons,List.map_take,List.map_drop,List.append_assoc]
 rfl
theorem jus {n:Nat}:∀ {k:Nat} {p:List Nat},p∈jvk n k→Ord k (zL p)
 | 0,p,h=>by simp[jvk] at h;subst h;exact List.Perm.refl _
 | k+1,p,h=>by
   obtain⟨q,hq,h⟩:=List.mem_flatMap.1 h
   obtain⟨a,_,rfl⟩:=List.mem_map.1 (List.mem_filter.1 h).1
   have ho:=jus hq
   unfold Ord
   rw[kbz,jr0]
   refine List.Perm.trans ?_ (List.Perm.append_right [(k:Int)] ho)
   rw[List.append_assoc]
   refine List.Perm.trans (List.Perm.append_left _ List.perm_append_comm) ?_
   rw[←List.append_assoc,List.take_append_drop]
def jd1 (n:Nat):List Int×List Int:=(List.replicate n 1,List.replicate n 3)
section
variable {n:Nat} (h2:2≤n) (h8:n≤8) (he:n%2=0)
include h2 h8 he
theorem j96 {i:Nat} (hi:i≤n):eR (jd1 n).1 i=((i%2:Nat):Int):=by
 induction i with
 | zero=>rfl
 | succ i ih=>
   have g:(jd1 n).1.getD i 0=1:=by simp[jd1,List.getD,List.getElem?_replicate,show i<n by omega]
   rcases Nat.mod_two_eq_zero_or_one i with c | c
   ·rw[jno c,ih (by omega),g];omega
   ·rw[jr5 c,ih (by omega),g];omega
theorem jx9:RValid (jd1 n):=by
 have hl:(jd1 n).1.length=n:=by simp[jd1]
 refine⟨by omega,by omega,by omega,by simp[jd1],fun x hx=>?_,fun x hx=>?_,?_⟩
 ·have:=List.eq_of_mem_replicate hx;omega
 ·have:=List.eq_of_mem_replicate hx;omega
 ·rw[hl,j96 h2 h8 he (Nat.le_refl n)];omega
theorem jqx {i:Nat} (hi:i≤n):(ja9 (jd1 n).1).getD i 0=((i%2:Nat):Int):=by
 rw[jea (by simp[jd1];exact hi)]
 exact j96 h2 h8 he hi
theorem kdo {i k:Nat} (hi:i<n) (hk:k<n):ovl (ja9 (jd1 n).1) i k=true:=by
 rw[j83,frm,too,frm,too,jqx h2 h8 he (show i≤n by omega),jqx h2 h8 he (show i+1≤n by omega),jqx h2 h8 he (show k≤n by omega),jqx h2 h8 he (show k+1≤n by omega)]
 omega
omit h2 h8 he in
theorem ko7 {u w v z:Int} (d1:u≠v) (d2:u≠z) (d3:w≠v) (d4:w≠z) (h:(min v z<u∧u<max v z)↔(min v z<w∧w<max v z)):(min u w<v∧v<max u w)↔(min u w<z∧z<max u w):=by
 rcases Int.le_total u w with a | a
 ·rw[Int.min_eq_left a,Int.max_eq_right a]
  rcases Int.le_total v z with b | b
  ·rw[Int.min_eq_left b,Int.max_eq_right b] at h;omega
  ·rw[Int.min_eq_right b,Int.max_eq_left b] at h;omega
 ·rw[Int.min_eq_right a,Int.max_eq_left a]
  rcases Int.le_total v z with b | b
  ·rw[Int.min_eq_left b,Int.max_eq_right b] at h;omega
  ·rw[Int.min_eq_right b,Int.max_eq_left b] at h;omega
theorem jya {f:Int→Int} (hinj:∀x y:Nat,x<n→y<n→f x=f y→x=y):¬jdz (ja9 (jd1 n).1) n f↔∀x y:Nat,x<y→y<n→x%2=y%2→(jk8 n f x y↔jk8 n f x (nx n y:Nat)):=by
 have en:∀i:Nat,i≤n→(ja9 (jd1 n).1).getD i 0=((i%2:Nat):Int):=fun i hi=>jqx h2 h8 he hi
 constructor
 ·intro hc x y hxy hy hp
  refine Classical.byContradiction fun hh=>hc ⟨x,by omega,by omega,.inr ⟨y,by omega,by omega,by omega,?_,?_,by rw[joq];exact hh⟩⟩
  ·rw[Int.toNat_natCast,Int.toNat_natCast,en _ (by omega),en _ (by omega)];omega
  ·rw[Int.toNat_natCast,Int.toNat_natCast,en _ (by omega),en _ (by omega),en _ (by omega)];omega
 ·rintro hh ⟨i,i0,i1,hc⟩
  rcases hc with⟨j,j0,j1,e1,e2,_⟩ | ⟨j,j0,j1,e1,e2,e3,e5⟩
  ·unfold frm at e1
   unfold too at e2
   rw[en _ (by omega),en _ (by omega),en _ (by omega)] at e1
   rw[en _ (by omega),en _ (by omega),en _ (by omega)] at e2
   omega
  ·rw[en _ (by omega),en _ (by omega)] at e2
   obtain⟨x,rfl⟩:∃x:Nat,i=x:=⟨i.toNat,by omega⟩
   obtain⟨y,rfl⟩:∃y:Nat,j=y:=⟨j.toNat,by omega⟩
   simp only[Int.toNat_natCast] at e2
   have nn:∀m:Nat,m<n→nx n m<n∧nx n m≠m∧(nx n m)%2≠m%2:=fun m hm=>by unfold nx;split<;>omega
   rw[joq] at e5
   rcases Nat.lt_or_ge x y with g | g
   ·exact e5 (hh x y g (by omega) (by omega))
   ·have h1:=hh y x (by omega) (by omega) (by omega)
    have a1:=nn x (by omega);have a2:=nn y (by omega)
    have d1:f x≠f y:=fun c=>by have:=hinj x y (by omega) (by omega) c;omega
    have d2:f x≠f (nx n y:Nat):=fun c=>by have:=hinj x _ (by omega) a2.1 c;omega
    have d3:f (nx n x:Nat)≠f y:=fun c=>by have:=hinj _ y a1.1 (by omega) c;omega
    have d4:f (nx n x:Nat)≠f (nx n y:Nat):=fun c=>by
     have:=hinj _ _ a1.1 a2.1 c
     unfold nx at this
     split at this<;>split at this<;>omega
    have d5:f x≠f (nx n x:Nat):=fun c=>by have:=hinj x _ (by omega) a1.1 c;omega
    have d6:f y≠f (nx n y:Nat):=fun c=>by have:=hinj y _ (by omega) a2.1 c;omega
    unfold jk8 at h1 e5
    rw[joq] at h1 e5
    exact e5 (ko7 d1 d2 d3 d4 h1)
theorem kbi {k:Nat} (hk:k≤n) {p:List Nat} (hp:Ord k (zL p)) {g:Int→Int} (hg:∀x y:Nat,x<k→y<k→(rkF (zL p) x<rkF (zL p) y↔g x<g y)):
  okN n k p=true↔∀x y:Nat,x<y→y<k→x%2=y%2→(y+1<k∨k=n)→(min (g x) (g ((x+1:Nat):Int))<g y∧g y<max (g x) (g ((x+1:Nat):Int))↔min (g x) (g ((x+1:Nat):Int))<g (nx n y:Nat)∧g (nx n y:Nat)<max (g x) (g ((x+1:Nat):Int))):=by
 unfold okN
 rw[khi hk he (f:=fun x=>rkN x p)]
 have hz:∀x y:Nat,x<k→y<k→(rkN x p<rkN y p↔g x<g y):=fun x y hx hy=>by
  rw[←hg x y hx hy,jvt,jvt];omega
 have hd:∀x y:Nat,x<k→y<k→rkN x p=rkN y p→x=y:=fun x y hx hy e=>by
  have:=jim (hp.mem hx) (hp.mem hy) (by rw[jvt,jvt,e])
  omega
 have key:∀x y:Nat,x<y→y<k→x%2=y%2→(y+1<k∨k=n)→(xg (rkN x p,rkN (x+1) p) (rkN y p,rkN (nx n y) p)=false↔(min (g x) (g ((x+1:Nat):Int))<g y∧g y<max (g x) (g ((x+1:Nat):Int))↔min (g x) (g ((x+1:Nat):Int))<g (nx n y:Nat)∧g (nx n y:Nat)<max (g x) (g ((x+1:Nat):Int)))):=fun x y hxy hy hp' hq=>by
  have hx1:x+1<k:=by omega
  have hny:nx n y<k:=by
   unfold nx
   rcases hq with c | c
   ·split<;>omega
   ·split<;>omega
  rw[kjn fun c=>by have:=hd x (x+1) (by omega) hx1 c;omega]
  have a1:=hz x y (by omega) hy;have a2:=hz y x hy (by omega);have a3:=hz (x+1) y hx1 hy;have a4:=hz y (x+1) hy hx1
  have b1:=hz x _ (by omega) hny;have b2:=hz _ x hny (by omega);have b3:=hz (x+1) _ hx1 hny;have b4:=hz _ (x+1) hny hx1
  generalize rkN x p=u0 at *
  generalize rkN (x+1) p=u1 at *
  generalize rkN y p=v0 at *
  generalize rkN (nx n y) p=v1 at *
  generalize g x=w0 at *
  generalize g ((x+1:Nat):Int)=w1 at *
  generalize g y=z0 at *
  generalize g (nx n y:Nat)=z1 at *
  have e1:(min u0 u1<v0∧v0<max u0 u1)↔(min w0 w1<z0∧z0<max w0 w1):=by
   clear b1 b2 b3 b4;omega
  have e2:(min u0 u1<v1∧v1<max u0 u1)↔(min w0 w1<z1∧z1<max w0 w1):=by
   clear a1 a2 a3 a4 e1;omega
  rw[e1,e2]
 exact⟨fun h x y a b c d=>(key x y a b c d).1 (h x y a b c d),fun h x y a b c d=>(key x y a b c d).2 (h x y a b c d)⟩
theorem j6m {q:List Int} (hq:VPile (jd1 n) q):∀k,k≤n→∃p,p∈jvk n k∧zL p=jsv k q
 | 0,_=>⟨[],by simp[jvk],by
   have ho:=hq.ord
   rw[j2d ho];rfl⟩
 | k+1,hk=>by
   have ho:Ord n q:=by have:=hq.ord;rwa[show(jd1 n).1.length=n by simp[jd1]] at this
   obtain⟨p,hp,e⟩:=j6m hq k (by omega)
   obtain⟨a,ha,e2⟩:=j2e ho (k:=k) (by omega)
   refine⟨p.take a++k::p.drop a,List.mem_flatMap.2 ⟨p,hp,List.mem_filter.2 ⟨List.mem_map.2 ⟨a,List.mem_range.2 (by omega),rfl⟩,?_⟩⟩,by rw[kbz,e,e2]⟩
   have ez:zL (p.take a++k::p.drop a)=jsv (k+1) q:=by rw[kbz,e,e2]
   have hc:=hq.nc
   rw[show(jd1 n).1.length=n by simp[jd1]] at hc
   rw[jya h2 h8 he fun x y hx hy ee=>by have:=jim (ho.mem hx) (ho.mem hy) ee;omega] at hc
   rw[kbi h2 h8 he hk (by rw[ez];exact juu ho hk) (g:=rkF q) (fun x y hx hy=>by rw[ez];exact kfw ho hk (by omega) (by omega) (by omega) (by omega))]
   intro x y a1 a2 a3 a4
   have:=hc x y a1 (by omega) a3
   unfold jk8 at this
   rw[joq,show nx n x=x+1 by unfold nx;rw[if_pos (by omega)]] at this
   exact this
theorem kgv {p:List Nat} (hp:p∈jvk n n):VPile (jd1 n) (zL p):=by
 have hl:(jd1 n).1.length=n:=by simp[jd1]
 have ho:=jus hp
 refine⟨by rw[hl];exact ho,?_,?_⟩
 ·rw[hl,jya h2 h8 he fun x y hx hy ee=>by have:=jim (ho.mem hx) (ho.mem hy) ee;omega]
  obtain⟨m,rfl⟩:∃m,n=m+1:=⟨n-1,by omega⟩
  obtain⟨q,hq,h⟩:=List.mem_flatMap.1 hp
  have:=(kbi h2 h8 he (Nat.le_refl _) ho (g:=rkF (zL p)) (fun x y _ _=>Iff.rfl)).1 (List.mem_filter.1 h).2
  intro x y a1 a2 a3
  have:=this x y a1 a2 a3 (.inr rfl)
  unfold jk8
  rw[joq,show nx (m+1) x=x+1 by unfold nx;rw[if_pos (by omega)]]
  exact this
 ·rw[hl]
  rintro ⟨i,i0,i1,e1,_⟩
  exact e1 (by simp[jd1,List.getD,List.getElem?_replicate,show i.toNat<n by omega])
theorem kdn {p:List Int} (hp:VPile (jd1 n) p):Way (jd1 n) p:=by
 have hl:(jd1 n).1.length=n:=by simp[jd1]
 have hv:=jx9 h2 h8 he
 obtain⟨l,_,l1,l2⟩:=jby hv hp.ord
 have hs:=l2.same hp.ord l1
 have hlo:=l2.ord l1
 have ho:=hp.ord
 rw[hl] at hs hlo ho
 have e:p=l:=by
  have pw:p.Pairwise fun a b=>rkF l a<rkF l b:=by
   have:=(j6w ho.nodup)
   rw[List.pairwise_iff_getElem] at this ⊢
   intro i j hi hj hij
   have m1:=ho.in _ (List.getElem_mem hi)
   have m2:=ho.in _ (List.getElem_mem hj)
   exact(hs.all ho hlo m1.1 m1.2 m2.1 m2.2 (kdo h2 h8 he (by omega) (by omega))).1 (this i j hi hj hij)
  have sb:=jd3 (f:=rkF l) (j6w hlo.nodup) pw fun x hx=>hlo.memI (ho.in x hx).1 (ho.in x hx).2
  exact sb.eq_of_length (by rw[ho.len,hlo.len])
 exact⟨hp,by rw[←e] at l2;exact l2⟩
theorem jye:∀k,k≤n→(jvk n k).Nodup
 | 0,_=>by simp[jvk]
 | k+1,hk=>by
   have ih:=jye k (by omega)
   have mem:∀p∈jvk n k,∀x∈p,x<k:=fun p hp x hx=>by
    have:=(jus hp).in x (List.mem_map.2 ⟨x,hx,rfl⟩)
    omega
   have flt:∀p∈jvk n k,∀y∈(kol k p).filter (okN n (k+1)),(y.filter fun x=>x != k)=p:=fun p hp y hy=>by
    obtain⟨a,_,rfl⟩:=List.mem_map.1 (List.mem_filter.1 hy).1
    rw[List.filter_append,List.filter_cons,if_neg (by simp)]
    have f1:(p.take a).filter (fun x=>x != k)=p.take a:=List.filter_eq_self.2 fun x hx=>by have:=mem p hp x (List.mem_of_mem_take hx);simp;omega
    have f2:(p.drop a).filter (fun x=>x != k)=p.drop a:=List.filter_eq_self.2 fun x hx=>by have:=mem p hp x (List.mem_of_mem_drop hx);simp;omega
    rw[f1,f2,List.take_append_drop]
   rw[jvk,List.Nodup,List.pairwise_flatMap]
   refine⟨fun p hp=>List.Pairwise.filter _ ?_,?_⟩
   ·unfold kol
    rw[List.pairwise_map]
    have hl:p.length=k:=by have:=(jus hp).len;rwa[zL,List.length_map] at this
    have:(List.range (k+1)).Pairwise fun a b=>a<b∧b<k+1:=by
     rw[List.pairwise_iff_getElem]
     intro i j hi hj hij
     simp at hi hj
     simp[hij,hj]
    refine this.imp fun {a b} ⟨hab,hb⟩ e=>?_
    have g:=congrArg (fun l:List Nat=>l[a]?) e
    rw[List.getElem?_append_right (by simp;omega),List.getElem?_append_left (by simp;omega)] at g
    rw[List.length_take,show a-min a p.length=0 by omega,List.getElem?_cons_zero,List.getElem?_take,if_pos hab] at g
    have:=List.mem_of_getElem? g.symm
    have:=mem p hp k this
    omega
   ·have:(jvk n k).Pairwise fun a b=>a∈jvk n k∧b∈jvk n k∧a≠b:=by
     rw[List.pairwise_iff_getElem]
     intro i j hi hj hij
     exact⟨List.getElem_mem _,List.getElem_mem _,List.pairwise_iff_getElem.1 ih i j hi hj hij⟩
    exact this.imp fun {a b} ⟨ha,hb,hab⟩ x hx y hy e=>hab (by rw[←flt a ha x hx,←flt b hb y hy,e])
theorem j8n {L:List (List Int)} (hL:WaysL (jd1 n) L):L.length=(jvk n n).length:=by
 have hl:(jd1 n).1.length=n:=by simp[jd1]
 have nd:(jvk n n).Nodup:=jye h2 h8 he n (Nat.le_refl n)
 have ez:((jvk n n).map zL).length=(jvk n n).length:=List.length_map _
 refine Nat.le_antisymm ?_ ?_
 ·rw[←ez]
  refine jkq (hL.srt.imp fun {a b} hab e=>by rw[e,jkz] at hab;omega) fun l hl'=>?_
  have w:=(hL.mem l).1 hl'
  obtain⟨p,hp,e⟩:=j6m h2 h8 he w.vp n (Nat.le_refl n)
  have ho:=w.vp.ord
  rw[hl] at ho
  rw[j2f ho] at e
  exact List.mem_map.2 ⟨p,hp,e⟩
 ·rw[←ez]
  refine jkq ?_ fun l hl'=>?_
  ·rw[List.Nodup,List.pairwise_map]
   refine nd.imp fun {a b} hab e=>hab ?_
   unfold zL at e
   have:=congrArg (List.map Int.toNat) e
   rw[List.map_map,List.map_map] at this
   simpa[Function.comp_def] using this
  ·obtain⟨p,hp,rfl⟩:=List.mem_map.1 hl'
   exact(hL.mem _).2 (kdn h2 h8 he (kgv h2 h8 he hp))
end
end X
end Go.Vm
namespace Go.Vm
namespace X
open W Go.Proofs.St
theorem j98 (z:Int):0≤IntKind.u8.wrap z∧IntKind.u8.wrap z≤255:=by
 simp[IntKind.wrap,IntKind.bits,IntKind.signed];omega
theorem jur {n:Nat} (h2:2≤n) (h8:n≤8) (he:n%2=0):ja5 fuel (jd1 n)=some (((jvk n n).length:Int),0):=by
 have hv:=jx9 h2 h8 he
 have hl:(jd1 n).1.length≤8:=by simp[jd1];exact h8
 obtain⟨L,hL⟩:=jso hv hl
 rw[jez hv hl hL,j8n h2 h8 he hL]
theorem kbx (x:Int) (h0:0≤x) (h1:x<4):∃R,joa fuel (2* (x+1))=some (R,0)∧ja5 fuel (R.1,R.2)=some ([2,8,48,336].getD x.toNat 0,0):=by
 rcases(by omega:x=0∨x=1∨x=2∨x=3) with rfl | rfl | rfl | rfl
 ·refine⟨jd1 2,by kernel_rfl,?_⟩
  have:=jur (n:=2) (by omega) (by omega) (by omega)
  rw[knz] at this;exact this
 ·refine⟨jd1 4,by kernel_rfl,?_⟩
  have:=jur (n:=4) (by omega) (by omega) (by omega)
  rw[kny] at this;exact this
 ·refine⟨jd1 6,by kernel_rfl,?_⟩
  have:=jur (n:=6) (by omega) (by omega) (by omega)
  rw[knx] at this;exact this
 ·refine⟨jd1 8,by kernel_rfl,?_⟩
  have:=jur (n:=8) (by omega) (by omega) (by omega)
  rw[knw] at this;exact this
theorem j9c:((jdn fuel (([1,2,3,2],[1,2,3,1]),1)).bind fun r11=>bif(decide (r11.2=0)) then((jla fuel (r11.1.1,r11.1.2)).bind fun r12=>bif(decide (r12=[51,32,97,32,50,32,109,32,49,32,109,32,50])) then((ja0 fuel ()).bind fun r13=>some r13) else(some false)) else(some false))=some true:=by kernel_rfl
theorem jnc:je4 fuel ()=some true:=by
 apply Ret.eq
 unfold je4
 refine jan (Inv:=fun x:Int=>0≤x∧x≤4) (m:=fun x=>(4-x).toNat) ?_ _ _ ⟨by simp,by simp⟩ (by simp[fuel])
 rintro x rec ⟨i1,i2⟩ ih
 refine jab (fun hlt=>?_) fun hge=>?_
 ·obtain⟨R,e1,e2⟩:=kbx x i1 hlt
  refine jaa (jah (by omega) (by omega)) (jaa (jah (by omega) (by omega)) ?_)
  rw[e1,Option.bind_some]
  simp only
  rw[e2,Option.bind_some]
  exact jab (fun g=>absurd rfl g) fun _=>jab (fun g=>absurd rfl g) fun _=>jaa (jap (by omega) (by omega)) (jab (fun g=>absurd rfl g) fun _=>jaa (jah (by omega) (by omega)) (ih _ ⟨by omega,by omega⟩ (by omega)))
 ·clear ih
  refine jan (Inv:=fun x:Int×Int=>0≤x.1∧x.1≤100003∧0≤x.2∧x.2≤20) (m:=fun x=>(20-x.2).toNat) ?_ _ _ ⟨by simp,by simp,by simp,by simp⟩ (by simp[fuel])
  rintro ⟨z,n⟩ rec ⟨i1,i2,i3,i4⟩ ih
  simp only at i1 i2 i3 i4 ⊢
  refine jab (fun hlt=>?_) fun hge=>by rw[j9c];exact jaj rfl
  refine jan (Inv:=fun x:Int×(List Int×(Int×(List Int×(List Int×Int))))=>0≤x.1∧x.1≤100003∧bytes x.2.1∧0≤x.2.2.1∧x.2.2.1≤5∧bytes x.2.2.2.1∧bytes x.2.2.2.2.1∧(x.2.1.length:Int)=x.2.2.1∧(x.2.2.2.1.length:Int)=x.2.2.1∧(x.2.2.2.2.1.length:Int)=x.2.2.1∧(0≤x.2.2.2.2.2∧x.2.2.2.2.2≤255)) (m:=fun x=>(5-x.2.2.1).toNat) ?_ _ _ ⟨i1,i2,(fun x hx=>by simp at hx),by simp,by simp,(fun x hx=>by simp at hx),(fun x hx=>by simp at hx),rfl,rfl,rfl,j98 _⟩ (by simp[fuel])
  rintro ⟨w,y,k,a,b,l⟩ rec2 ⟨j1,j2,j3,j4,j5,j6,j7,j8,j9,j10,j11⟩ ih2
  simp only at j1 j2 j3 j4 j5 j6 j7 j8 j9 j10 j11 ⊢
  have wr:∀v:Int, -9223372036854775808≤v→v≤9223372036854775807→IntKind.i64.wrap v=v:=fun v h1 h2=>kb4 (jah h1 h2)
  refine jaa (by simp;omega) (jaa (jah (by omega) (by omega)) (jab (fun hlt2=>?_) fun hge2=>?_))
  ·have sn:∀(L:List Int) (v:Int),bytes L→bytes (L++[IntKind.u8.wrap v]):=fun L v h x hx=>by
    rcases List.mem_append.1 hx with g | g
    ·exact h x g
    ·simp at g;subst g;exact j98 v
   refine jaa (by simp;omega) (jaa (ja7 (by omega)) (jaa (by rw[wr _ (by omega) (by omega)];simp;omega) (jaa (ja7 (by omega)) (jaa (by rw[wr _ (by omega) (by omega)];simp;omega) (jaa (ja7 (by omega)) ?_)))))
   refine jaa (jah (by omega) (by omega)) (jaa (jah (by omega) (by omega)) (jaa (jah (by omega) (by omega)) (jaa (jah (by omega) (by omega)) (jaa (by simp;omega) (jaa (jah (by omega) (by omega)) (ih2 _ ⟨by simp only;omega,by simp only;omega,sn _ _ j3,by simp only;omega,by simp only;omega,sn _ _ j6,sn _ _ j7,by simp;omega,by simp;omega,by simp;omega,j11⟩ (by simp only;omega)))))))
  ·rw[jna j6 j7 j11 j3,Option.bind_some]
   simp only[Bool.not_true,cond_false]
   rw[jnd j6 j7 j11,Option.bind_some]
   simp only[Bool.not_true,cond_false]
   rw[ji2 j6 j7 j11 j3,Option.bind_some]
   simp only[Bool.not_true,cond_false]
   rw[jnb j6 j7 j11 j3,Option.bind_some]
   simp only[Bool.not_true,cond_false]
   refine jaa (by simp;omega) ?_
   rw[jox j6 j7 j11 (by omega),Option.bind_some]
   simp only[Bool.not_true,cond_false]
   exact jaa (jah (by omega) (by omega)) (ih _ ⟨j1,j2,by simp only;omega,by simp only;omega⟩ (by simp only;omega))
end X
end Go.Vm
