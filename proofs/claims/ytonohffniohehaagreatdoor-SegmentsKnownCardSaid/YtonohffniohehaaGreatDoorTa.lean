/-
  Segments: where the units of a sheet lie; looking for a unit by its line and its place.
  Segments: what is asked of the table of a sheet's units.
-/
import Derived.Test.YtonohffniohehaaGreatDoorQ7
set_option linter.unusedSimpArgs false
set_option linter.unusedVariables false
set_option linter.unusedSectionVars false
set_option linter.unnecessarySimpa false
namespace Go.Vm
namespace X
open W
abbrev UnT:=Int×Int
abbrev LiT:=UnT×((Int×Int)×(Int×Int))
abbrev KT:Ty:=.prod (.prod (.int .u8) (.int .i64)) (.int .i64)
abbrev VT:Ty:=.prod (.prod (.int .i64) (.int .u8)) (.int .i64)
def kbg (l:Int×Int) (p:Int) (x:LiT):Bool:=decide (x.2.1.1=l.1)&&decide (x.2.1.2=l.2)&&decide (x.2.2.1=p)
def lkT (T:List LiT) (l:Int×Int) (p:Int):Option LiT:=T.find? (kbg l p)
theorem jq0 {l:Int×Int} {p:Int} {x:LiT}:kbg l p x=true↔x.2.1=l∧x.2.2.1=p:=by
 unfold kbg
 simp only[Bool.and_eq_true,decide_eq_true_eq,Prod.ext_iff]
theorem jff {T:List LiT} {l:Int×Int} {p:Int} {x:LiT} (h:lkT T l p=some x):x∈T∧x.2.1=l∧x.2.2.1=p:=
 ⟨List.mem_of_find?_eq_some h,jq0.1 (List.find?_some h)⟩
def KeyD (T:List LiT):Prop:=T.Pairwise fun x y=>¬(x.2.1=y.2.1∧x.2.2.1=y.2.2.1)
theorem KeyD.uniq {T:List LiT} (h:KeyD T):∀ {x y:LiT},x∈T→y∈T→x.2.1=y.2.1→x.2.2.1=y.2.2.1→x=y:=by
 induction T with
 | nil=>intro x y hx;cases hx
 | cons a T ih=>
   intro x y hx hy h1 h2
   obtain⟨k1,k2⟩:=List.pairwise_cons.1 h
   rcases List.mem_cons.1 hx with e | hx'<;>rcases List.mem_cons.1 hy with e' | hy'
   ·rw[e,e']
   ·subst e;exact absurd ⟨h1,h2⟩ (k1 y hy')
   ·subst e';exact absurd ⟨h1.symm,h2.symm⟩ (k1 x hx')
   ·exact ih k2 hx' hy' h1 h2
theorem ka9 {T:List LiT} (hT:KeyD T) {x:LiT} (hx:x∈T):lkT T x.2.1 x.2.2.1=some x:=by
 cases h:lkT T x.2.1 x.2.2.1 with
 | none=>
   have:=List.find?_eq_none.1 h x hx
   exact absurd (jq0.2 ⟨rfl,rfl⟩) this
 | some y=>
   obtain⟨h1,h2,h3⟩:=jff h
   rw[hT.uniq h1 hx h2 h3]
def j4t (T:List LiT):List (((Int×Int)×Int)×((Int×Int)×Int)):=T.map fun x=>((x.2.1,x.2.2.1),(x.1,x.2.2.2))
theorem kby (a b:(Int×Int)×Int):KT.eqb a b=true↔a=b:=by
 obtain⟨⟨a1,a2⟩,a3⟩:=a
 obtain⟨⟨b1,b2⟩,b3⟩:=b
 simp only[Ty.eqb]
 by_cases h1:a1=b1
 ·by_cases h2:a2=b2
  ·simp[h1,h2]
  ·simp[h1,h2]
 ·simp[h1]
theorem jvh (l:Int×Int) (p:Int):∀T:List LiT,jd6 KT VT (l,p) (j4t T)=(lkT T l p).map fun x=>(x.1,x.2.2.2)
 | []=>rfl
 | x::T=>by
   show(bif KT.eqb (l,p) (x.2.1,x.2.2.1) then some (x.1,x.2.2.2) else jd6 KT VT (l,p) (j4t T))=_
   unfold lkT
   rw[List.find?_cons]
   by_cases h:x.2.1=l∧x.2.2.1=p
   ·have e1:KT.eqb (l,p) (x.2.1,x.2.2.1)=true:=(kby _ _).2 (by rw[h.1,h.2])
    rw[jq0.2 h,e1]
    rfl
   ·have e1:KT.eqb (l,p) (x.2.1,x.2.2.1)=false:=by
     cases hq:KT.eqb (l,p) (x.2.1,x.2.2.1) with
     | false=>rfl
     | true=>
       have:=(kby _ _).1 hq
       simp only[Prod.mk.injEq] at this
       exact absurd ⟨this.1.symm,this.2.symm⟩ h
    have e2:kbg l p x=false:=by
     cases hq:kbg l p x with
     | false=>rfl
     | true=>exact absurd (jq0.1 hq) h
    rw[e2,e1]
    exact jvh l p T
theorem j6l {k v:Ty} {x:k.den} {y:v.den}:∀ {L:List (k.den×v.den)},(∀a∈L,k.eqb x a.1=false)→jpe k v x y L=L++[(x,y)]
 | [],_=>rfl
 | a::L,h=>by
   simp only[jpe,h a (List.mem_cons_self ..),cond_false]
   rw[j6l fun b hb=>h b (List.mem_cons_of_mem _ hb)]
   rfl
theorem jkx {α:Type} (T:List α) (i:Nat) (hi:i<T.length):T.take (i+1)=T.take i++[T[i]]:=by
 rw[List.take_add_one,List.getElem?_eq_getElem hi];rfl
theorem jxy {α:Type} {T:List α} {p:α→Bool} {i:Nat} (hi:i<T.length) (h:∀x∈T.take i,p x=false) (hq:p T[i]=true):T.find? p=some T[i]:=by
 refine List.find?_eq_some_iff_getElem.2 ⟨hq,i,hi,rfl,fun j hj=>?_⟩
 rw[h T[j] (List.mem_take_iff_getElem.2 ⟨j,by omega,rfl⟩)]
 rfl
theorem koz {T:List LiT} {l:Int×Int} {p:Int} (hn:T.length≤1000000):jnq fuel (T,(l,p))=some (match lkT T l p with
  | some x=>(x.1,(x.2.2.2,1))
  | none=>((0,0),(0,0))):=by
 apply Ret.eq
 unfold jnq
 refine ja7 (fun s:Int×(Int×Int)=>∃i:Nat,s.1=(i:Int)∧i≤T.length∧s.2=(0,0)∧∀x∈T.take i,kbg l p x=false) (fun s=>T.length-s.1.toNat) ?_ fuel _ ⟨0,rfl,Nat.zero_le _,rfl,by simp⟩ (by simp only[fuel];omega)
 rintro ⟨s1,s2⟩ rec ⟨i,h1,h2,h3,h4⟩ hrec
 simp only at h1 h3 ⊢
 subst h1
 subst h3
 refine jaf (fun hlt=>?_) fun hge=>?_
 ·have hi:i<T.length:=by omega
  have hx:T.getD ((i:Int).toNat) ((0,0),((0,0),(0,0)))=T[i]:=by
   rw[Int.toNat_natCast,List.getD_eq_getElem?_getD,List.getElem?_eq_getElem hi];rfl
  have hin:inb (i:Int) T.length=true:=jeg (by omega) hlt
  rw[hx]
  have next:kbg l p T[i]=false→Ret (chk (jal ((i:Int)+1)) (rec ((i:Int)+1,0,0))) fun x=>x=(match lkT T l p with
    | some x=>(x.1,(x.2.2.2,1))
    | none=>((0,0),(0,0))):=fun hq=>by
   refine jac (jan (by omega) (by omega)) (hrec _ ⟨i+1,by simp,hi,rfl,fun x hx=>?_⟩ (by simp only;omega))
   rw[jkx T i hi,List.mem_append] at hx
   rcases hx with hx | hx
   ·exact h4 x hx
   ·rw[List.mem_singleton.1 hx];exact hq
  refine jac hin (jcr (fun hl=>jac hin (jaf (fun hp=>jac hin (jac hin (jas ?_))) fun hp=>next ?_)) fun hl=>next ?_)
  ·have hq:kbg l p T[i]=true:=by
    simp only[Bool.and_eq_true,decide_eq_true_eq] at hl
    exact jq0.2 ⟨Prod.ext hl.1 hl.2,hp⟩
   rw[show lkT T l p=some T[i] from jxy hi h4 hq]
  ·unfold kbg
   simp[hp]
  ·unfold kbg
   rw[hl];rfl
 ·have hi:i=T.length:=by omega
  subst hi
  rw[List.take_length] at h4
  have:lkT T l p=none:=List.find?_eq_none.2 fun x hx=>by rw[h4 x hx];simp
  rw[this]
  exact jas rfl
end X
end Go.Vm
namespace Go.Vm
namespace X
open W Go.Proofs.Un
def khv (T:List LiT) (n:Nat) (l:Int×Int):List LiT:=(List.range n).filterMap fun(p:Nat)=>lkT (T.filter fun x=>decide (x.2.1.1=l.1)&&decide (x.2.1.2=l.2)) l (p:Int)
def jlv (T:List LiT) (w h:Nat):List LiT:=(List.range 4).flatMap fun(k:Nat)=>(List.range (w+ (w+h)+1)).flatMap fun(c:Nat)=>khv T (2* (w+h)+1) ((k:Int)+1,(c:Int)-(w:Int))
def nxt (x y:LiT):Bool:=decide (x.2.1.1<y.2.1.1)||decide (x.2.1.1=y.2.1.1)&&(decide (x.2.1.2<y.2.1.2)||decide (x.2.1.2=y.2.1.2)&&decide (x.2.2.2≤y.2.2.1))
def kr5 (x y:UnT):Bool:=decide (x.1<y.1)||decide (x.1=y.1)&&decide (x.2<y.2)
def adj {α:Type} (r:α→α→Bool):List α→Bool
 | []=>true
 | x::l=>(match l with
   | []=>true
   | y::_=>r x y)&&adj r l
def ksg (w h:Nat) (x:LiT):Bool:=decide (1≤x.2.1.1)&&decide (x.2.1.1≤4)&&decide (-(w:Int)≤x.2.1.2)&&decide (x.2.1.2≤(w:Int)+h)&&decide (0≤x.2.2.1)&&decide (x.2.2.1<x.2.2.2)&&decide (x.2.2.2≤2* ((w:Int)+h))&&
 decide (0≤x.1.1)&&decide (x.1.1<4* (w:Int)*h)&&decide (0≤x.1.2)&&decide (x.1.2≤2)
def ksh (w h:Nat) (i:Nat):Bool:=match nbV w h i with
 | some (n,er)=>decide (er≠0)||decide (n≠((i / 3:Nat):Int))
 | none=>false
def ksf (w h:Nat) (x:LiT):Bool:=match jem fuel (((w:Int),(h:Int)),(x.1.1,x.1.2)) with
 | some n=>decide (x.1.1<n)
 | none=>false
def khx (w h:Nat) (x:LiT):Bool:=match jew fuel (((w:Int),(h:Int)),(x.1.1,x.1.2)) with
 | some r=>decide (r.1.1.1=x.2.1.1)&&decide (r.1.1.2=x.2.1.2)&&decide (r.1.2=x.2.2.1)&&decide (r.2=x.2.2.2)
 | none=>false
def pwB {α:Type} (r:α→α→Bool):List α→Bool
 | []=>true
 | x::l=>l.all (r x)&&pwB r l
def ksi (x y:LiT):Bool:= !(decide (x.2.2.1=y.2.2.1)&&(decide (x.2.1.2=y.2.1.2)&&decide (x.2.1.1=y.2.1.1)))
structure Tab (w h:Nat) (T:List LiT):Prop where
 all:jmo fuel ((w:Int),(h:Int))=some T
 un:jel fuel ((w:Int),(h:Int))=some (T.map (·.1))
 us:jhp fuel ((w:Int),(h:Int))=some (T.map (·.1),0)
 up:adj kr5 (T.map (·.1))=true
 ok:T.all (ksg w h)=true
 kd:pwB ksi T=true
 wk:adj nxt (jlv T w h)=true
 nb:(List.range (12*w*h)).all (ksh w h)=true
 rn:T.all (ksf w h)=true
 lie:T.all (khx w h)=true
end X
end Go.Vm
