/-
  Segments: where the units of a sheet lie; looking for a unit by its line and its place.
  Segments: what is asked of the table of a sheet's units.
-/
import Derived.Test.YtonohffniohehaaGreatDoorQ7
set_option linter.unusedSimpArgs false
set_option linter.unusedVariables false
set_option linter.unusedSectionVars false
set_option linter.unnecessarySimpa false
namespace Go.Vm
namespace X
open W
abbrev UnT:=Int×Int
abbrev LiT:=UnT×((Int×Int)×(Int×Int))
def isAt (l:Int×Int) (p:Int) (x:LiT):Bool:=decide (x.2.1.1=l.1)&&decide (x.2.1.2=l.2)&&decide (x.2.2.1=p)
def lkT (T:List LiT) (l:Int×Int) (p:Int):Option LiT:=T.find? (isAt l p)
theorem isAt_iff {l:Int×Int} {p:Int} {x:LiT}:isAt l p x=true↔x.2.1=l∧x.2.2.1=p:=by
 unfold isAt
 simp only[Bool.and_eq_true,decide_eq_true_eq,Prod.ext_iff]
theorem lkT_some {T:List LiT} {l:Int×Int} {p:Int} {x:LiT} (h:lkT T l p=some x):x∈T∧x.2.1=l∧x.2.2.1=p:=
 ⟨List.mem_of_find?_eq_some h,isAt_iff.1 (List.find?_some h)⟩
def KeyD (T:List LiT):Prop:=T.Pairwise fun x y=>¬(x.2.1=y.2.1∧x.2.2.1=y.2.2.1)
theorem KeyD.uniq {T:List LiT} (h:KeyD T):∀ {x y:LiT},x∈T→y∈T→x.2.1=y.2.1→x.2.2.1=y.2.2.1→x=y:=by
 induction T with
 | nil=>intro x y hx;cases hx
 | cons a T ih=>
   intro x y hx hy h1 h2
   obtain⟨k1,k2⟩:=List.pairwise_cons.1 h
   rcases List.mem_cons.1 hx with e | hx'<;>rcases List.mem_cons.1 hy with e' | hy'
   ·rw[e,e']
   ·subst e;exact absurd ⟨h1,h2⟩ (k1 y hy')
   ·subst e';exact absurd ⟨h1.symm,h2.symm⟩ (k1 x hx')
   ·exact ih k2 hx' hy' h1 h2
theorem lkT_mem {T:List LiT} (hT:KeyD T) {x:LiT} (hx:x∈T):lkT T x.2.1 x.2.2.1=some x:=by
 cases h:lkT T x.2.1 x.2.2.1 with
 | none=>
   have:=List.find?_eq_none.1 h x hx
   exact absurd (isAt_iff.2 ⟨rfl,rfl⟩) this
 | some y=>
   obtain⟨h1,h2,h3⟩:=lkT_some h
   rw[hT.uniq h1 hx h2 h3]
theorem take_get {α:Type} (T:List α) (i:Nat) (hi:i<T.length):T.take (i+1)=T.take i++[T[i]]:=by
 rw[List.take_add_one,List.getElem?_eq_getElem hi];rfl
end X
end Go.Vm
namespace Go.Vm
namespace X
open W Go.Proofs.Un
def lineL (T:List LiT) (n:Nat) (l:Int×Int):List LiT:=(List.range n).filterMap fun(p:Nat)=>lkT (T.filter fun x=>decide (x.2.1.1=l.1)&&decide (x.2.1.2=l.2)) l (p:Int)
def walkS (T:List LiT) (w h:Nat):List LiT:=(List.range 4).flatMap fun(k:Nat)=>(List.range (w+ (w+h)+1)).flatMap fun(c:Nat)=>lineL T (2* (w+h)+1) ((k:Int)+1,(c:Int)-(w:Int))
def nxt (x y:LiT):Bool:=decide (x.2.1.1<y.2.1.1)||decide (x.2.1.1=y.2.1.1)&&(decide (x.2.1.2<y.2.1.2)||decide (x.2.1.2=y.2.1.2)&&decide (x.2.2.2≤y.2.2.1))
def asc2 (x y:UnT):Bool:=decide (x.1<y.1)||decide (x.1=y.1)&&decide (x.2<y.2)
def adj {α:Type} (r:α→α→Bool):List α→Bool
 | []=>true
 | x::l=>(match l with
   | []=>true
   | y::_=>r x y)&&adj r l
def okLi (w h:Nat) (x:LiT):Bool:=decide (1≤x.2.1.1)&&decide (x.2.1.1≤4)&&decide (-(w:Int)≤x.2.1.2)&&decide (x.2.1.2≤(w:Int)+h)&&decide (0≤x.2.2.1)&&decide (x.2.2.1<x.2.2.2)&&decide (x.2.2.2≤2* ((w:Int)+h))&&
 decide (0≤x.1.1)&&decide (x.1.1<4* (w:Int)*h)&&decide (0≤x.1.2)&&decide (x.1.2≤2)
def nbOK (w h:Nat) (i:Nat):Bool:=match nbV w h i with
 | some (n,er)=>decide (er≠0)||decide (n≠((i / 3:Nat):Int))
 | none=>false
def rnOK (w h:Nat) (x:LiT):Bool:=match ref05_Neighbour fuel (((w:Int),(h:Int)),(x.1.1,x.1.2)) with
 | some n=>decide (x.1.1<n)
 | none=>false
def lieOK (w h:Nat) (x:LiT):Bool:=match segments_lies fuel (((w:Int),(h:Int)),(x.1.1,x.1.2)) with
 | some r=>decide (r.1.1.1=x.2.1.1)&&decide (r.1.1.2=x.2.1.2)&&decide (r.1.2=x.2.2.1)&&decide (r.2=x.2.2.2)
 | none=>false
def pwB {α:Type} (r:α→α→Bool):List α→Bool
 | []=>true
 | x::l=>l.all (r x)&&pwB r l
def keyN (x y:LiT):Bool:= !(decide (x.2.2.1=y.2.2.1)&&(decide (x.2.1.2=y.2.1.2)&&decide (x.2.1.1=y.2.1.1)))
structure Tab (w h:Nat) (T:List LiT):Prop where
 all:ref07_All fuel ((w:Int),(h:Int))=some T
 un:ref05_Units fuel ((w:Int),(h:Int))=some (T.map (·.1))
 us:sheets_Units fuel ((w:Int),(h:Int))=some (T.map (·.1),0)
 up:adj asc2 (T.map (·.1))=true
 ok:T.all (okLi w h)=true
 kd:pwB keyN T=true
 wk:adj nxt (walkS T w h)=true
 nb:(List.range (12*w*h)).all (nbOK w h)=true
 rn:T.all (rnOK w h)=true
 lie:T.all (lieOK w h)=true
end X
end Go.Vm
