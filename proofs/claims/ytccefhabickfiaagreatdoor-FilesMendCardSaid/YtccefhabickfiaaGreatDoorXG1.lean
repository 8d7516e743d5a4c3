/- Parts of the proof. -/
import Derived.Test.YtccefhabickfiaaGreatDoorVmWJ
set_option linter.unusedSimpArgs false
set_option linter.defProp false
set_option linter.unusedVariables false
namespace Go.Vm
namespace X
open W
inductive Ty where
 | int (k:IntKind)
 | bool
 | str
 | unit
 | prod (a b:Ty)
 | arr (n:Nat) (t:Ty)
 | sl (t:Ty)
 | slx (t:Ty)
deriving DecidableEq
@[reducible] def Ty.den:Ty->Type
  | .int _=>Int
  | .bool=>Bool
  | .str=>List Nat
  | .unit=>Unit
  | .prod a b=>a.den×b.den
  | .arr _ t=>List t.den
  | .sl t=>List t.den
  | .slx t=>List t.den
def Ty.size:Ty->Nat
 | .int _ | .bool | .str | .sl _ | .slx _=>1
 | .unit=>0
 | .prod a b=>a.size+b.size
 | .arr n t=>n*t.size
def Ty.df:(t:Ty)->t.den
 | .int _=>(0:Int)
 | .bool=>false
 | .str=>([]:List Nat)
 | .unit=>()
 | .prod a b=>(a.df,b.df)
 | .arr n t=>List.replicate n t.df
 | .sl _=>[]
 | .slx _=>[]
def Ty.agg:Ty->Bool
 | .unit | .prod _ _ | .arr _ _=>true
 | _=>false
abbrev aQ:=List (Nat×HB)
def bO {α:Type} (P:α->List AV->Prop):List α->List AV->Prop
 | [],l=>l=[]
 | x::xs,l=>∃l1 l2,l=l1++l2/\P x l1/\bO P xs l2
def jU {α:Type} (F:aQ) (z:Nat) (P:List α->List AV->Prop) (x:List α) (v:AV):Prop:=
 (x=[]/\v=.nils)\/∃b o cap l,v=.sl b o x.length cap z/\(b,HB.cells l)∈F/\(∀c,cap=some c->x.length<=c)/\o+x.length*z<=l.length/\P x ((l.drop o).take (x.length*z))
def SlX {α:Type} (F:aQ) (z:Nat) (P:List α->List AV->Prop) (x:List α) (v:AV):Prop:=
 (x=[]/\v=.nils)\/∃b o l,v=.sl b o x.length (some x.length) z/\(b,HB.cells l)∈F/\o+x.length*z<=l.length/\P x ((l.drop o).take (x.length*z))
def SlX.sl {α:Type} {F:aQ} {z:Nat} {P:List α->List AV->Prop} {x:List α} {v:AV} (h:SlX F z P x v):jU F z P x v:=by
 rcases h with h | ⟨b,o,l,h1,h2,h3,h4⟩
 ·exact .inl h
 ·exact .inr ⟨b,o,_,l,h1,h2,λc hc=>by cases hc;exact aU _,h3,h4⟩
def aX (F:aQ):(t:Ty)->t.den->List AV->Prop
 | .int k,x,l=>l=[.int k x]
 | .bool,x,l=>l=[.bool x]
 | .str,x,l=>l=[.str x]
 | .unit,_,l=>l=[]
 | .prod a b,x,l=>∃l1 l2,l=l1++l2/\aX F a x.1 l1/\aX F b x.2 l2
 | .arr n t,x,l=>List.length (α:=t.den) x=n/\bO (aX F t) x l
 | .sl t,x,l=>∃v,l=[v]/\jU F t.size (bO (aX F t)) x v
 | .slx t,x,l=>∃v,l=[v]/\SlX F t.size (bO (aX F t)) x v
def Rel (F:aQ) (t:Ty) (x:t.den) (v:AV):Prop:=
 bif t.agg then ∃l,v=.agg l/\aX F t x l else aX F t x [v]
section bO
variable {α:Type} {P:α->List AV->Prop} {z:Nat}
def jK (hP:∀x l,P x l->l.length=z):∀ {xs:List α} {l:List AV},bO P xs l->l.length=xs.length*z
 | [],l,h=>by simp only[bO] at h;subst h;simp
 | x::xs,l,h=>by
   obtain⟨l1,l2,rfl,h1,h2⟩:=h;rw[dS,hP _ _ h1,jK hP h2,dG,fU];omega
def lB {Q:α->List AV->Prop} (h:∀x l,P x l->Q x l):∀ {xs:List α} {l:List AV},bO P xs l->bO Q xs l
 | [],_,k=>k
 | _::_,_,⟨l1,l2,e,h1,h2⟩=>⟨l1,l2,e,h _ _ h1,lB h h2⟩
def tJ:∀ {xs ys:List α} {l m:List AV},bO P xs l->bO P ys m->bO P (xs++ys) (l++m)
 | [],ys,l,m,h,k=>by simp only[bO] at h;subst h;exact k
 | x::xs,ys,l,m,⟨l1,l2,e,h1,h2⟩,k=>⟨l1,l2++m,by rw[e,cD],h1,tJ h2 k⟩
def j8x {l1 l2:List AV} {n:Nat} (h:l1.length=z):(l1++l2).take ((n+1)*z)=l1++l2.take (n*z):=by
 rw[Tp,iU (by rw[h,fU];omega),h,show(n+1)*z-z=n*z by rw[fU];omega]
def ji2 {l1 l2:List AV} {n:Nat} (h:l1.length=z):(l1++l2).drop ((n+1)*z)=l2.drop (n*z):=by
 rw[qgw,sP (by rw[h,fU];omega),h,dZ,show(n+1)*z-z=n*z by rw[fU];omega]
def uM (hP:∀x l,P x l->l.length=z):∀(n:Nat) {xs:List α} {l:List AV},bO P xs l->bO P (xs.take n) (l.take (n*z))
 | 0,xs,l,_=>by simp[bO]
 | n+1,[],l,h=>by simp only[bO] at h;subst h;simp[bO]
 | n+1,x::xs,l,⟨l1,l2,e,h1,h2⟩=>by
   rw[e,j8x (hP _ _ h1)];exact⟨l1,l2.take (n*z),rfl,h1,uM hP n h2⟩
def Ic (hP:∀x l,P x l->l.length=z):∀(n:Nat) {xs:List α} {l:List AV},bO P xs l->bO P (xs.drop n) (l.drop (n*z))
 | 0,xs,l,h=>by simpa using h
 | n+1,[],l,h=>by simp only[bO] at h;subst h;simp[bO]
 | n+1,x::xs,l,⟨l1,l2,e,h1,h2⟩=>by
   rw[e,ji2 (hP _ _ h1)];exact Ic hP n h2
def qD (hP:∀x l,P x l->l.length=z):∀ {xs:List α} {l:List AV} {i:Nat} (d:α),bO P xs l->i<xs.length->P (xs.getD i d) ((l.drop (i*z)).take z)
 | [],_,i,_,_,h=>by simp at h
 | x::xs,l,0,d,⟨l1,l2,e,h1,h2⟩,_=>by
   rw[sR,fZ,e,Tp,hP _ _ h1,Tv,Fw,jQ,iU (by rw[hP _ _ h1];omega)];exact h1
 | x::xs,l,i+1,d,⟨l1,l2,e,h1,h2⟩,h=>by
   rw[e,ji2 (hP _ _ h1)];have:=qD hP d h2 (i:=i) (by simpa using h);simpa using this
def Oy (hP:∀x l,P x l->l.length=z):∀ {xs:List α} {l m:List AV} {i:Nat} {y:α},bO P xs l->i<xs.length->P y m->bO P (xs.set i y) (dQ l (i*z) m)
 | [],_,_,i,_,_,h,_=>by simp at h
 | x::xs,l,m,0,y,⟨l1,l2,e,h1,h2⟩,_,hy=>by
   refine⟨m,l2,?_,hy,h2⟩;have e1:(0*z+m.length)=l1.length:=by rw[hP _ _ h1,hP _ _ hy];omega
   rw[dQ,e1,sR,Fw,dZ,e,List.drop_left]
 | x::xs,l,m,i+1,y,⟨l1,l2,e,h1,h2⟩,h,hy=>by
   refine⟨l1,dQ l2 (i*z) m,?_,h1,Oy hP h2 (by simpa using h) hy⟩;have hl:=hP _ _ h1;have e1:(i+1)*z=l1.length+i*z:=by rw[hl,fU];omega
   rw[dQ,dQ,e,e1,Tp,iU (by omega),Nat.add_sub_cancel_left,qgw,sP (by omega),dZ,cD]
   congr 4
   omega
def Xq {x:α} {l:List AV} (h:P x l):∀n,bO P (List.replicate n x) (List.replicate n l).flatten
 | 0=>rfl
 | n+1=>⟨l,(List.replicate n l).flatten,rfl,h,Xq h n⟩
end bO
def cV {F:aQ}:∀(t:Ty) (x:t.den) (l:List AV),aX F t x l->l.length=t.size
 | .int k,x,l,h=>by simp only[aX] at h;subst h;rfl
 | .bool,x,l,h=>by simp only[aX] at h;subst h;rfl
 | .str,x,l,h=>by simp only[aX] at h;subst h;rfl
 | .unit,x,l,h=>by simp only[aX] at h;subst h;rfl
 | .prod a b,x,l,h=>by
   obtain⟨l1,l2,rfl,h1,h2⟩:=h;rw[dS,cV a _ _ h1,cV b _ _ h2];rfl
 | .arr n t,x,l,h=>by
   obtain⟨h1,h2⟩:=h;rw[jK (cV t) h2,h1];rfl
 | .sl t,x,l,h=>by obtain⟨v,rfl,_⟩:=h;rfl
 | .slx t,x,l,h=>by obtain⟨v,rfl,_⟩:=h;rfl
def Pf {α:Type} {F F':aQ} (hF:∀e∈F,e∈F') {z:Nat} {P Q:List α->List AV->Prop} (h:∀x l,P x l->Q x l) {x:List α} {v:AV} (k:jU F z P x v):jU F' z Q x v:=by
 rcases k with k | ⟨b,o,cap,l,h1,h2,h3,h4⟩
 ·exact .inl k
 ·exact .inr ⟨b,o,cap,l,h1,hF _ h2,h3,h4.1,h _ _ h4.2⟩
def Ya {α:Type} {F F':aQ} (hF:∀e∈F,e∈F') {z:Nat} {P Q:List α->List AV->Prop} (h:∀x l,P x l->Q x l) {x:List α} {v:AV} (k:SlX F z P x v):SlX F' z Q x v:=by
 rcases k with k | ⟨b,o,l,h1,h2,h3,h4⟩
 ·exact .inl k
 ·exact .inr ⟨b,o,l,h1,hF _ h2,h3,h _ _ h4⟩
def gY {F F':aQ} (hF:∀e∈F,e∈F'):∀(t:Ty) (x:t.den) (l:List AV),aX F t x l->aX F' t x l
 | .int k,x,l,h=>h
 | .bool,x,l,h=>h
 | .str,x,l,h=>h
 | .unit,x,l,h=>h
 | .prod a b,x,l,⟨l1,l2,e,h1,h2⟩=>⟨l1,l2,e,gY hF a _ _ h1,gY hF b _ _ h2⟩
 | .arr n t,x,l,⟨h1,h2⟩=>⟨h1,lB (gY hF t) h2⟩
 | .sl t,x,l,⟨v,e,h⟩=>⟨v,e,Pf hF (λ_ _=>lB (gY hF t)) h⟩
 | .slx t,x,l,⟨v,e,h⟩=>⟨v,e,Ya hF (λ_ _=>lB (gY hF t)) h⟩
def rV {α:Type} {P:α->List AV->Prop} (hP:∀x l,P x l->l.all hZ=true):∀ {xs:List α} {l:List AV},bO P xs l->l.all hZ=true
 | [],l,h=>by simp only[bO] at h;subst h;rfl
 | x::xs,l,⟨l1,l2,e,h1,h2⟩=>by rw[e,Bm,hP _ _ h1,rV hP h2];rfl
def qC {F:aQ}:∀(t:Ty) (x:t.den) (l:List AV),aX F t x l->l.all hZ=true
 | .int k,x,l,h=>by simp only[aX] at h;subst h;rfl
 | .bool,x,l,h=>by simp only[aX] at h;subst h;rfl
 | .str,x,l,h=>by simp only[aX] at h;subst h;rfl
 | .unit,x,l,h=>by simp only[aX] at h;subst h;rfl
 | .prod a b,x,l,h=>by
   obtain⟨l1,l2,rfl,h1,h2⟩:=h;rw[Bm,qC a _ _ h1,qC b _ _ h2];rfl
 | .arr n t,x,l,h=>rV (qC t) h.2
 | .sl t,x,l,h=>by
   obtain⟨v,rfl,h⟩:=h;rcases h with⟨_,rfl⟩ | ⟨b,o,cap,l,rfl,_⟩<;>rfl
 | .slx t,x,l,h=>by
   obtain⟨v,rfl,h⟩:=h;rcases h with⟨_,rfl⟩ | ⟨b,o,l,rfl,_⟩<;>rfl
def juv {F:aQ} {t:Ty} {x:t.den} {v:AV} (h:Rel F t x v):aX F t x (gD v):=by
 unfold Rel at h;cases t<;>simp only[Ty.agg,aB,aF] at h
 case unit=>obtain⟨l,rfl,h⟩:=h;exact h
 case prod a b=>obtain⟨l,rfl,h⟩:=h;exact h
 case arr n t=>obtain⟨l,rfl,h⟩:=h;exact h
 case int k=>simp only[aX,kX,mD] at h;subst h;rfl
 case bool=>simp only[aX,kX,mD] at h;subst h;rfl
 case str=>simp only[aX,kX,mD] at h;subst h;rfl
 case sl t=>
  obtain⟨v',h1,h⟩:=h;simp only[kX,mD] at h1;subst h1;rcases h with⟨e,rfl⟩ | ⟨b,o,cap,l,rfl,h2⟩
  ·exact⟨_,rfl,.inl ⟨e,rfl⟩⟩
  ·exact⟨_,rfl,.inr ⟨b,o,cap,l,rfl,h2⟩⟩
 case slx t=>
  obtain⟨v',h1,h⟩:=h;simp only[kX,mD] at h1;subst h1;rcases h with⟨e,rfl⟩ | ⟨b,o,l,rfl,h2⟩
  ·exact⟨_,rfl,.inl ⟨e,rfl⟩⟩
  ·exact⟨_,rfl,.inr ⟨b,o,l,rfl,h2⟩⟩
def jf3 {F:aQ} {t:Ty} {x:t.den} {l:List AV} (h:aX F t x l):∃v,nG t.agg l=some v/\Rel F t x v:=by
 cases t
 case unit=>exact⟨.agg l,rfl,l,rfl,h⟩
 case prod a b=>exact⟨.agg l,rfl,l,rfl,h⟩
 case arr n t=>exact⟨.agg l,rfl,l,rfl,h⟩
 case int k=>simp only[aX] at h;subst h;exact⟨_,rfl,rfl⟩
 case bool=>simp only[aX] at h;subst h;exact⟨_,rfl,rfl⟩
 case str=>simp only[aX] at h;subst h;exact⟨_,rfl,rfl⟩
 case sl t=>obtain⟨v,rfl,h⟩:=h;exact⟨v,rfl,v,rfl,h⟩
 case slx t=>obtain⟨v,rfl,h⟩:=h;exact⟨v,rfl,v,rfl,h⟩
inductive SV where
 | int (k:IntKind) (n:Int)
 | bool (b:Bool)
 | str (s:List Nat)
 | fz (t:Ty) (L:List t.den)
 | fzn (t:Ty) (L:List t.den)
 | fzx (t:Ty) (L:List t.den)
 | own (b:Nat)
 | view (b o n:Nat) (c:Option Nat) (z:Nat)
 | ag (n:Nat) (t:Ty) (L:List t.den)
 | agg (l:List SV)
 | tup (l:List SV)
 | ptr (b o:Nat)
 | eptr (b i z f:Nat)
 | aptr (b o n z i f:Nat)
 | aptr2 (b o n z i f m y j g:Nat)
 | aview (b n o m z:Nat)
 | fptr (t:Ty) (x:t.den) (f:Nat)
 | sptr (f:FuncId)
 | fn (f:FuncId) (a c:List SV)
 | tt | ff
 | nils | nilp | nilf | nili | nilm
 | err (isNil:Bool)
 | emp (z:Nat)
 | mp (b:Nat)
 | cptr (b:Nat) (f:FuncId) (k:Nat) (c:List SV)
 | nptr (b:Nat) (t:Ty) (x:t.den) (f:Nat)
inductive SB where
 | lit (l:List SV)
 | arr (t:Ty) (L:List t.den) (cap:Option Nat)
 | fix (t:Ty) (n:Nat) (L:List t.den)
 | mp (k v:Ty) (L:List (k.den×v.den))
mutual
def SV.has (n:Nat):SV->Bool
 | .own b=>b.beq n
 | .view b _ _ _ _=>b.beq n
 | .ptr b _=>b.beq n
 | .eptr b _ _ _=>b.beq n
 | .aptr b _ _ _ _ _=>b.beq n
 | .aptr2 b _ _ _ _ _ _ _ _ _=>b.beq n
 | .aview b _ _ _ _=>b.beq n
 | .agg l=>SV.hasL n l
 | .tup l=>SV.hasL n l
 | .fn _ a c=>SV.hasL n a||SV.hasL n c
 | .mp b=>b.beq n
 | .cptr b _ _ c=>b.beq n||SV.hasL n c
 | .nptr b _ _ _=>b.beq n
 | _=>false
def SV.hasL (n:Nat):List SV->Bool
 | []=>false
 | a::l=>SV.has n a||SV.hasL n l
end
def SB.has (n:Nat):SB->Bool
 | .lit l=>SV.hasL n l
 | _=>false
abbrev Nm:=Nat->Nat×AV
def Nm.upd (ν:Nm) (n:Nat) (x:Nat×AV):Nm:=λb=>bif Nat.beq b n then x else ν b
def Vh:AV->Bool
 | .nils | .sl _ _ _ _ _=>true
 | _=>false
def Pe {α:Type} (F:aQ) (z:Nat) (P:List α->List AV->Prop) (x:List α) (v:AV):Prop:=
 ∃b o cap l,v=.sl b o x.length cap z/\(b,HB.cells l)∈F/\(∀c,cap=some c->x.length<=c)/\o+x.length*z<=l.length/\P x ((l.drop o).take (x.length*z))
def jgg {α:Type} {F F':aQ} (hF:∀e∈F,e∈F') {z:Nat} {P Q:List α->List AV->Prop} (h:∀x l,P x l->Q x l) {x:List α} {v:AV} (k:Pe F z P x v):Pe F' z Q x v:=by
 obtain⟨b,o,cap,l,h1,h2,h3,h4,h5⟩:=k;exact⟨b,o,cap,l,h1,hF _ h2,h3,h4,h _ _ h5⟩
def hlen:AV->Nat
 | .sl _ _ n _ _=>n
 | _=>0
mutual
def aJ (ν:Nm) (F:aQ):SV->AV->Prop
 | .int k n,v=>v=.int k n
 | .bool b,v=>v=.bool b
 | .str s,v=>v=.str s
 | .fz t L,v=>t.size≠0/\jU F t.size (bO (aX F t)) L v
 | .fzn t L,v=>t.size≠0/\Pe F t.size (bO (aX F t)) L v
 | .fzx t L,v=>t.size≠0/\SlX F t.size (bO (aX F t)) L v
 | .own b,v=>v=(ν b).2/\Vh v=true
 | .view b o n c z,v=>(v=.nils/\n=0/\(c=none\/c=some 0)/\(ν b).2=.nils)\/∃c',v=.sl (ν b).1 (o*z) n c' z/\(∀m,c=some m->c'=some m)/\(∀m,c'=some m->n<=m)/\∃len cap,(ν b).2=.sl (ν b).1 0 len cap z/\o+n<=len/\∀m,c'=some m->o+m<=len\/∃cp,cap=some cp/\o+m<=cp
 | .ag n t L,v=>Rel F (.arr n t) L v
 | .agg l,v=>∃m,v=.agg m/\bC ν F l m
 | .tup l,v=>∃m,v=.tup m/\bC ν F l m
 | .ptr b o,v=>v=.ptr (ν b).1 o
 | .eptr b i z f,v=>v=.ptr (ν b).1 (i*z+f)/\∃len cap,(ν b).2=.sl (ν b).1 0 len cap z/\i<len
 | .aptr b o n z i f,v=>v=.ptr (ν b).1 (o+i*z+f)/\i<n
 | .aptr2 b o n z i f m y j g,v=>v=.ptr (ν b).1 (o+i*z+f+j*y+g)/\i<n/\j<m
 | .aview b n o m z,v=>(∃c,v=.sl (ν b).1 (o*z) m (some c) z)/\o+m<=n
 | .fptr t x f,v=>∃b o l,v=.ptr b (o+f)/\(b,HB.cells l)∈F/\o+t.size<=l.length/\aX F t x ((l.drop o).take t.size)
 | .sptr f,v=>∃b,v=.ptr b 0/\(b,HB.cells [.fn (.func f) [] [.ptr b 0]])∈F
 | .fn f a c,v=>∃a' c',v=.fn (.func f) a' c'/\bC ν F a a'/\bC ν F c c'
 | .tt,v=>v=.bool true
 | .ff,v=>v=.bool false
 | .nils,v=>v=.nils
 | .nilp,v=>v=.nilp
 | .nilf,v=>v=.nilf
 | .nili,v=>v=.nili
 | .nilm,v=>v=.nilm
 | .emp z,v=>v=.nils\/∃b o l,v=.sl b o 0 (some 0) z/\(b,HB.cells l)∈F/\o<=l.length
 | .nptr b t x f,v=>v=.ptr (ν b).1 f/\∃l,((ν b).1,HB.cells l)∈F/\t.size<=l.length/\aX F t x (l.take t.size)
 | .mp b,v=>v=.mp (ν b).1
 | .cptr b f k c,v=>v=.ptr (ν b).1 0/\∃c',((ν b).1,HB.cells [.fn (.func f) [] c'])∈F/\c'[k]?=some v/\bC ν F c (c'.set k .nils)
 | .err b,v=>(b=true/\v=.nili)\/(b=false/\∃t u,v=.ifc t u)
def bC (ν:Nm) (F:aQ):List SV->List AV->Prop
 | [],m=>m=[]
 | a::l,m=>∃v m',m=v::m'/\aJ ν F a v/\bC ν F l m'
end
mutual
def nW {ν:Nm} {F F':aQ} (hF:∀e∈F,e∈F'):∀(s:SV) (v:AV),aJ ν F s v->aJ ν F' s v
 | .fz t L,v,h=>⟨h.1,Pf hF (λ_ _=>lB (gY hF t)) h.2⟩
 | .fzn t L,v,h=>⟨h.1,jgg hF (λ_ _=>lB (gY hF t)) h.2⟩
 | .fzx t L,v,h=>⟨h.1,Ya hF (λ_ _=>lB (gY hF t)) h.2⟩
 | .ag n t L,v,h=>by
   simp only[aJ,Rel,Ty.agg,aB] at h ⊢;obtain⟨l,e,h⟩:=h;exact⟨l,e,gY hF (.arr n t) _ _ h⟩
 | .agg l,v,⟨m,e,h⟩=>⟨m,e,jT hF l m h⟩
 | .tup l,v,⟨m,e,h⟩=>⟨m,e,jT hF l m h⟩
 | .fptr t x f,v,⟨b,o,l,h1,h2,h3,h4⟩=>⟨b,o,l,h1,hF _ h2,h3,gY hF t _ _ h4⟩
 | .sptr f,v,⟨b,h1,h2⟩=>⟨b,h1,hF _ h2⟩
 | .fn f a c,v,⟨a',c',e,h1,h2⟩=>⟨a',c',e,jT hF a a' h1,jT hF c c' h2⟩
 | .cptr b f k c,v,⟨e,c',h1,h2,h3⟩=>⟨e,c',hF _ h1,h2,jT hF c _ h3⟩
 | .mp _,_,h=>h
 | .nptr b t x f,v,⟨h1,l,h2,h3,h4⟩=>⟨h1,l,hF _ h2,h3,gY hF t _ _ h4⟩
 | .int _ _,_,h=>h
 | .bool _,_,h=>h
 | .str _,_,h=>h
 | .own _,_,h=>h
 | .view _ _ _ _ _,_,h=>h
 | .ptr _ _,_,h=>h
 | .eptr _ _ _ _,_,h=>h
 | .aptr _ _ _ _ _ _,_,h=>h
 | .aptr2 _ _ _ _ _ _ _ _ _ _,_,h=>h
 | .aview _ _ _ _ _,_,h=>h
 | .tt,_,h=>h
 | .ff,_,h=>h
 | .nils,_,h=>h
 | .nilp,_,h=>h
 | .nilf,_,h=>h
 | .nili,_,h=>h
 | .nilm,_,h=>h
 | .err _,_,h=>h
 | .emp z,v,h=>h.imp id fun⟨b,o,l,h1,h2,h3⟩=>⟨b,o,l,h1,hF _ h2,h3⟩
def jT {ν:Nm} {F F':aQ} (hF:∀e∈F,e∈F'):∀(s:List SV) (v:List AV),bC ν F s v->bC ν F' s v
 | [],m,h=>h
 | a::l,m,⟨v,m',e,h1,h2⟩=>⟨v,m',e,nW hF a v h1,jT hF l m' h2⟩
end
def mL {ν:Nm} {n b:Nat} {x:Nat×AV} (h:b.beq n=false):(ν.upd n x) b=ν b:=by simp only[Nm.upd,h,aF]
def eI {ν:Nm} {n:Nat} {x:Nat×AV}:(ν.upd n x) n=x:=by simp only[Nm.upd,dP,aB]
mutual
def Pd {ν:Nm} {F:aQ} {n:Nat} {x:Nat×AV}:∀(s:SV) (v:AV),s.has n=false->aJ ν F s v->aJ (ν.upd n x) F s v
 | .own b,v,hn,h=>by simp only[SV.has] at hn;simp only[aJ,mL hn] at h ⊢;exact h
 | .view b o m c z,v,hn,h=>by simp only[SV.has] at hn;simp only[aJ,mL hn] at h ⊢;exact h
 | .ptr b o,v,hn,h=>by simp only[SV.has] at hn;simp only[aJ,mL hn] at h ⊢;exact h
 | .eptr b i z f,v,hn,h=>by simp only[SV.has] at hn;simp only[aJ,mL hn] at h ⊢;exact h
 | .aptr b o m z i f,v,hn,h=>by simp only[SV.has] at hn;simp only[aJ,mL hn] at h ⊢;exact h
 | .aview b n o m z,v,hn,h=>by simp only[SV.has] at hn;simp only[aJ,mL hn] at h ⊢;exact h
 | .aptr2 b o m z i f _ _ _ _,v,hn,h=>by simp only[SV.has] at hn;simp only[aJ,mL hn] at h ⊢;exact h
 | .agg l,v,hn,⟨m,e,h⟩=>⟨m,e,qE l m hn h⟩
 | .tup l,v,hn,⟨m,e,h⟩=>⟨m,e,qE l m hn h⟩
 | .fn f a c,v,hn,⟨a',c',e,h1,h2⟩=>by
   simp only[SV.has,nK] at hn;exact⟨a',c',e,qE a a' hn.1 h1,qE c c' hn.2 h2⟩
 | .cptr b f k c,v,hn,⟨e,c',h1,h2,h3⟩=>by
   simp only[SV.has,nK] at hn;simp only[aJ,mL hn.1];exact⟨e,c',h1,h2,qE c _ hn.2 h3⟩
 | .mp b,v,hn,h=>by simp only[SV.has] at hn;simp only[aJ,mL hn] at h ⊢;exact h
 | .nptr b t x f,v,hn,h=>by simp only[SV.has] at hn;simp only[aJ,mL hn] at h ⊢;exact h
 | .fz _ _,_,_,h=>h
 | .fzn _ _,_,_,h=>h
 | .fzx _ _,_,_,h=>h
 | .ag _ _ _,_,_,h=>h
 | .fptr _ _ _,_,_,h=>h
 | .sptr _,_,_,h=>h
 | .int _ _,_,_,h=>h
 | .bool _,_,_,h=>h
 | .str _,_,_,h=>h
 | .tt,_,_,h=>h
 | .ff,_,_,h=>h
 | .nils,_,_,h=>h
 | .nilp,_,_,h=>h
 | .nilf,_,_,h=>h
 | .nili,_,_,h=>h
 | .nilm,_,_,h=>h
 | .err _,_,_,h=>h
 | .emp _,_,_,h=>h
def qE {ν:Nm} {F:aQ} {n:Nat} {x:Nat×AV}:∀(s:List SV) (v:List AV),SV.hasL n s=false->bC ν F s v->bC (ν.upd n x) F s v
 | [],m,_,h=>h
 | a::l,m,hn,⟨v,m',e,h1,h2⟩=>by
   simp only[SV.hasL,nK] at hn;exact⟨v,m',e,Pd a v hn.1 h1,qE l m' hn.2 h2⟩
end
section lists
variable {ν:Nm} {F:aQ}
def jL:∀ {l:List SV} {m:List AV},bC ν F l m->l.length=m.length
 | [],m,h=>by simp only[bC] at h;subst h;rfl
 | a::l,m,⟨v,m',e,h1,h2⟩=>by subst e;simp[jL h2]
def nX:∀ {l l':List SV} {m m':List AV},bC ν F l m->bC ν F l' m'->bC ν F (l++l') (m++m')
 | [],l',m,m',h,k=>by simp only[bC] at h;subst h;exact k
 | a::l,l',m,m',⟨v,m1,e,h1,h2⟩,k=>⟨v,m1++m',by rw[e];rfl,h1,nX h2 k⟩
def oX:∀(n:Nat) {l:List SV} {m:List AV},bC ν F l m->bC ν F (l.take n) (m.take n)
 | 0,l,m,h=>by simp[bC]
 | n+1,[],m,h=>by simp only[bC] at h;subst h;simp[bC]
 | n+1,a::l,m,⟨v,m1,e,h1,h2⟩=>by subst e;exact⟨v,m1.take n,rfl,h1,oX n h2⟩
def Xv:∀(n:Nat) {l:List SV} {m:List AV} {s:SV} {v:AV},bC ν F l m->aJ ν F s v->bC ν F (l.set n s) (m.set n v)
 | n,[],m,s,v,h,_=>by simp only[bC] at h;subst h;rfl
 | 0,a::l,m,s,v,⟨u,m1,e,h1,h2⟩,k=>by subst e;exact⟨v,m1,rfl,k,h2⟩
 | n+1,a::l,m,s,v,⟨u,m1,e,h1,h2⟩,k=>by subst e;exact⟨u,m1.set n v,rfl,h1,Xv n h2 k⟩
def nY:∀(n:Nat) {l:List SV} {m:List AV},bC ν F l m->bC ν F (l.drop n) (m.drop n)
 | 0,l,m,h=>h
 | n+1,[],m,h=>by simp only[bC] at h;subst h;simp[bC]
 | n+1,a::l,m,⟨v,m1,e,h1,h2⟩=>by subst e;exact nY n h2
def wQ:∀ {l:List SV} {m:List AV} {i:Nat} {s:SV},bC ν F l m->l[i]?=some s->∃v,m[i]?=some v/\aJ ν F s v
 | [],m,i,s,h,k=>by simp at k
 | a::l,m,0,s,⟨v,m1,e,h1,h2⟩,k=>by subst e;simp at k;subst k;exact⟨v,rfl,h1⟩
 | a::l,m,i+1,s,⟨v,m1,e,h1,h2⟩,k=>by subst e;simp only[vO] at k ⊢;exact wQ h2 k
def Xw {l s:List SV} {m v:List AV} {o:Nat} (h:bC ν F l m) (k:bC ν F s v):bC ν F (l.take o++(s++l.drop (o+s.length))) (dQ m o v):=by
 unfold dQ;rw[<-jL k];exact nX (oX _ h) (nX k (nY _ h))
end lists
def qI:(t:Ty)->t.den->List SV
 | .int k,x=>[.int k x]
 | .bool,x=>[.bool x]
 | .str,x=>[.str x]
 | .unit,_=>[]
 | .prod a b,x=>qI a x.1++qI b x.2
 | .arr n t,x=>(List.range n).flatMap λi=>qI t (List.getD (α:=t.den) x i t.df)
 | .sl t,x=>[.fz t x]
 | .slx t,x=>[.fzx t x]
def Ty.ok:Ty->Bool
 | .sl t | .slx t=> !(t.size.beq 0)&&t.ok
 | .prod a b=>a.ok&&b.ok
 | .arr _ t=>t.ok
 | _=>true
def jjy {ν:Nm} {F:aQ} {α:Type} {P:α->List AV->Prop} (d:α) (f:α->List SV) (hf:∀x l,P x l->bC ν F (f x) l):∀ {xs:List α} {l:List AV},bO P xs l->bC ν F ((List.range xs.length).flatMap λi=>f (xs.getD i d)) l
 | [],l,h=>h
 | x::xs,l,⟨l1,l2,e,h1,h2⟩=>by
   rw[e,dG,List.range_succ_eq_map,lM,List.flatMap_map];exact nX (hf _ _ h1) (jjy d f hf h2)
def uR {ν:Nm} {F:aQ}:∀(t:Ty),t.ok=true->∀(x:t.den) (l:List AV),aX F t x l->bC ν F (qI t x) l
 | .int k,_,x,l,h=>⟨_,[],h,rfl,rfl⟩
 | .bool,_,x,l,h=>⟨_,[],h,rfl,rfl⟩
 | .str,_,x,l,h=>⟨_,[],h,rfl,rfl⟩
 | .unit,_,x,l,h=>h
 | .prod a b,ht,x,l,⟨l1,l2,e,h1,h2⟩=>by
   simp only[Ty.ok,aN] at ht;rw[e];exact nX (uR a ht.1 _ _ h1) (uR b ht.2 _ _ h2)
 | .arr n t,ht,x,l,⟨h1,h2⟩=>by
   have:=jjy (ν:=ν) t.df (qI t) (uR t ht) h2;rw[h1] at this;exact this
 | .sl t,ht,x,l,⟨v,e,h⟩=>by
   simp only[Ty.ok,aN,fB] at ht;refine⟨v,[],e,⟨λh0=>?_,h⟩,rfl⟩;rw[h0] at ht;exact absurd ht.1 (by decide)
 | .slx t,ht,x,l,⟨v,e,h⟩=>by
   simp only[Ty.ok,aN,fB] at ht;refine⟨v,[],e,⟨λh0=>?_,h⟩,rfl⟩;rw[h0] at ht;exact absurd ht.1 (by decide)
def qS (t:Ty) (x:t.den):SV:=match t with
 | .int k=>.int k x
 | .bool=>.bool x
 | .str=>.str x
 | .unit=>.agg []
 | .prod a b=>.agg (qI (.prod a b) x)
 | .arr n t=>.ag n t x
 | .sl t=>.fz t x
 | .slx t=>.fzx t x
def Ea {ν:Nm} {F:aQ} {t:Ty} (ht:t.ok=true) {x:t.den} {v:AV} (h:Rel F t x v):aJ ν F (qS t x) v:=by
 cases t
 case arr n t=>exact h
 case unit=>obtain⟨l,rfl,h⟩:=h;exact⟨l,rfl,h⟩
 case prod a b=>obtain⟨l,rfl,h⟩:=h;exact⟨l,rfl,uR _ ht _ _ h⟩
 case sl t=>
  obtain⟨u,e,h⟩:=h;have e':v=u:=by simpa using e
  rw[<-e'] at h;simp only[Ty.ok,aN,fB] at ht;exact⟨λh0=>by rw[h0] at ht;exact absurd ht.1 (by decide),h⟩
 case slx t=>
  obtain⟨u,e,h⟩:=h;have e':v=u:=by simpa using e
  rw[<-e'] at h;simp only[Ty.ok,aN,fB] at ht;exact⟨λh0=>by rw[h0] at ht;exact absurd ht.1 (by decide),h⟩
 case int k=>simp only[Rel,Ty.agg,aF,aX,kX,mD] at h;exact h
 case bool=>simp only[Rel,Ty.agg,aF,aX,kX,mD] at h;exact h
 case str=>simp only[Rel,Ty.agg,aF,aX,kX,mD] at h;exact h
def SV.cells:SV->List SV
 | .agg l=>l
 | .ag n t L=>bif t.ok then qI (.arr n t) L else [.ag n t L]
 | .tup _=>[.tup []]
 | v=>[v]
def SV.one:SV->Bool
 | .agg _ | .ag _ _ _ | .tup _=>false
 | _=>true
def jga {ν:Nm} {F:aQ} {s:SV} {v:AV} (hs:s.one=true) (h:aJ ν F s v):hZ v=true/\gD v=[v]:=by
 cases s<;>simp only[SV.one,reduceCtorEq] at hs<;>simp only[aJ] at h
 case fz t L=>rcases h.2 with⟨_,rfl⟩ | ⟨b,o,cap,l,rfl,_⟩<;>exact⟨rfl,rfl⟩
 case fzx t L=>rcases h.2 with⟨_,rfl⟩ | ⟨b,o,l,rfl,_⟩<;>exact⟨rfl,rfl⟩
 case fzn t L=>obtain⟨_,b,o,cap,l,rfl,_⟩:=h;exact⟨rfl,rfl⟩
 case own b=>revert h;cases v<;>simp[Vh,hZ,gD]
 case view b o n c z=>rcases h with⟨rfl,_⟩ | ⟨c',rfl,_⟩<;>exact⟨rfl,rfl⟩
 case eptr=>obtain⟨rfl,_⟩:=h;exact⟨rfl,rfl⟩
 case aptr=>obtain⟨rfl,_⟩:=h;exact⟨rfl,rfl⟩
 case aptr2=>obtain⟨rfl,_⟩:=h;exact⟨rfl,rfl⟩
 case aview=>obtain⟨⟨c,rfl⟩,_⟩:=h;exact⟨rfl,rfl⟩
 case fptr=>obtain⟨b,o,l,rfl,_⟩:=h;exact⟨rfl,rfl⟩
 case sptr=>obtain⟨b,rfl,_⟩:=h;exact⟨rfl,rfl⟩
 case nptr=>obtain⟨rfl,_⟩:=h;exact⟨rfl,rfl⟩
 case cptr=>obtain⟨rfl,_⟩:=h;exact⟨rfl,rfl⟩
 case fn=>obtain⟨a,c,rfl,_⟩:=h;exact⟨rfl,rfl⟩
 case emp z=>rcases h with rfl | ⟨b,o,l,rfl,_⟩<;>exact⟨rfl,rfl⟩
 case err b=>rcases h with⟨_,rfl⟩ | ⟨_,t,u,rfl⟩<;>exact⟨rfl,rfl⟩
 all_goals subst h;exact⟨rfl,rfl⟩
def jgd {ν:Nm} {F:aQ}:∀ {l:List SV} {m:List AV},l.all SV.one=true->bC ν F l m->m.all hZ=true
 | [],m,_,h=>by simp only[bC] at h;subst h;rfl
 | a::l,m,hs,⟨v,m',e,h1,h2⟩=>by
   simp only[vS,aN] at hs;rw[e,vS,(jga hs.1 h1).1,jgd hs.2 h2];rfl
def Xs {ν:Nm} {F:aQ} {s:SV} {v:AV} (hs:s.cells.all SV.one=true) (h:aJ ν F s v):bC ν F s.cells (gD v):=by
 cases s
 case agg l=>obtain⟨m,rfl,h⟩:=h;exact h
 case ag n t L=>
  simp only[SV.cells] at hs ⊢;cases ht:t.ok with
  | false=>rw[ht] at hs;simp[SV.one] at hs
  | true=>
    simp only[aB];exact uR (.arr n t) ht _ _ (juv (t:=.arr n t) h)
 case tup l=>simp[SV.cells,SV.one] at hs
 all_goals
  obtain⟨_,e⟩:=jga (by rfl) h;rw[e];exact⟨v,[],rfl,h,rfl⟩
end X
end Go.Vm
namespace Go.Vm
namespace X
open W
abbrev gV:=List (Nat×SV)
abbrev bE:=List (Nat×SB)
def cR:gV->Nat->Option SV
 | [],_=>none
 | (k,v)::r,n=>bif Nat.beq k n then some v else cR r n
def cL:bE->Nat->Option SB
 | [],_=>none
 | (k,v)::r,n=>bif Nat.beq k n then some v else cL r n
def mG:bE->Nat->SB->bE
 | [],_,_=>[]
 | (k,v)::r,n,x=>bif Nat.beq k n then(k,x)::r else(k,v)::mG r n x
def eM:bE->Nat->bE
 | [],_=>[]
 | (k,v)::r,n=>bif Nat.beq k n then r else(k,v)::eM r n
def rQ (x:Nat×AV) (z len:Nat) (cap:Option Nat) (sz:Option Nat):Prop:=
 (x.2=.nils/\sz=none/\len=0/\(cap=none\/cap=some 0))\/
 ∃c n,x.2=.sl x.1 0 len c z/\sz=some n/\len*z<=n/\(∀m,c=some m->m*z<=n/\len<=m)/\(∀m,cap=some m->c=some m)
def rR (F:aQ) (k v:Ty):List (k.den×v.den)->List (AV×AV)->Prop
 | [],m=>m=[]
 | x::L,m=>∃a b m',m=(a,b)::m'/\Rel F k x.1 a/\Rel F v x.2 b/\rR F k v L m'
def jf2 {F F':aQ} (hF:∀e∈F,e∈F') {t:Ty} {x:t.den} {v:AV} (h:Rel F t x v):Rel F' t x v:=by
 unfold Rel at h ⊢;cases ha:t.agg with
 | true=>rw[ha] at h;obtain⟨l,e,h⟩:=h;exact⟨l,e,gY hF t _ _ h⟩
 | false=>rw[ha] at h;exact gY hF t _ _ h
def Oq {F F':aQ} (hF:∀e∈F,e∈F') {k v:Ty}:∀ {L:List (k.den×v.den)} {m:List (AV×AV)},rR F k v L m->rR F' k v L m
 | [],_,h=>h
 | _::_,_,⟨a,b,m',e,h1,h2,h3⟩=>⟨a,b,m',e,jf2 hF h1,jf2 hF h2,Oq hF h3⟩
def dR (ν:Nm) (F:aQ) (b:Nat):SB->List Ent->Prop
 | .lit l,E=>∃w m,E=[⟨(ν b).1,w,.cells m⟩]/\bC ν F l m
 | .mp k v L,E=>∃w m,E=[⟨(ν b).1,w,.mp m⟩]/\rR F k v L m
 | .fix t n L,E=>∃w m,E=[⟨(ν b).1,w,.cells m⟩]/\List.length (α:=t.den) L=n/\bO (aX F t) L m
 | .arr t L cap,E=>t.size≠0/\(rQ (ν b) t.size (List.length (α:=t.den) L) cap none/\E=[]\/
     ∃w m,E=[⟨(ν b).1,w,.cells m⟩]/\rQ (ν b) t.size (List.length (α:=t.den) L) cap (some m.length)/\bO (aX F t) L (m.take (List.length (α:=t.den) L*t.size))/\m.all hZ=true)
def gN (ν:Nm) (F:aQ):bE->List Ent->Prop
 | [],M=>M=[]
 | (b,sb)::m,M=>∃E M',M=E++M'/\dR ν F b sb E/\gN ν F m M'
def uI {ν:Nm} {F F':aQ} (hF:∀e∈F,e∈F') {b:Nat}:∀ {sb:SB} {E:List Ent},dR ν F b sb E->dR ν F' b sb E
 | .lit l,E,⟨w,m,e,h⟩=>⟨w,m,e,jT hF _ _ h⟩
 | .mp k v L,E,⟨w,m,e,h⟩=>⟨w,m,e,Oq hF h⟩
 | .fix t n L,E,⟨w,m,e,h1,h2⟩=>⟨w,m,e,h1,lB (gY hF t) h2⟩
 | .arr t L cap,E,⟨h0,h⟩=>⟨h0,h.imp id fun⟨w,m,e,h1,h2,h3⟩=>⟨w,m,e,h1,lB (gY hF t) h2,h3⟩⟩
def Wz {ν:Nm} {F:aQ} {n:Nat} {x:Nat×AV} {b:Nat} (hb:b.beq n=false):∀ {sb:SB} {E:List Ent},sb.has n=false->dR ν F b sb E->dR (ν.upd n x) F b sb E
 | .lit l,E,hn,⟨w,m,e,h⟩=>⟨w,m,by rw[mL hb];exact e,qE _ _ hn h⟩
 | .mp k v L,E,hn,h=>by simp only[dR,mL hb] at h ⊢;exact h
 | .fix t k L,E,hn,h=>by simp only[dR,mL hb] at h ⊢;exact h
 | .arr t L cap,E,hn,h=>by simp only[dR,mL hb] at h ⊢;exact h
def zD {ν:Nm} {F F':aQ} (hF:∀e∈F,e∈F'):∀ {m:bE} {M:List Ent},gN ν F m M->gN ν F' m M
 | [],M,h=>h
 | (b,sb)::m,M,⟨E,M',e,h1,h2⟩=>⟨E,M',e,uI hF h1,zD hF h2⟩
def tP (n:Nat):bE->Bool
 | []=>false
 | (b,sb)::m=>b.beq n||sb.has n||tP n m
def Qv (n:Nat):gV->Bool
 | []=>false
 | (_,v)::r=>v.has n||Qv n r
def Oo {ν:Nm} {F:aQ} {n:Nat} {x:Nat×AV}:∀ {m:bE} {M:List Ent},tP n m=false->gN ν F m M->gN (ν.upd n x) F m M
 | [],M,_,h=>h
 | (b,sb)::m,M,hn,⟨E,M',e,h1,h2⟩=>by
   simp only[tP,nK] at hn;exact⟨E,M',e,Wz hn.1.1 hn.1.2 h1,Oo hn.2 h2⟩
def Ru {n k:Nat} {v:SV}:∀ {r:gV},Qv n r=false->cR r k=some v->v.has n=false
 | [],_,h=>by cases h
 | (j,u)::r,hn,h=>by
   simp only[Qv,nK] at hn;simp only[cR] at h;cases hj:Nat.beq j k<;>rw[hj] at h<;>simp only[aB,aF] at h
   ·exact Ru hn.2 h
   ·cases h;exact hn.1
def wM {ν:Nm} {F:aQ} {b:Nat} {sb:SB}:∀ {m:bE} {M:List Ent},gN ν F m M->cL m b=some sb->
  ∃M1 E M2,M=M1++(E++M2)/\dR ν F b sb E/\(∀sb' E',dR ν F b sb' E'->gN ν F (mG m b sb') (M1++(E'++M2)))/\gN ν F (eM m b) (M1++M2)
 | [],M,_,h=>by cases h
 | (k,v)::m,M,⟨E,M',e,h1,h2⟩,h=>by
   simp only[cL] at h;cases hk:Nat.beq k b<;>rw[hk] at h<;>simp only[aB,aF] at h
   ·obtain⟨M1,E1,M2,e1,g1,g2,g3⟩:=wM h2 h;refine⟨E++M1,E1,M2,by rw[e,e1,cD],g1,λsb' E' hb=>?_,?_⟩
    ·simp only[mG,hk,aF];exact⟨E,_,by rw[cD],h1,g2 sb' E' hb⟩
    ·simp only[eM,hk,aF];exact⟨E,_,by rw[cD],h1,g3⟩
   ·cases h;rw[aL,aH] at hk;subst hk;refine⟨[],E,M',e,h1,λsb' E' hb=>?_,?_⟩
    ·simp only[mG,dP,aB];exact⟨E',M',rfl,hb,h2⟩
    ·simp only[eM,dP,aB];exact h2
def uJ {ν:Nm} {F:aQ}:∀ {m m':bE} {M M':List Ent},gN ν F m M->gN ν F m' M'->gN ν F (m++m') (M++M')
 | [],m',M,M',h,k=>by simp only[gN] at h;subst h;exact k
 | (b,sb)::m,m',M,M',⟨E,M1,e,h1,h2⟩,k=>⟨E,M1++M',by rw[e,cD],h1,uJ h2 k⟩
def Rt {m m':bE} {b:Nat}:cL (m++m') b=match cL m b with | some x=>some x | none=>cL m' b:=by
 induction m with
 | nil=>rfl
 | cons x m ih=>
   obtain⟨k,v⟩:=x;simp only[eW,cL];cases Nat.beq k b<;>simp only[aB,aF,ih]
def Eo {m m':gV} {b:Nat}:cR (m++m') b=match cR m b with | some x=>some x | none=>cR m' b:=by
 induction m with
 | nil=>rfl
 | cons x m ih=>
   obtain⟨k,v⟩:=x;simp only[eW,cR];cases Nat.beq k b<;>simp only[aB,aF,ih]
def iE (ν:Nm) (F:aQ):bE->List (List Ent)->Prop
 | [],Ms=>Ms=[]
 | (b,sb)::m,Ms=>∃E Ms',Ms=E::Ms'/\dR ν F b sb E/\iE ν F m Ms'
def zC {ν:Nm} {F F':aQ} (hF:∀e∈F,e∈F'):∀ {m:bE} {M:List (List Ent)},iE ν F m M->iE ν F' m M
 | [],M,h=>h
 | (b,sb)::m,M,⟨E,M',e,h1,h2⟩=>⟨E,M',e,uI hF h1,zC hF h2⟩
def On {ν:Nm} {F:aQ} {n:Nat} {x:Nat×AV}:∀ {m:bE} {M:List (List Ent)},tP n m=false->iE ν F m M->iE (ν.upd n x) F m M
 | [],M,_,h=>h
 | (b,sb)::m,M,hn,⟨E,M',e,h1,h2⟩=>by
   simp only[tP,nK] at hn;exact⟨E,M',e,Wz hn.1.1 hn.1.2 h1,On hn.2 h2⟩
def Hy {ν:Nm} {F:aQ}:∀ {m:bE} {M:List (List Ent)},iE ν F m M->gN ν F m M.flatten
 | [],M,h=>by simp only[iE] at h;subst h;rfl
 | (b,sb)::m,M,⟨E,M',e,h1,h2⟩=>by subst e;exact⟨E,M'.flatten,rfl,h1,Hy h2⟩
def Cu {ν:Nm} {F:aQ}:∀ {m:bE} {M:List Ent},gN ν F m M->∃Ms,M=Ms.flatten/\iE ν F m Ms
 | [],M,h=>⟨[],h,rfl⟩
 | (b,sb)::m,M,⟨E,M',e,h1,h2⟩=>by
   obtain⟨Ms,h3,h4⟩:=Cu h2;exact⟨E::Ms,by rw[e,h3];rfl,E,Ms,rfl,h1,h4⟩
def Ct {ν:Nm} {F:aQ}:∀ {m m':bE} {M M':List (List Ent)},iE ν F m M->iE ν F m' M'->iE ν F (m++m') (M++M')
 | [],m',M,M',h,k=>by simp only[iE] at h;subst h;exact k
 | (b,sb)::m,m',M,M',⟨E,M1,e,h1,h2⟩,k=>⟨E,M1++M',by rw[e];rfl,h1,Ct h2 k⟩
def Om {ν:Nm} {F:aQ}:∀ {m m':bE} {M M':List (List Ent)},m.length=M.length->iE ν F (m++m') (M++M')->iE ν F m M/\iE ν F m' M'
 | [],m',[],M',_,h=>⟨rfl,h⟩
 | (b,sb)::m,m',E0::M,M',hl,⟨E,M1,e,h1,h2⟩=>by
   simp only[eW,kX] at e;obtain⟨rfl,rfl⟩:=e;obtain⟨k1,k2⟩:=Om (by simpa using hl) h2;exact⟨⟨E0,M,rfl,h1,k1⟩,k2⟩
def Hz {ν:Nm} {F:aQ}:∀ {m:bE} {M:List (List Ent)},iE ν F m M->m.length=M.length
 | [],M,h=>by simp only[iE] at h;subst h;rfl
 | (b,sb)::m,M,⟨E,M',e,h1,h2⟩=>by subst e;simp[Hz h2]
def gB:Nat:=1048576
structure St where
 fr:gV
 mv:bE
 nc:Nat
structure Env where
 ct:gV
 ov:List SV
 mc:bE
 G:bE
 b0:Nat:=0
structure Cnv where
 oa:List AV
 Ml:List (List Ent)
 P:List Ent
 OF:List Ent
def Cnv.Mc (c:Cnv):List Ent:=c.Ml.flatten
def Cnv.O0 (c:Cnv):List Ent:=c.P++c.OF
variable {B:Base}
def SB.isArr:SB->Bool
 | .arr _ _ _=>true
 | _=>false
def GRel (B:Base) (ν:Nm) (G:bE):Prop:=(∀b,ν (gB+b)=(b,.nils))/\∀b sb,cL G b=some sb->gB<=b/\(∀n,sb.has n=false)/\sb.isArr=false/\∃E,dR ν [] b sb E/\∀e∈E,e.b<B.nx0/\e.c.At B.H0 e.b
def GRel.upd {ν:Nm} {G:bE} {n:Nat} {x:Nat×AV} (hn:n<gB) (h:GRel B ν G):GRel B (ν.upd n x) G:=by
 refine⟨λb=>?_,λb sb hb=>?_⟩
 ·rw[mL (by rw[aL];simp;omega)];exact h.1 b
 ·obtain⟨h1,h2,h5,E,h3,h4⟩:=h.2 b sb hb;exact⟨h1,h2,h5,E,Wz (by rw[aL];simp;omega) (h2 n) h3,h4⟩
structure ConX (B:Base) (ro:Nat) (e:Env) (c:Cnv) (S:St) (tm:Tr AV) (H:Tr Blk) (nx:Nat) (ν:Nm) (F:aQ) (M R:List Ent):Prop where
 hk:HK B ro (M++(c.Mc++(R++c.O0))) H nx
 fr:∀n v,cR (S.fr++e.ct) n=some v->aJ ν F v (aT tm (.t n))
 ov:bC ν F e.ov c.oa
 mv:gN ν F S.mv M
 wr:∀x∈M,x.w=true
 mc:iE ν F e.mc c.Ml
 fz:∀x∈F,Has (R++c.OF) x.1 x.2\/(x.1<B.nx0/\x.2.At B.H0 x.1)
 gl:GRel B ν e.G
def mM (B:Base) (ro:Nat) (e:Env) (c:Cnv) (S:St) (tm:Tr AV) (H:Tr Blk) (nx:Nat):Prop:=∃ν F M R,ConX B ro e c S tm H nx ν F M R
def look (e:Env) (S:St) (b:Nat):Option SB:=match cL (S.mv++e.mc) b with
 | some x=>some x
 | none=>cL e.G b
def Has.append_left {O O':List Ent} {b:Nat} {c:HB} (h:Has O b c):Has (O++O') b c:=by
 obtain⟨w,hm⟩:=h.mem;exact Has.of_mem (aZ.2 (.inl hm))
def Has.append_right {O O':List Ent} {b:Nat} {c:HB} (h:Has O' b c):Has (O++O') b c:=by
 obtain⟨w,hm⟩:=h.mem;exact Has.of_mem (aZ.2 (.inr hm))
section
variable {ro:Nat} {e:Env} {c:Cnv} {S:St} {tm:Tr AV} {H:Tr Blk} {nx:Nat} {ν:Nm} {F:aQ} {M R:List Ent}
def ConX.mcm (h:ConX B ro e c S tm H nx ν F M R):gN ν F e.mc c.Mc:=Hy h.mc
def ConX.fact (h:ConX B ro e c S tm H nx ν F M R) {b:Nat} {x:HB} (hb:(b,x)∈F):b<nx/\x.At H b:=
 by
  rcases h.fz _ hb with h1 | ⟨h1,h2⟩
  ·refine h.hk.at (Has.append_right (Has.append_right ?_));obtain⟨w,hm⟩:=h1.mem;refine Has.of_mem (w:=w) ?_;simp only[Cnv.O0,aZ] at hm ⊢;rcases hm with hm | hm
   ·exact .inl hm
   ·exact .inr (.inr hm)
  ·have:=h.hk.r0;have:=(jC h.hk.r1).1;exact⟨kB h1 (by omega),h2.congr (h.hk.base _ h1)⟩
def ConX.look (h:ConX B ro e c S tm H nx ν F M R) {b:Nat} {sb:SB} (hl:look e S b=some sb):∃F' E,dR ν F' b sb E/\(F'=F\/F'=[])/\∀x∈E,x.b<nx/\x.c.At H x.b:=by
 unfold X.look at hl;split at hl
 ·rename_i y hy;cases hl;obtain⟨M1,E,M2,e1,g1,_⟩:=wM (uJ h.mv h.mcm) hy;refine⟨F,E,g1,.inl rfl,λx hx=>?_⟩;have hm:x∈M++(c.Mc++(R++c.O0)):=by
   have:x∈M++c.Mc:=by rw[e1];simp[hx]
   rcases aZ.1 this with h1 | h1<;>simp[h1]
  exact⟨(h.hk.ent x hm).1,(h.hk.ent x hm).2.2⟩
 ·obtain⟨_,_,_,E,g1,g2⟩:=h.gl.2 b sb hl;refine⟨[],E,g1,.inr rfl,λx hx=>?_⟩;have:=h.hk.r0;have:=(jC h.hk.r1).1;obtain⟨k1,k2⟩:=g2 x hx;exact⟨by omega,k2.congr (h.hk.base _ k1)⟩
end
end X
end Go.Vm
