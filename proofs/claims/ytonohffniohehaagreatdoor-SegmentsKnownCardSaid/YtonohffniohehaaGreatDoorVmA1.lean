/-
  A small machine for closed runs: its data (values, tries), with what they stand for in the model.
  The machine's memory and what it stands for: how the relation is kept.
  The machine's arithmetic: what it computes is what the model computes.
-/
import Derived.LoopN
import Derived.Orders
import Derived.Below
import Derived.Laws.IdiomCopy
import Derived.Laws.StructEq
set_option linter.unusedSimpArgs false
set_option linter.unusedVariables false
set_option linter.unusedSectionVars false
set_option linter.unnecessarySimpa false
namespace Go.Vm
inductive Tr (α:Type) where
 | e
 | n (l:Tr α) (v:Option α) (r:Tr α)
namespace Tr
variable {α:Type}
def get:Tr α→Nat→Option α
 | .e,_=>none
 | .n l v r,i=>bif i.beq 0 then v else bif(i%2).beq 1 then l.get ((i-1) / 2) else r.get ((i-1) / 2)
def setK {β:Type} (a:α):Nat→Tr α→Nat→(Tr α→β)→β
 | 0,t,_,k=>k t
 | f+1,.e,i,k=>
   bif i.beq 0 then k (.n .e (some a) .e)
   else bif(i%2).beq 1 then setK a f .e ((i-1) / 2) fun l=>k (.n l none .e)
   else setK a f .e ((i-1) / 2) fun r=>k (.n .e none r)
 | f+1,.n l v r,i,k=>
   bif i.beq 0 then k (.n l (some a) r)
   else bif(i%2).beq 1 then setK a f l ((i-1) / 2) fun l'=>k (.n l' v r)
   else setK a f r ((i-1) / 2) fun r'=>k (.n l v r')
def j3r (a:α) (f:Nat) (t:Tr α) (i:Nat):Tr α:=setK a f t i id
def set (t:Tr α) (i:Nat) (a:α):Tr α:=j3r a (i+1) t i
def delK {β:Type}:Tr α→Nat→(Tr α→β)→β
 | .e,_,k=>k .e
 | .n l v r,i,k=>
   bif i.beq 0 then k (.n l none r)
   else bif(i%2).beq 1 then delK l ((i-1) / 2) fun l'=>k (.n l' v r)
   else delK r ((i-1) / 2) fun r'=>k (.n l v r')
def del (t:Tr α) (i:Nat):Tr α:=delK t i id
theorem setK_eq (a:α):∀(f:Nat) (β:Type) (t:Tr α) (i:Nat) (k:Tr α→β),setK a f t i k=k (j3r a f t i):=by
 intro f
 induction f with
 | zero=>intro β t i k;rfl
 | succ f ih=>
   intro β t i k
   cases t with
   | e=>
     unfold j3r setK
     cases h0:i.beq 0<;>simp only[cond_true,cond_false]
     ·cases h1:(i%2).beq 1<;>simp only[cond_true,cond_false]<;>rw[ih,ih (Tr α)]<;>rfl
     ·rfl
   | n l v r=>
     unfold j3r setK
     cases h0:i.beq 0<;>simp only[cond_true,cond_false]
     ·cases h1:(i%2).beq 1<;>simp only[cond_true,cond_false]<;>rw[ih,ih (Tr α)]<;>rfl
     ·rfl
theorem delK_eq:∀(t:Tr α) (β:Type) (i:Nat) (k:Tr α→β),delK t i k=k (del t i):=by
 intro t
 induction t with
 | e=>intro β i k;rfl
 | n l v r ihl ihr=>
   intro β i k
   unfold del delK
   cases h0:i.beq 0<;>simp only[cond_true,cond_false]
   ·cases h1:(i%2).beq 1<;>simp only[cond_true,cond_false]
    ·rw[ihr,ihr (Tr α)];rfl
    ·rw[ihl,ihl (Tr α)];rfl
   ·rfl
theorem kko (a:α) (f i:Nat):j3r a (f+1) .e i=bif i.beq 0 then .n .e (some a) .e else bif(i%2).beq 1 then .n (j3r a f .e ((i-1) / 2)) none .e else .n .e none (j3r a f .e ((i-1) / 2)):=by
 show setK a (f+1) .e i id=_
 rw[setK]
 cases i.beq 0<;>simp only[cond_true,cond_false]
 ·cases (i%2).beq 1<;>simp only[cond_true,cond_false]<;>rw[setK_eq]<;>rfl
 ·rfl
theorem kkn (a:α) (f i:Nat) (l:Tr α) (v:Option α) (r:Tr α):j3r a (f+1) (.n l v r) i=bif i.beq 0 then .n l (some a) r else bif(i%2).beq 1 then .n (j3r a f l ((i-1) / 2)) v r else .n l v (j3r a f r ((i-1) / 2)):=by
 show setK a (f+1) (.n l v r) i id=_
 rw[setK]
 cases i.beq 0<;>simp only[cond_true,cond_false]
 ·cases (i%2).beq 1<;>simp only[cond_true,cond_false]<;>rw[setK_eq]<;>rfl
 ·rfl
theorem ken (a:α):∀(f:Nat) (t:Tr α) (i j:Nat),i<f→(j3r a f t i).get j=if j=i then some a else t.get j:=by
 intro f
 induction f with
 | zero=>intro t i j h;omega
 | succ f ih=>
   intro t i j h
   have bq:∀x y:Nat,x.beq y=decide (x=y):=fun x y=>by
    rcases hxy:x.beq y with _ | _
    ·have:=Nat.ne_of_beq_eq_false hxy;simp[this]
    ·have:=Nat.eq_of_beq_eq_true hxy;simp[this]
   have go:∀(l:Tr α) (v:Option α) (r:Tr α),(bif i.beq 0 then Tr.n l (some a) r else bif(i%2).beq 1 then Tr.n (j3r a f l ((i-1) / 2)) v r else Tr.n l v (j3r a f r ((i-1) / 2))).get j
     =if j=i then some a else(Tr.n l v r).get j:=by
    intro l v r
    by_cases hi:i=0
    ·subst hi
     simp only[bq,decide_true,cond_true]
     by_cases hj:j=0
     ·subst hj;simp[get]
     ·simp[get,bq,hj]
    ·have e0:i.beq 0=false:=by simp[bq,hi]
     simp only[e0,cond_false]
     by_cases h1:i%2=1
     ·have e1:(i%2).beq 1=true:=by simp[bq,h1]
      simp only[e1,cond_true,get,bq]
      by_cases hj:j=0
      ·subst hj;simp;omega
      ·simp only[hj,decide_false,cond_false]
       by_cases hj1:j%2=1
       ·simp only[hj1,decide_true,cond_true]
        rw[ih l _ _ (by omega)]
        by_cases hji:j=i
        ·subst hji;simp
        ·rw[if_neg (by omega),if_neg hji]
       ·simp only[hj1,decide_false,cond_false]
        rw[if_neg (by omega)]
     ·have e1:(i%2).beq 1=false:=by simp[bq,h1]
      simp only[e1,cond_false,get,bq]
      by_cases hj:j=0
      ·subst hj;simp;omega
      ·simp only[hj,decide_false,cond_false]
       by_cases hj1:j%2=1
       ·simp only[hj1,decide_true,cond_true]
        rw[if_neg (by omega)]
       ·simp only[hj1,decide_false,cond_false]
        rw[ih r _ _ (by omega)]
        by_cases hji:j=i
        ·subst hji;simp
        ·rw[if_neg (by omega),if_neg hji]
   cases t with
   | e=>
     have h1:=go .e none .e
     have h2:(Tr.n .e none .e:Tr α).get j=(Tr.e:Tr α).get j:=by
      simp only[get]
      cases j.beq 0<;>cases (j%2).beq 1<;>rfl
     rw[h2] at h1
     rw[←h1,kko]
   | n l v r=>
     rw[←go l v r,kkn]
theorem get_set (t:Tr α) (i j:Nat) (a:α):(t.set i a).get j=if j=i then some a else t.get j:=ken a (i+1) t i j (by omega)
theorem get_del:∀(t:Tr α) (i j:Nat),(t.del i).get j=if j=i then none else t.get j:=by
 have bq:∀x y:Nat,x.beq y=decide (x=y):=fun x y=>by
  rcases hxy:x.beq y with _ | _
  ·have:=Nat.ne_of_beq_eq_false hxy;simp[this]
  ·have:=Nat.eq_of_beq_eq_true hxy;simp[this]
 intro t
 induction t with
 | e=>intro i j;simp[del,delK,get]
 | n l v r ihl ihr=>
   intro i j
   unfold del delK
   by_cases hi:i=0
   ·subst hi
    by_cases hj:j=0
    ·subst hj;simp[bq,get]
    ·simp[bq,get,hj]
   ·by_cases h1:i%2=1
    ·simp only[bq,hi,h1,decide_false,decide_true,cond_false,cond_true,delK_eq,id,get]
     by_cases hj:j=0
     ·subst hj;simp;omega
     ·simp only[hj,decide_false,cond_false]
      by_cases hj1:j%2=1
      ·simp only[hj1,decide_true,cond_true,ihl]
       by_cases hji:j=i
       ·subst hji;simp
       ·rw[if_neg (by omega),if_neg hji]
      ·simp only[hj1,decide_false,cond_false]
       rw[if_neg (by omega)]
    ·simp only[bq,hi,h1,decide_false,cond_false,delK_eq,id,get]
     by_cases hj:j=0
     ·subst hj;simp;omega
     ·simp only[hj,decide_false,cond_false]
      by_cases hj1:j%2=1
      ·simp only[hj1,decide_true,cond_true]
       rw[if_neg (by omega)]
      ·simp only[hj1,decide_false,cond_false,ihr]
       by_cases hji:j=i
       ·subst hji;simp
       ·rw[if_neg (by omega),if_neg hji]
end Tr
inductive AV where
 | bool (b:Bool)
 | int (k:IntKind) (n:Int)
 | str (s:List Nat)
 | ptr (b o:Nat)
 | nilp
 | sl (b o len:Nat) (cap:Option Nat) (z:Nat)
 | nils
 | fn (f:Fn) (first capt:List AV)
 | nilf
 | ifc (t:TypeId) (v:AV)
 | nili
 | mp (b:Nat)
 | nilm
 | agg (l:List AV)
 | tup (l:List AV)
structure Loc where
 blk:Nat
 base:Nat
 lim:Nat
def RM:=Nat→Option Loc
def RO:Nat:=64
mutual
def VR (ρ:RM):AV→Value→Prop
 | .bool b,v=>v=.bool b
 | .int k n,v=>v=.int k n
 | .str s,v=>∃bs:ByteArray,v=.string bs∧bs.data.toList.map UInt8.toNat=s
 | .ptr b o,v=>∃l,ρ b=some l∧v=.pointer (some ⟨l.blk,l.base+o,none⟩)
 | .nilp,v=>v=.pointer none
 | .sl b o len cap z,v=>∃l c off,ρ b=some l∧v=.slice (some ⟨l.blk,off,none⟩) len c∧len≤c∧0<z∧(off=l.base+o∨c=0)∧
     (cap=some c∧l.base+o+c*z≤l.lim∧(RO≤b→c<9223372036854775808)∨cap=none∧l.base+o+c*z=l.lim∧c<9223372036854775808)
 | .nils,v=>v=.slice none 0 0
 | .fn f a b,v=>∃xs ys,v=.func f xs ys∧VRs ρ a xs.toList∧VRs ρ b ys.toList
 | .nilf,v=>v=.nilFunc
 | .ifc t x,v=>∃y,v=.iface t y∧VR ρ x y
 | .nili,v=>v=.nilIface
 | .mp b,v=>∃l,ρ b=some l∧v=.map (some l.blk)
 | .nilm,v=>v=.map none
 | .agg l,v=>∃cs,v=.agg cs∧VRs ρ l cs.toList
 | .tup l,v=>∃cs,v=.tuple cs∧VRs ρ l cs.toList
def VRs (ρ:RM):List AV→List Value→Prop
 | [],vs=>vs=[]
 | a::l,vs=>∃v vs',vs=v::vs'∧VR ρ a v∧VRs ρ l vs'
end
def RM.Le (ρ ρ':RM):Prop:=∀b l,ρ b=some l→ρ' b=some l
theorem RM.Le.refl (ρ:RM):ρ.Le ρ:=fun _ _ h=>h
mutual
theorem VR.mono {ρ ρ':RM} (h:ρ.Le ρ'):∀(a:AV) (v:Value),VR ρ a v→VR ρ' a v
 | .bool b,v,e=>by simpa[VR] using e
 | .int k n,v,e=>by simpa[VR] using e
 | .str s,v,e=>by simpa[VR] using e
 | .ptr b o,v,e=>by
   simp only[VR] at *
   obtain⟨l,e1,e2⟩:=e
   exact⟨l,h _ _ e1,e2⟩
 | .nilp,v,e=>by simpa[VR] using e
 | .sl b o len cap z,v,e=>by
   simp only[VR] at *
   obtain⟨l,c,off,e1,e2⟩:=e
   exact⟨l,c,off,h _ _ e1,e2⟩
 | .nils,v,e=>by simpa[VR] using e
 | .fn f a b,v,e=>by
   simp only[VR] at *
   obtain⟨xs,ys,e1,e2,e3⟩:=e
   exact⟨xs,ys,e1,VRs.mono h _ _ e2,VRs.mono h _ _ e3⟩
 | .nilf,v,e=>by simpa[VR] using e
 | .ifc t x,v,e=>by
   simp only[VR] at *
   obtain⟨y,e1,e2⟩:=e
   exact⟨y,e1,VR.mono h _ _ e2⟩
 | .nili,v,e=>by simpa[VR] using e
 | .mp b,v,e=>by
   simp only[VR] at *
   obtain⟨l,e1,e2⟩:=e
   exact⟨l,h _ _ e1,e2⟩
 | .nilm,v,e=>by simpa[VR] using e
 | .agg l,v,e=>by
   simp only[VR] at *
   obtain⟨y,e1,e2⟩:=e
   exact⟨y,e1,VRs.mono h _ _ e2⟩
 | .tup l,v,e=>by
   simp only[VR] at *
   obtain⟨y,e1,e2⟩:=e
   exact⟨y,e1,VRs.mono h _ _ e2⟩
theorem VRs.mono {ρ ρ':RM} (h:ρ.Le ρ'):∀(a:List AV) (v:List Value),VRs ρ a v→VRs ρ' a v
 | [],v,e=>by simpa[VRs] using e
 | a::l,v,e=>by
   simp only[VRs] at *
   obtain⟨x,xs,e1,e2,e3⟩:=e
   exact⟨x,xs,e1,VR.mono h _ _ e2,VRs.mono h _ _ e3⟩
end
theorem jjf (ρ:RM):∀(l:List AV) (vs:List Value),VRs ρ l vs↔l.length=vs.length∧∀(i:Nat) (a:AV) (v:Value),l[i]?=some a→vs[i]?=some v→VR ρ a v
 | [],vs=>by cases vs<;>simp[VRs]
 | a::l,vs=>by
   simp only[VRs]
   constructor
   ·rintro ⟨v,vs',rfl,h1,h2⟩
    rw[jjf ρ l vs'] at h2
    refine⟨by simp[h2.1],fun i x y hx hy=>?_⟩
    cases i with
    | zero=>simp at hx hy;subst hx;subst hy;exact h1
    | succ i=>exact h2.2 i x y (by simpa using hx) (by simpa using hy)
   ·rintro ⟨h1,h2⟩
    cases vs with
    | nil=>simp at h1
    | cons v vs'=>
      refine⟨v,vs',rfl,h2 0 a v rfl rfl,(jjf ρ l vs').2 ⟨by simpa using h1,fun i x y hx hy=>h2 (i+1) x y (by simpa using hx) (by simpa using hy)⟩⟩
theorem VRs.get {ρ:RM} {l:List AV} {vs:List Value} (h:VRs ρ l vs) {i:Nat} {a:AV} (ha:l[i]?=some a):∃v,vs[i]?=some v∧VR ρ a v:=by
 obtain⟨h1,h2⟩:=(jjf ρ l vs).1 h
 have hi:i<vs.length:=by rw[←h1];exact(List.getElem?_eq_some_iff.1 ha).1
 exact⟨vs[i],by simp[hi],h2 i a _ ha (by simp[hi])⟩
theorem VRs.length {ρ:RM} {l:List AV} {vs:List Value} (h:VRs ρ l vs):l.length=vs.length:=((jjf ρ l vs).1 h).1
theorem VRs.append {ρ:RM} {l l':List AV} {vs vs':List Value} (h:VRs ρ l vs) (h':VRs ρ l' vs'):VRs ρ (l++l') (vs++vs'):=by
 induction l generalizing vs with
 | nil=>simp only[VRs] at h;subst h;simpa using h'
 | cons a l ih=>
   simp only[VRs] at h
   obtain⟨v,r,rfl,h1,h2⟩:=h
   exact⟨v,r++vs',rfl,h1,ih h2⟩
theorem VRs.take {ρ:RM} {l:List AV} {vs:List Value} (h:VRs ρ l vs) (n:Nat):VRs ρ (l.take n) (vs.take n):=by
 rw[jjf] at *
 refine⟨by simp[h.1],fun i a v ha hv=>?_⟩
 rw[List.getElem?_take] at ha hv
 split at ha
 ·rename_i hi
  rw[if_pos hi] at hv
  exact h.2 i a v ha hv
 ·cases ha
theorem VRs.drop {ρ:RM} {l:List AV} {vs:List Value} (h:VRs ρ l vs) (n:Nat):VRs ρ (l.drop n) (vs.drop n):=by
 rw[jjf] at *
 refine⟨by simp[h.1],fun i a v ha hv=>?_⟩
 rw[List.getElem?_drop] at ha hv
 exact h.2 _ a v ha hv
def jcq:AV→List AV
 | .agg l=>l
 | v=>[v]
theorem VR.cells {ρ:RM} {a:AV} {v:Value} (h:VR ρ a v):VRs ρ (jcq a) v.cells.toList:=by
 cases a<;>simp only[VR] at h<;>simp only[jcq]
 case agg l=>obtain⟨cs,rfl,h⟩:=h;exact h
 all_goals
  refine⟨v,[],?_,?_,rfl⟩
  ·first
   | (subst h;rfl)
   | (obtain⟨_,rfl,_⟩:=h;rfl)
   | (obtain⟨_,_,rfl⟩:=h;rfl)
   | (obtain⟨_,_,rfl,_⟩:=h;rfl)
   | (obtain⟨_,_,_,_,rfl,_⟩:=h;rfl)
  ·simp only[VR];exact h
def js3:AV→Bool
 | .agg _ | .tup _=>false
 | _=>true
theorem VR.one {ρ:RM} {a:AV} {v:Value} (h:VR ρ a v):v.oneCell'=js3 a:=by
 cases a<;>simp only[VR] at h<;>first
  | (subst h;rfl)
  | (obtain⟨_,rfl,_⟩:=h;rfl)
  | (obtain⟨_,_,rfl⟩:=h;rfl)
  | (obtain⟨_,_,rfl,_⟩:=h;rfl)
  | (obtain⟨_,_,_,_,rfl,_⟩:=h;rfl)
end Go.Vm
namespace Go.Vm
inductive Blk where
 | cells (c:Tr AV) (n:Nat)
 | iter (s:List Nat) (pos:Nat)
 | mp (m:List (AV×AV))
def Blk.Rel (pl:Bool) (ρ:RM):Blk→Loc→World→Prop
 | .cells c n,l,w=>∃cs elem fr,w.heap[l.blk]?=some (.cells cs elem fr)∧l.base+n≤l.lim∧l.lim≤cs.size∧
     (∀i,l.base≤i→(pl=false→i<l.lim)→¬(fr.1≤i∧i<fr.2))∧∀i,i<n→∃a v,c.get i=some a∧cs[l.base+i]?=some v∧VR ρ a v
 | .iter s pos,l,w=>∃bs,w.heap[l.blk]?=some (.stringIter bs pos)∧bs.data.toList.map UInt8.toNat=s∧l.base=0
 | .mp m,l,w=>∃es clock,w.heap[l.blk]?=some (.map es clock)∧VRs ρ (m.map (·.1)) (es.toList.map (·.key))∧VRs ρ (m.map (·.2)) (es.toList.map (·.val))
def rx (ro:Nat):Nat:=max ro RO
theorem jk5 {ro b:Nat} (h:rx ro≤b):ro≤b∧RO≤b:=Nat.max_le.1 h
structure HR (ρ:RM) (H:Tr Blk) (w:World):Prop where
 blk:∀b k l,H.get b=some k→ρ b=some l→k.Rel (RO.ble b) ρ l w
 inj:∀b b' l l',(H.get b).isSome→(H.get b').isSome→ρ b=some l→ρ b'=some l'→l.blk=l'.blk→b=b'∨(b<RO∧b'<RO)
structure Step (ρ:RM) (H:Tr Blk) (nx ro:Nat) (w:World) (ρ':RM) (H':Tr Blk) (nx':Nat) (w':World):Prop where
 os:w'.os=w.os
 tape:w'.tape=w.tape
 output:w'.output=w.output
 size:w.heap.size≤w'.heap.size
 up:nx≤nx'
 ext:∀b,(b<nx∨nx'≤b)→ρ' b=ρ b
 keep:∀x,x<w.heap.size→(∀b l,ρ b=some l→l.blk=x→(H.get b).isSome→b<ro)→w'.heap[x]?=w.heap[x]?
 fresh:∀b l,nx≤b→b<nx'→ρ' b=some l→(w.heap.size≤l.blk∧l.blk<w'.heap.size)∨∃b0 l0,ro≤b0∧(H.get b0).isSome∧ρ b0=some l0∧l0.blk=l.blk
 live:∀b,(H'.get b).isSome→(nx≤b∧b<nx')∨(H.get b).isSome
 old:∀b,b<ro→b<nx→H'.get b=H.get b
theorem Step.refl (ρ:RM) (H:Tr Blk) (nx ro:Nat) (w:World):Step ρ H nx ro w ρ H nx w:=
 ⟨rfl,rfl,rfl,Nat.le_refl _,Nat.le_refl _,fun _ _=>rfl,fun _ _ _=>rfl,fun b l h h'=>by omega,fun _ h=>.inr h,fun _ _ _=>rfl⟩
theorem Step.trans {ρ ρ1 ρ2:RM} {H H1 H2:Tr Blk} {nx nx1 nx2 ro:Nat} {w w1 w2:World}
  (s:Step ρ H nx ro w ρ1 H1 nx1 w1) (t:Step ρ1 H1 nx1 ro w1 ρ2 H2 nx2 w2):Step ρ H nx ro w ρ2 H2 nx2 w2 where
 os:=t.os.trans s.os
 tape:=t.tape.trans s.tape
 output:=t.output.trans s.output
 size:=Nat.le_trans s.size t.size
 up:=Nat.le_trans s.up t.up
 ext b h:=by
  have h1:=s.up;have h2:=t.up
  rw[t.ext b (by omega),s.ext b (by omega)]
 keep x hx h:=by
  rw[t.keep x (Nat.lt_of_lt_of_le hx s.size) ?_,s.keep x hx h]
  intro b l hb hl hs
  by_cases hbn:b<nx
  ·refine h b l ((s.ext b (.inl hbn))▸hb) hl ?_
   rcases s.live b hs with h1 | h1
   ·omega
   ·exact h1
  ·by_cases hbn':b<nx1
   ·rcases s.fresh b l (by omega) hbn' hb with⟨h1,_⟩ | ⟨b0,l0,h1,h2,h3,h4⟩
    ·omega
    ·have:=h b0 l0 h3 (h4.trans hl) h2
     omega
   ·rcases s.live b hs with h1 | h1
    ·omega
    ·exact h b l ((s.ext b (.inr (by omega)))▸hb) hl h1
 fresh b l h1 h2 hb:=by
  have a1:=s.up;have a2:=t.up;have a3:=s.size;have a4:=t.size
  by_cases hbn:b<nx1
  ·rcases s.fresh b l h1 hbn ((t.ext b (.inl hbn))▸hb) with⟨h3,h4⟩ | h3
   ·exact .inl ⟨h3,by omega⟩
   ·exact .inr h3
  ·rcases t.fresh b l (by omega) h2 hb with⟨h3,h4⟩ | ⟨b0,l0,h3,h4,h5,h6⟩
   ·exact .inl ⟨by omega,h4⟩
   ·by_cases hb0:nx≤b0∧b0<nx1
    ·rcases s.fresh b0 l0 hb0.1 hb0.2 h5 with⟨h7,h8⟩ | ⟨b1,l1,h7,h8,h9,h10⟩
     ·exact .inl ⟨by omega,by omega⟩
     ·exact .inr ⟨b1,l1,h7,h8,h9,h10.trans h6⟩
    ·have e:=s.ext b0 (by omega)
     rcases s.live b0 h4 with h7 | h7
     ·omega
     ·exact .inr ⟨b0,l0,h3,h7,e▸h5,h6⟩
 live b h:=by
  have a1:=s.up;have a2:=t.up
  rcases t.live b h with h1 | h1
  ·exact .inl (by omega)
  ·rcases s.live b h1 with h2 | h2
   ·exact .inl (by omega)
   ·exact .inr h2
 old b h h':=by
  rw[t.old b h (Nat.lt_of_lt_of_le h' s.up),s.old b h h']
def Free (ρ:RM) (nx nx':Nat):Prop:=∀b,nx≤b→b<nx'→ρ b=none
theorem Step.le {ρ ρ':RM} {H H':Tr Blk} {nx nx' ro:Nat} {w w':World} (s:Step ρ H nx ro w ρ' H' nx' w') (hf:Free ρ nx nx'):ρ.Le ρ':=by
 intro b l hb
 by_cases h:nx≤b∧b<nx'
 ·have:=hf b h.1 h.2
  rw[this] at hb
  cases hb
 ·rw[s.ext b (by omega)]
  exact hb
theorem Step.free {ρ ρ':RM} {H H':Tr Blk} {nx nx' nx'' ro:Nat} {w w':World} (s:Step ρ H nx ro w ρ' H' nx' w') (hf:Free ρ nx nx''):Free ρ' nx' nx'':=by
 intro b h1 h2
 rw[s.ext b (.inr h1)]
 exact hf b (Nat.le_trans s.up h1) h2
theorem Free.left {ρ:RM} {a b c:Nat} (h:Free ρ a c) (hb:b≤c):Free ρ a b:=fun x h1 h2=>h x h1 (by omega)
theorem Blk.Rel.mono {pl:Bool} {ρ ρ':RM} (h:ρ.Le ρ') {k:Blk} {l:Loc} {w w':World} (hk:k.Rel pl ρ l w) (hw:w'.heap[l.blk]?=w.heap[l.blk]?):k.Rel pl ρ' l w':=by
 cases k with
 | cells c n=>
   obtain⟨cs,e,fr,h1,h2,h3,h4,h5⟩:=hk
   refine⟨cs,e,fr,hw.trans h1,h2,h3,h4,fun i hi=>?_⟩
   obtain⟨a,v,h6,h7,h8⟩:=h5 i hi
   exact⟨a,v,h6,h7,VR.mono h _ _ h8⟩
 | iter s pos=>
   obtain⟨bs,h1,h2⟩:=hk
   exact⟨bs,hw.trans h1,h2⟩
 | mp m=>
   obtain⟨es,clock,h1,h2,h3⟩:=hk
   exact⟨es,clock,hw.trans h1,VRs.mono h _ _ h2,VRs.mono h _ _ h3⟩
theorem Blk.Rel.lt {pl:Bool} {ρ:RM} {k:Blk} {l:Loc} {w:World} (hk:k.Rel pl ρ l w):l.blk<w.heap.size:=by
 cases k with
 | cells c n=>
   obtain⟨cs,e,fr,h1,_⟩:=hk
   exact(Array.getElem?_eq_some_iff.1 h1).1
 | iter s pos=>
   obtain⟨bs,h1,h2⟩:=hk
   exact(Array.getElem?_eq_some_iff.1 h1).1
 | mp m=>
   obtain⟨es,clock,h1,_⟩:=hk
   exact(Array.getElem?_eq_some_iff.1 h1).1
def RM.upd (ρ:RM) (b:Nat) (l:Loc):RM:=fun x=>if x=b then some l else ρ x
theorem RM.le_upd {ρ:RM} {b:Nat} {l:Loc} (h:ρ b=none):ρ.Le (ρ.upd b l):=by
 intro x y hx
 unfold RM.upd
 split
 ·subst x;rw[h] at hx;cases hx
 ·exact hx
theorem HR.alloc {ρ:RM} {H:Tr Blk} {w:World} {nx ro:Nat} (h:HR ρ H w) (hn:ρ nx=none) (o:Obj) (k:Blk) (l:Loc) (hl:l.blk=w.heap.size)
  (hk:k.Rel (RO.ble nx) (ρ.upd nx l) l (w.alloc o)) (hro:ro≤nx):
  HR (ρ.upd nx l) (H.set nx k) (w.alloc o)∧Step ρ H nx ro w (ρ.upd nx l) (H.set nx k) (nx+1) (w.alloc o):=by
 have hle:=RM.le_upd (l:=l) hn
 have hold:∀x,x<w.heap.size→(w.alloc o).heap[x]?=w.heap[x]?:=fun x hx=>Go.RowKit.Below.heap_alloc w o x hx
 have ne:∀b k' l',H.get b=some k'→ρ b=some l'→l'.blk<w.heap.size:=fun b k' l' h1 h2=>(h.blk b k' l' h1 h2).lt
 refine⟨⟨?_,?_⟩,?_⟩
 ·intro b k' l' hb hl'
  rw[Tr.get_set] at hb
  unfold RM.upd at hl'
  by_cases e:b=nx
  ·simp only[e,if_true] at hb hl'
   cases hb;cases hl'
   rw[e]
   exact hk
  ·simp only[e,if_false] at hb hl'
   have hr:=h.blk b k' l' hb hl'
   exact hr.mono hle (hold _ hr.lt)
 ·intro b b' l1 l2 h1 h2 e1 e2 e
  rw[Tr.get_set] at h1 h2
  unfold RM.upd at e1 e2
  by_cases hb:b=nx
  ·by_cases hb':b'=nx
   ·exact .inl (hb.trans hb'.symm)
   ·simp only[hb,hb',if_true,if_false] at h1 h2 e1 e2
    cases e1
    obtain⟨k2,hk2⟩:=Option.isSome_iff_exists.1 h2
    have:=ne b' k2 l2 hk2 e2
    omega
  ·by_cases hb':b'=nx
   ·simp only[hb,hb',if_true,if_false] at h1 h2 e1 e2
    cases e2
    obtain⟨k1,hk1⟩:=Option.isSome_iff_exists.1 h1
    have:=ne b k1 l1 hk1 e1
    omega
   ·simp only[hb,hb',if_false] at h1 h2 e1 e2
    exact h.inj b b' l1 l2 h1 h2 e1 e2 e
 ·refine⟨rfl,rfl,rfl,by simp,by omega,?_,?_,?_,?_,?_⟩
  ·intro b hb
   unfold RM.upd
   rw[if_neg (by omega)]
  ·intro x hx _
   exact hold x hx
  ·intro b l' h1 h2 hb
   have:b=nx:=by omega
   subst this
   simp only[RM.upd,if_true] at hb
   cases hb
   exact .inl ⟨by omega,by simp;omega⟩
  ·intro b hb
   rw[Tr.get_set] at hb
   by_cases e:b=nx
   ·exact .inl (by omega)
   ·simp only[e,if_false] at hb
    exact .inr hb
  ·intro b hb hb'
   rw[Tr.get_set,if_neg (by omega)]
theorem HR.write {ρ:RM} {H:Tr Blk} {w w':World} {nx ro b:Nat} (h:HR ρ H w) (k:Blk) (l:Loc) (hs:(H.get b).isSome) (hl:ρ b=some l) (hrx:rx ro≤b)
  (os:w'.os=w.os) (tape:w'.tape=w.tape) (out:w'.output=w.output) (size:w'.heap.size=w.heap.size)
  (hold:∀x,x≠l.blk→w'.heap[x]?=w.heap[x]?) (hk:k.Rel (RO.ble b) ρ l w'):
  HR ρ (H.set b k) w'∧Step ρ H nx ro w ρ (H.set b k) nx w':=by
 obtain⟨hro,hRO⟩:=jk5 hrx
 refine⟨⟨?_,?_⟩,⟨os,tape,out,by omega,Nat.le_refl _,fun _ _=>rfl,?_,fun b l h1 h2=>by omega,?_,?_⟩⟩
 ·intro b' k' l' hb hl'
  rw[Tr.get_set] at hb
  by_cases e:b'=b
  ·subst e
   rw[hl] at hl'
   simp only[if_true] at hb
   cases hb;cases hl'
   exact hk
  ·simp only[e,if_false] at hb
   have hr:=h.blk b' k' l' hb hl'
   refine hr.mono (RM.Le.refl _) (hold _ fun e'=>e ?_)
   rcases h.inj b' b l' l (by rw[hb];rfl) hs hl' hl e' with h1 | h1
   ·exact h1
   ·omega
 ·intro x y l1 l2 h1 h2 e1 e2 e
  rw[Tr.get_set] at h1 h2
  refine h.inj x y l1 l2 ?_ ?_ e1 e2 e
  ·by_cases ex:x=b
   ·rw[ex];exact hs
   ·simpa[ex] using h1
  ·by_cases ey:y=b
   ·rw[ey];exact hs
   ·simpa[ey] using h2
 ·intro x _ hk
  refine hold x fun e=>?_
  have:=hk b l hl e.symm hs
  omega
 ·intro x hx
  rw[Tr.get_set] at hx
  by_cases e:x=b
  ·rw[e];exact .inr hs
  ·exact .inr (by simpa[e] using hx)
 ·intro x hx _
  rw[Tr.get_set,if_neg (by omega)]
theorem HR.drew {ρ:RM} {H:Tr Blk} {w:World} (n:Nat) (h:HR ρ H w):HR ρ H { w with drawn:=n }:=by
 refine⟨fun b k l hb hl=>?_,h.inj⟩
 have:=h.blk b k l hb hl
 exact this.mono (RM.Le.refl _) rfl
theorem Step.drew (ρ:RM) (H:Tr Blk) (nx ro:Nat) (w:World) (n:Nat):Step ρ H nx ro w ρ H nx { w with drawn:=n }:=
 ⟨rfl,rfl,rfl,Nat.le_refl _,Nat.le_refl _,fun _ _=>rfl,fun _ _ _=>rfl,fun b l h h'=>by omega,fun _ h=>.inr h,fun _ _ _=>rfl⟩
end Go.Vm
namespace Go.Vm
def jkp {β:Type} (n:Nat) (k:Nat→β):β:=match n with | 0=>k 0 | m+1=>k (m+1)
def kbs {β:Type} (n:Int) (k:Int→β):β:=match n with
 | .ofNat n=>jkp n fun n=>k (.ofNat n)
 | .negSucc n=>jkp n fun n=>k (.negSucc n)
theorem jhv {β:Type} (n:Nat) (k:Nat→β):jkp n k=k n:=by cases n<;>rfl
theorem kbr {β:Type} (n:Int) (k:Int→β):kbs n k=k n:=by cases n<;>simp[kbs,jhv]
def jvs {β:Type}:List Nat→(List Nat→β)→β
 | [],k=>k []
 | x::l,k=>jkp x fun x=>jvs l fun l=>k (x::l)
theorem jit:∀(l:List Nat) (β:Type) (k:List Nat→β),jvs l k=k l
 | [],_,_=>rfl
 | x::l,β,k=>by simp[jvs,jhv,jit l]
def j2j {β:Type} (v:AV) (k:AV→β):β:=match v with
 | .int d n=>kbs n fun n=>k (.int d n)
 | .bool b=>match b with | true=>k (.bool true) | false=>k (.bool false)
 | .str s=>jvs s fun s=>k (.str s)
 | .ptr b o=>jkp b fun b=>jkp o fun o=>k (.ptr b o)
 | .sl b o len cap z=>jkp b fun b=>jkp o fun o=>jkp len fun len=>match cap with
   | none=>k (.sl b o len none z)
   | some c=>jkp c fun c=>k (.sl b o len (some c) z)
 | v=>k v
theorem jkq {β:Type} (v:AV) (k:AV→β):j2j v k=k v:=by
 cases v<;>simp[j2j,kbr,jit,jhv]
 case bool b=>cases b<;>rfl
 case sl b o len cap z=>cases cap<;>simp[jhv]
def j2i {β:Type}:List AV→(List AV→β)→β
 | [],k=>k []
 | x::l,k=>j2j x fun x=>j2i l fun l=>k (x::l)
theorem jhw:∀(l:List AV) (β:Type) (k:List AV→β),j2i l k=k l
 | [],_,_=>rfl
 | x::l,β,k=>by simp[j2i,jkq,jhw l]
def ieq:Int→Int→Bool
 | .ofNat a,.ofNat b=>a.beq b
 | .negSucc a,.negSucc b=>a.beq b
 | _,_=>false
def ile:Int→Int→Bool
 | .ofNat a,.ofNat b=>a.ble b
 | .negSucc a,.negSucc b=>b.ble a
 | .negSucc _,.ofNat _=>true
 | .ofNat _,.negSucc _=>false
theorem jaa (x y:Nat):x.beq y=decide (x=y):=by
 rcases hxy:x.beq y with _ | _
 ·have:=Nat.ne_of_beq_eq_false hxy;simp[this]
 ·have:=Nat.eq_of_beq_eq_true hxy;simp[this]
theorem jae (x y:Nat):x.ble y=decide (x≤y):=by
 rcases hxy:x.ble y with _ | _
 ·have:¬x≤y:=fun h=>by have:=Nat.ble_eq_true_of_le h;simp[hxy] at this
  simp[this]
 ·have:=Nat.le_of_ble_eq_true hxy;simp[this]
theorem jsx (a b:Int):ieq a b=(a==b):=by
 rw[Bool.eq_iff_iff,beq_iff_eq]
 cases a<;>cases b<;>simp[ieq,jaa]<;>omega
theorem jm9 (a b:Int):ile a b=decide (a≤b):=by
 rw[Bool.eq_iff_iff,decide_eq_true_iff]
 cases a with
 | ofNat a=>cases b with
   | ofNat b=>simp[ile,jae]
   | negSucc b=>simp[ile];omega
 | negSucc a=>cases b with
   | ofNat b=>simp[ile];omega
   | negSucc b=>simp[ile,jae];omega
def kix:IntKind→Nat
 | .i8=>0 | .i16=>1 | .i32=>2 | .i64=>3 | .u8=>4 | .u16=>5 | .u32=>6 | .u64=>7
def keq (a b:IntKind):Bool:=(kix a).beq (kix b)
theorem jha {a b:IntKind}:keq a b=true↔a=b:=by cases a<;>cases b<;>simp[keq,kix]
def j9b:IntKind→Nat
 | .i8=>128 | .i16=>32768 | .i32=>2147483648 | .i64=>9223372036854775808
 | .u8=>256 | .u16=>65536 | .u32=>4294967296 | .u64=>18446744073709551616
def ko4:IntKind→Bool
 | .i8 | .i16 | .i32 | .i64=>true
 | _=>false
def jwm (k:IntKind) (n:Int):Int:=match n with
 | .ofNat m=>bif(j9b k).ble m then k.wrap n else n
 | .negSucc m=>bif ko4 k&& !((j9b k).ble m) then n else k.wrap n
theorem jtq (k:IntKind) (n:Int) (h0:0≤n) (h:n< (j9b k:Int)):k.wrap n=n:=by
 unfold IntKind.wrap
 cases k<;>simp only[j9b,Int.cast_ofNat_Int] at h<;>simp only[IntKind.bits,IntKind.signed,Bool.true_and,Bool.false_and]<;>simp<;>omega
theorem j5y (k:IntKind) (n:Int) (hk:ko4 k=true) (h0:n<0) (h: -(j9b k:Int)≤n):k.wrap n=n:=by
 unfold IntKind.wrap
 cases k<;>simp only[ko4,reduceCtorEq] at hk<;>simp only[j9b,Int.cast_ofNat_Int] at h<;>simp only[IntKind.bits,IntKind.signed,Bool.true_and]<;>simp<;>omega
theorem jes (k:IntKind) (n:Int):jwm k n=k.wrap n:=by
 cases n with
 | ofNat m=>
   simp only[jwm,jae]
   by_cases h:j9b k≤m
   ·simp only[h,decide_true,cond_true]
   ·simp only[h,decide_false,cond_false]
    rw[jtq k (Int.ofNat m) (Int.natCast_nonneg m) (by simp;omega)]
 | negSucc m=>
   simp only[jwm,jae]
   by_cases h:j9b k≤m
   ·simp only[h,decide_true,Bool.not_true,Bool.and_false,cond_false]
   ·simp only[h,decide_false,Bool.not_false,Bool.and_true]
    cases hk:ko4 k
    ·rfl
    ·rw[j5y k _ hk (by omega) (by omega)];rfl
def j0z:List Nat→List Nat→Bool
 | [],[]=>true
 | a::x,b::y=>a.beq b&&j0z x y
 | _,_=>false
def jrz:List Nat→List Nat→Bool
 | _,[]=>false
 | [],_::_=>true
 | a::x,b::y=>bif a.beq b then jrz x y else a.ble b
theorem jzn:∀(x y:List Nat),j0z x y=true↔x=y
 | [],[]=>by simp[j0z]
 | [],_::_=>by simp[j0z]
 | _::_,[]=>by simp[j0z]
 | a::x,b::y=>by simp[j0z,jaa,jzn x y]
theorem jzh {x y:List UInt8} (h:x.map UInt8.toNat=y.map UInt8.toNat):x=y:=
 List.map_inj_right (fun _ _ e=>UInt8.toNat_inj.1 e) |>.1 h
theorem jr0 (x y:List UInt8):j0z (x.map UInt8.toNat) (y.map UInt8.toNat)=(x==y):=by
 rw[Bool.eq_iff_iff,jzn,beq_iff_eq]
 exact⟨jzh,fun h=>h▸rfl⟩
theorem jvk:∀(x y:List UInt8),jrz (x.map UInt8.toNat) (y.map UInt8.toNat)=Op.bytesLess x y
 | x,[]=>by cases x<;>rfl
 | [],_::_=>rfl
 | a::x,b::y=>by
   simp only[List.map_cons,jrz,Op.bytesLess,jvk x y,jaa,jae]
   by_cases h:a=b
   ·subst h;simp
   ·have h1:a.toNat≠b.toNat:=fun e=>h (UInt8.toNat_inj.1 e)
    have h2:(a==b)=false:=by simp[h]
    simp only[h1,decide_false,cond_false,h2,Bool.false_and,Bool.or_false]
    rw[Bool.eq_iff_iff]
    simp[UInt8.lt_iff_toNat_lt]
    omega
def j3g (op:BinOp) (a b:AV):Option AV:=
 match a,b with
 | .int k x,.int k' y=>
   match op with
   | .shl=>bif ile 0 y then some (.int k (jwm k (x*2^ (min y.toNat k.bits)))) else none
   | .shr=>bif ile 0 y then some (.int k (x.fdiv (2^ (min y.toNat k.bits)))) else none
   | op=>bif keq k k' then(match op with
     | .add=>some (.int k (jwm k (x+y)))
     | .sub=>some (.int k (jwm k (x-y)))
     | .mul=>some (.int k (jwm k (x*y)))
     | .quo=>bif ieq y 0 then none else some (.int k (jwm k (x.tdiv y)))
     | .rem=>bif ieq y 0 then none else some (.int k (x.tmod y))
     | .and=>some (.int k (k.wrap (BitVec.ofInt k.bits x &&& BitVec.ofInt k.bits y).toNat))
     | .or=>some (.int k (k.wrap (BitVec.ofInt k.bits x ||| BitVec.ofInt k.bits y).toNat))
     | .xor=>some (.int k (k.wrap (BitVec.ofInt k.bits x ^^^ BitVec.ofInt k.bits y).toNat))
     | .andNot=>some (.int k (k.wrap (BitVec.ofInt k.bits x &&& ~~~ BitVec.ofInt k.bits y).toNat))
     | .eql=>some (.bool (ieq x y))
     | .neq=>some (.bool (!ieq x y))
     | .lss=>some (.bool (!ile y x))
     | .leq=>some (.bool (ile x y))
     | .gtr=>some (.bool (!ile x y))
     | .geq=>some (.bool (ile y x))
     | _=>none) else none
 | .str s,.str t=>
   match op with
   | .add=>bif(s.length+t.length).ble 4000000000 then some (.str (s++t)) else none
   | .eql=>some (.bool (j0z s t))
   | .neq=>some (.bool (!j0z s t))
   | .lss=>some (.bool (jrz s t))
   | .leq=>some (.bool (jrz s t||j0z s t))
   | .gtr=>some (.bool (!(jrz s t||j0z s t)))
   | .geq=>some (.bool (!jrz s t))
   | _=>none
 | _,_=>none
theorem j82 {ρ:RM} {P:Program} {op:BinOp} {a b v:AV} {x y:Value} (w:World) (t:TypeId) (h:j3g op a b=some v) (ha:VR ρ a x) (hb:VR ρ b y):
  ∃v',(binOp op t x y).run P w=.ok v' w∧VR ρ v v':=by
 unfold j3g at h
 split at h
 ·rename_i k n k' m
  simp only[VR] at ha hb
  subst ha;subst hb
  split at h
  ·cases h0:ile 0 m<;>simp only[h0,cond_true,cond_false] at h
   ·cases h
   ·cases h
    rw[jm9] at h0
    have h1:¬m<0:=by have:=of_decide_eq_true h0;omega
    refine⟨_,by simp[binOp,Op.shift,h1];rfl,by simp[VR,jes]⟩
  ·cases h0:ile 0 m<;>simp only[h0,cond_true,cond_false] at h
   ·cases h
   ·cases h
    rw[jm9] at h0
    have h1:¬m<0:=by have:=of_decide_eq_true h0;omega
    refine⟨_,by simp[binOp,Op.shift,h1];rfl,by simp[VR]⟩
  ·rename_i hn1 hn2
   cases h0:keq k k'<;>simp only[h0,cond_true,cond_false] at h
   ·cases h
   ·have hk:=jha.1 h0
    subst hk
    cases op<;>simp only[reduceCtorEq,not_true_eq_false] at h hn1 hn2<;>try (cases h)
    case quo=>
     rw[jsx] at h
     cases h2:(m==0)<;>simp only[h2,cond_true,cond_false] at h
     ·cases h
      have:¬m=0:=by simpa using h2
      exact⟨_,by simp[binOp,Op.intDiv,this];rfl,by simp[VR,jes]⟩
     ·cases h
    case rem=>
     rw[jsx] at h
     cases h2:(m==0)<;>simp only[h2,cond_true,cond_false] at h
     ·cases h
      have:¬m=0:=by simpa using h2
      exact⟨_,by simp[binOp,Op.intDiv,this];rfl,by simp[VR]⟩
     ·cases h
    all_goals
     refine⟨_,by simp[binOp,Op.intArith,Op.intBits,Op.intCmp];rfl,?_⟩
     first
      | (simp[VR,jes,jsx,jm9,bne];done)
      | (simp only[VR,jm9,Value.bool.injEq];rw[Bool.eq_iff_iff];simp)
 ·rename_i s t'
  simp only[VR] at ha hb
  obtain⟨s',rfl,rfl⟩:=ha
  obtain⟨t',rfl,rfl⟩:=hb
  have e1:=jr0 s'.data.toList t'.data.toList
  have e2:=jvk s'.data.toList t'.data.toList
  cases op<;>simp only[reduceCtorEq] at h<;>try (cases h)
  case add=>
   simp only[jae,List.length_map] at h
   by_cases h3:s'.data.toList.length+t'.data.toList.length≤4000000000
   ·simp only[h3,decide_true,cond_true] at h
    cases h
    have h4:¬((s'.size+t'.size:Nat):Int) > IntKind.i64.max:=by
     have:s'.size+t'.size≤4000000000:=by simpa using h3
     simp[IntKind.max,IntKind.signed,IntKind.bits]
     omega
    refine⟨.string (s'++t'),by simp only[binOp,Op.stringOp,h4,if_false];rfl,?_⟩
    simp[VR]
   ·simp only[h3,decide_false,cond_false,reduceCtorEq] at h
  all_goals
   refine⟨_,by simp only[binOp,Op.stringOp,ByteArray.toList_eq,Sem.run_pure];rfl,?_⟩
   simp only[VR,e1,e2]
 ·cases h
end Go.Vm
