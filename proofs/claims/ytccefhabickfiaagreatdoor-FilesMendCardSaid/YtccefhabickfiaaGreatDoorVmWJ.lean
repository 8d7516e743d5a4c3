/- Parts of the proof. -/
import Derived.Test.YtccefhabickfiaaGreatDoorVmWG
set_option linter.unusedSimpArgs false
set_option linter.unusedVariables false
namespace Go.Vm
namespace W
variable {B:Base} {call:FuncId->List AV->Tr Blk->Nat->Nat->bN} {ro:Nat}
abbrev Tg:=Option (Nat×Bool)
abbrev SF:=List (Nat×Tg×AV)
def lkF (k:Nat):Option (Tg×AV)->Option (Tg×AV)
 | none=>none
 | some (none,u)=>some (none,u)
 | some (some (tg,w),u)=>bif Nat.beq tg k then none else some (some (tg,w),u)
def cR:SF->Nat->Option (Tg×AV)
 | [],_=>none
 | (k,g,v)::r,n=>bif Nat.beq k n then some (g,v) else lkF k (cR r n)
def gb (tm:Tr AV):Tg->Bool
 | none=>true
 | some (tg,w)=>match aT tm (.t tg) with
   | .bool b=>b==w
   | _=>false
def SA (t:SF) (tm:Tr AV):Prop:=∀n g v,cR t n=some (g,v)->aT tm (.t n)=cond (gb tm g) v (.tup [])
def gx (t:SF):Nat->Nat×Bool->Option Bool
 | 0,_=>none
 | f+1,(tg,w)=>match cR t tg with
   | some (none,.bool b)=>some (bif w then b else !b)
   | some (some g,.bool b)=>match gx t f g with
     | some p=>some (p&&(bif w then b else !b))
     | none=>none
   | _=>none
theorem SA.set {t:SF} {tm:Tr AV} (h:SA t tm) (d:Nat) (g:Tg) (v v':AV) (hg:∀x,g=some x->x.1≠d) (hv:v'=cond (gb tm g) v (.tup [])):SA ((d,g,v)::t) (tm.set d v'):=by
 have hgb:∀(g:Tg),(∀x,g=some x->x.1≠d)->gb (tm.set d v') g=gb tm g:=by
  intro g hg;cases g with
  | none=>rfl
  | some x=>
    obtain⟨tg,w⟩:=x;have:tg≠d:=hg _ rfl;simp only[gb,qQ];rw[aD this]
 intro n g' u hu;simp only[cR,aL] at hu;rw[qQ];by_cases hn:d=n
 ·subst hn;simp only[bA,aB,aG,aM] at hu;obtain⟨rfl,rfl⟩:=hu;rw[aK rfl,hgb g hg,hv]
 ·simp only[hn,bM,aF] at hu;rw[aD (by omega)];have:cR t n=some (g',u)/\∀x,g'=some x->x.1≠d:=by
   unfold lkF at hu;split at hu
   ·cases hu
   ·rename_i w hl;cases hu;exact⟨hl,λx hx=>by cases hx⟩
   ·rename_i tg w u' hl;rw[aL] at hu;by_cases e:tg=d
    ·simp[e] at hu
    ·simp only[e,bM,aF] at hu;cases hu;exact⟨hl,λx hx=>by cases hx;exact e⟩
  rw[h n g' u this.1,hgb g' this.2]
def nI (t:SF):List Nat->Option Fr
 | []=>some []
 | n::l=>match cR t n with
   | some (none,v)=>match nI t l with
     | some r=>some ((n,v)::r)
     | none=>none
   | _=>none
theorem Fh {t:SF} {tm:Tr AV} (h:SA t tm):∀ {l:List Nat} {r:Fr},nI t l=some r->FA r tm
 | [],r,e=>by cases e;exact λn v hv=>by cases hv
 | n::l,r,e=>by
   simp only[nI] at e;split at e
   ·rename_i v hl;split at e
    ·rename_i r' hr;cases e;have ih:=Fh h hr;intro m u hu;simp only[lk,aL] at hu;by_cases hm:n=m
     ·subst hm;simp only[bA,aB,aG] at hu;subst hu;exact h _ _ _ hl
     ·simp only[hm,bM,aF] at hu;exact ih _ _ hu
    ·cases e
   ·cases e
abbrev PV:=Option (Option Prop×AV)
def i1 (a:Option AV) (k:IntKind->Int->PV):PV:=match a with
 | some (.int d n)=>k d n
 | _=>none
def i2 (a b:Option AV) (k:IntKind->Int->Int->PV):PV:=i1 a λd x=>i1 b λd' y=>bif jO d d' then k d x y else none
def b1 (a:Option AV) (k:Bool->PV):PV:=match a with
 | some (.bool b)=>k b
 | _=>none
section
variable {g:Opd->Option AV} {g':Opd->AV} (hg:∀x v,g x=some v->g' x=v)
include hg
end
end W
end Go.Vm
namespace Go.Vm
namespace W
variable {B:Base} {call:FuncId->List AV->Tr Blk->Nat->Nat->bN} {ro:Nat}
inductive Rd where
 | e (j:Nat)
 | t (k b:Nat) (l:List AV)
inductive Hn where
 | c
 | w
 | pk
 | told (v:AV)
 | ld (r:Rd)
 | ldt (r:Rd) (v:AV)
 | ldg (l:List AV) (v:AV)
 | st (j:Nat)
 | stt (j:Nat) (l:List AV)
 | mk (l:List AV)
 | ap (m:Nat) (rx ry:Rd) (l:List AV)
 | cl (v:AV)
 | cn (m:Nat) (rs:List Rd) (V:List Nat->AV) (N:List Nat->List Ent)
 | g (h:Hn)
structure Rs where
 c:Option Prop
 e:List (Nat×Nat)
 m:Nat
 v:List Nat->AV
 O:List Nat->List Ent
def still:J->Hn->Bool
 | .p _,_=>true
 | .h (.load _ _ _),_=>true
 | .h (.call _ _),.cl _=>true
 | .h (.calld _ _),.cl _=>true
 | .h (.xrow _ _),_=>true
 | _,_=>false
def j5a (d:Option Nat) (g:Tg) (v:AV) (t:SF):SF:=match d with
 | none=>t
 | some d=>(d,g,v)::t
def wS:Option Prop->Prop->Prop
 | none,P=>P
 | some c,P=>c/\P
end W
end Go.Vm
namespace Go.Vm
namespace W
variable {B:Base} {call:FuncId->List AV->Tr Blk->Nat->Nat->bN} {ro:Nat}
section
variable {g:Opd->Option AV} {tm:Tr AV} (hg:∀x v,g x=some v->aT tm x=v)
include hg
end
theorem SA.put {t:SF} {tm:Tr AV} (h:SA t tm) (d:Option Nat) (v:AV):SA (j5a d none v t) (kY d v tm):=by
 cases d with
 | none=>exact h
 | some d=>exact h.set d none v v (λ_ h=>by cases h) rfl
section
variable {ops:List COp} {r:CC} {t:Fr} {O:List Ent} {Q:Ex->Fr->List Ent->Prop} {P:(Nat->Nat)->Prop} {L:(Nat->Nat)->List Nat} {t':(Nat->Nat)->Fr} {O':(Nat->Nat)->List Ent}
end
end W
end Go.Vm
namespace Go.Vm
namespace W
variable {B:Base} {call:FuncId->List AV->Tr Blk->Nat->Nat->bN} {ro:Nat} {t:Fr} {O:List Ent} {Q:Ex->Fr->List Ent->Prop} {K:Fr->List Ent->Prop}
end W
end Go.Vm
