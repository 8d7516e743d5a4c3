/- Parts of the proof. -/
import Derived.Test.YtccefhabickfiaaGreatDoorXG4
import Derived.Test.YtccefhabickfiaaGreatDoorXGW
set_option linter.unusedSimpArgs false
set_option linter.defProp false
set_option linter.unusedVariables false
namespace Go.Vm
namespace X
open W
def iZ:(t:Ty)->t.den->List AV
 | .int k,x=>[.int k x]
 | .bool,x=>[.bool x]
 | .str,x=>[.str x]
 | .unit,_=>[]
 | .prod a b,x=>iZ a x.1++iZ b x.2
 | .arr _ t,x=>List.flatMap (iZ t) x
 | .sl _,_ | .slx _,_=>[.nils]
def encV (t:Ty) (x:t.den):AV:=bif t.agg then .agg (iZ t x) else(iZ t x).headD .nils
def Ty.flat:Ty->Bool
 | .prod a b=>a.flat&&b.flat
 | .arr _ _ | .sl _ | .slx _=>false
 | _=>true
def Zl {F:aQ}:∀(t:Ty),t.flat=true->∀x:t.den,aX F t x (iZ t x)
 | .int k,_,x=>rfl
 | .bool,_,x=>rfl
 | .str,_,x=>rfl
 | .unit,_,x=>rfl
 | .prod a b,h,x=>by
   simp only[Ty.flat,aN] at h;exact⟨_,_,rfl,Zl a h.1 x.1,Zl b h.2 x.2⟩
def Qt:∀ {t:Ty},t.flat=true->t.ok=true
 | .int _,_=>rfl
 | .bool,_=>rfl
 | .str,_=>rfl
 | .unit,_=>rfl
 | .prod a b,h=>by
   simp only[Ty.flat,aN] at h;simp only[Ty.ok,Qt h.1,Qt h.2,kH]
def ji6 {F:aQ} {t:Ty} (h:t.flat=true) (x:t.den):Rel F t x (encV t x):=by
 have:=Zl (F:=F) t h x;cases t<;>first | (cases h;done) | exact⟨_,rfl,this⟩ | exact this
def qO (t:Ty) (x:t.den):List AV:=match t with
 | .sl (.int k)=>uD k x
 | t=>[encV t x]
def Ty.item:Ty->Bool
 | .sl (.int _)=>true
 | t=>t.flat
def fP (use:Bool) (free:List AV) (t:Ty) (x:t.den):List AV:=bif use then(match free with
 | .ptr b _::_=>zT b (encV t x)
 | _=>qO t x) else qO t x
def noSl:AV->Bool
 | .sl _ _ _ _ _=>false
 | _=>true
def Zk:∀(t:Ty),t.flat=true->∀x:t.den,(iZ t x).all noSl=true
 | .int k,_,x=>rfl
 | .bool,_,x=>rfl
 | .str,_,x=>rfl
 | .unit,_,x=>rfl
 | .prod a b,h,x=>by
   simp only[Ty.flat,aN] at h;simp only[iZ,Bm,Zk a h.1 x.1,Zk b h.2 x.2,kH]
def Zp {t:Ty} (h:t.flat=true) (x:t.den) {a b c:Nat} {d:Option Nat} {l:List AV} (he:encV t x=.agg (.sl a b c d 0::l)):False:=by
 have h1:=Zk t h x;unfold encV at he;cases ha:t.agg with
 | true=>
   rw[ha] at he;simp only[aB,AV.agg.injEq] at he;rw[he] at h1;simp[noSl] at h1
 | false=>
   rw[ha] at he;cases t<;>first | (cases h;done) | (cases ha;done) | (simp[iZ] at he;done)
def jya {t:Ty} (h:t.flat=true) (x:t.den) (H:Tr Blk) (nx:Nat):gE [encV t x] H nx=([encV t x],H,nx):=by
 unfold gE;split
 ·rename_i he;injection he with he;exact(Zp h x he).elim
 ·rename_i he;injection he with he;exact(Zp h x he).elim
 ·rfl
def ji4 {t:Ty} (h:t.flat=true) (x:t.den):qO t x=[encV t x]:=by
 unfold qO;split
 ·cases h
 ·rfl
def jx9 (use:Bool) (free:List AV) (t:Ty) (x:t.den):(fP use free t x).length.beq 1=true:=by
 have h1:(qO t x).length.beq 1=true:=by
  unfold qO;split<;>rfl
 unfold fP;cases use<;>simp only[aB,aF]
 ·exact h1
 ·split
  ·rfl
  ·exact h1
@[reducible] def rN:List Ty->Type
  | []=>Unit
  | t::l=>t.den×rN l
def yZ (F:aQ) (H:Tr Blk):(l:List Ty)->rN l->List AV->Prop
 | [],_,vs=>vs=[]
 | t::l,x,vs=>∃b m vs',vs=.ptr b 0::vs'/\HB.At H b (.cells m)/\aX F t x.1 m/\yZ F H l x.2 vs'
def Ol (G:bE) (H:Tr Blk):Prop:=∀b t n L,cL G (gB+b)=some (.fix t n L)->∃m,HB.At H b (.cells m)/\List.length (α:=t.den) L=n/\bO (aX [] t) L m
def jfl {B:Base} {ro nx:Nat} {O:List Ent} {ν:Nm} {G:bE} {H:Tr Blk} (hk:HK B ro O H nx) (hg:GRel B ν G):Ol G H:=λb t n L h=>by
 obtain⟨_,_,_,E,⟨w,m,rfl,h1,h2⟩,h3⟩:=hg.2 _ _ h;obtain⟨h4,h5⟩:=h3 _ (bF.2 rfl);rw[hg.1] at h4 h5;exact⟨m,h5.congr (hk.base _ h4),h1,h2⟩
structure ITE where
 f:FuncId
 ins:List Ty
 item:Ty
 run:rN ins->Option (List item.den)
 mf:zB
 key:rN ins->List AV
 need:bE->Bool
 use:Bool
 ok:∀(G:bE) (F:aQ) (H:Tr Blk) (cap:rN ins) (free:List AV) (l:List item.den),need G=true->Ol G H->yZ F H ins cap free->(∀x∈F,x.2.At H x.1)->run cap=some l->mf free H=some (l.map λy=>fP use free item y,key cap)
 ls:nV
 inl:Ef ls f=some mf
inductive AC where
 | skip
 | region (ops:List COp)
 | seq (a b:AC)
 | cond (c:Opd) (a b:AC)
 | block (id:Nat) (b:AC)
 | loop (sl:List (Pl×Rep)) (b:AC)
 | join (mb:List Pl) (sl:List (Pl×Rep)) (a:AC)
 | rangeF (x:Opd) (it:ITE) (p:Nat) (as:List COp) (sl:List (Pl×Rep)) (b:AC)
 | exit (id:Nat)
 | ret
 | bad
def AC.cc:AC->CC
 | .skip=>.skip
 | .region ops=>.region ops
 | .seq a b=>.seq a.cc b.cc
 | .cond c a b=>.cond c a.cc b.cc
 | .block id b=>.block id b.cc
 | .loop _ b=>.loop b.cc
 | .join _ _ a=>a.cc
 | .rangeF x it p as _ b=>.rangeF x it.ls [p] as b.cc
 | .exit id=>.exit id
 | .ret=>.ret
 | .bad=>.bad
def jrg (it:ITE) (free:List SV) (mv:bE):Option bE:=bif it.use then(match free with
 | [.ptr b 0]=>(match cL mv b with
   | some (.lit _)=>bif it.item.flat then some (eM mv b) else none
   | _=>none)
 | _=>none) else some mv
def AC.asg:AC->List Nat
 | .region ops=>ops.filterMap COp.dst
 | .seq a b | .cond _ a b=>a.asg++b.asg
 | .block _ b | .loop _ b | .join _ _ b=>b.asg
 | _=>[]
def Pl.bk (b0:Nat):Pl->Nat
 | .t n=>n
 | .b m | .o m=>b0+m
 | .bm m | .om m=>b0-m
abbrev CH:=∀(α:Type),Bool->FuncId->List SV->Env->St->(SV->St->Option α)->Option α
def aA {α:Type} (c:Bool) (x:Option α):Option α:=bif c then x else none
abbrev lF {α:Type} (c:Option Bool) (x:Option α):Option α:=match c with
 | none=>x
 | some c=>aA c x
abbrev sw {α:Type} (c:Bool) (x y:Option α):Option α:=match c with
 | true=>x
 | false=>y
def Vl {α:Type} {c:Bool} {x y:Option α}:sw c x y=cond c x y:=by cases c<;>rfl
def jxl {α:Type} {c:Bool} {x:Option α} {r:α} (h:aA c x=some r):c=true/\x=some r:=aR h
def nA {α:Type} {c:Option Bool} {x:Option α} {r:α} (h:lF c x=some r):dT c=true/\x=some r:=by
 cases c with
 | none=>exact⟨rfl,h⟩
 | some c=>exact jxl h
def nS {α:Type} {c:Bool} {x:Option α} {r:α} (h:sw c x none=some r):c=true/\x=some r:=by
 cases c with
 | true=>exact⟨rfl,h⟩
 | false=>cases h
def Nb {α:Type} {c:Bool} {x:Option α} {r:α} (h:sw c none x=some r):c=false/\x=some r:=by
 cases c with
 | true=>cases h
 | false=>exact⟨rfl,h⟩
def cN {σ β:Type} (step:(σ->Option β)->σ->Option β):Nat->σ->Option β
 | 0,_=>none
 | n+1,x=>step (cN step n) x
def jn {σ β:Type} (k:σ->Option β) (f:(σ->Option β)->Option β):Option β:=f k
structure Hint where
 ty:List (Nat×Ty)
 td:List Nat
def Hint.t (h:Hint):Option Nat->Option Ty
  | none=>none
  | some d=>go h.ty d
 where go:List (Nat×Ty)->Nat->Option Ty
  | [],_=>none
  | (n,t)::r,d=>bif Nat.beq n d then some t else go r d
def iR (n:Nat):List Nat->Bool
 | []=>false
 | m::r=>Nat.beq m n||iR n r
def Hint.w (h:Hint):Option Nat->Bool
 | none=>false
 | some d=>iR d h.td
def setD (d:Option Nat) (s:SV) (S:St):St:=match d with
 | none=>S
 | some d=>{ S with fr:=(d,s)::S.fr }
def opS (e:Env) (S:St):Opd->Option SV
 | .t n=>cR (S.fr++e.ct) n
 | .c v=>Kp v
def Iy {α:Type} (x:Int) (f:Nat->Option α):Nat->Option α
 | 0=>none
 | n+1=>bif decide (x=(n:Int)) then f n else Iy x f n
def Yu {α:Type} {x:Int} {f:Nat->Option α} {r:α}:∀ {n:Nat},Iy x f n=some r->∃j:Nat,j<n/\x=(j:Int)/\f j=some r
 | 0,h=>by cases h
 | n+1,h=>by
   simp only[Iy] at h;cases hd:decide (x=(n:Int)) with
   | true=>
     rw[hd] at h;exact⟨n,Nat.lt_succ_self n,of_decide_eq_true hd,h⟩
   | false=>
     rw[hd] at h;obtain⟨j,h1,h2⟩:=Yu h;exact⟨j,Nat.lt_succ_of_lt h1,h2⟩
def jkx:I->Bool
 | .iadA .. | .idxA .. =>true
 | _=>false
def sxI {α:Type} (g:Opd->Option SV):I->(SV->Option α)->Option α
 | .iadA n z x i,f=>match g x,g i with
   | some (.ptr b o),some (.int _ m)=>Iy m (λj=>f (.ptr b (o+j*z))) n
   | _,_=>none
 | .idxA agg n z x i,f=>match g x,g i with
   | some (.agg l),some (.int _ m)=>Iy m (λj=>sw ((j*z+z).ble l.length) (match mkS agg ((l.drop (j*z)).take z) with
     | some s=>f s
     | none=>none) none) n
   | _,_=>none
 | _,_=>none
def j8c {α:Type} {g:Opd->Option SV} {g':Opd->AV} {ν:Nm} {F:aQ} (hg:∀x s,g x=some s->aJ ν F s (g' x)) {i:I} {f:SV->Option α} {r:α} (h:sxI g i f=some r):∃v s,bD g' i=some v/\aJ ν F s v/\f s=some r:=by
 unfold sxI at h;split at h<;>try (cases h;done)
 ·split at h<;>try (cases h;done)
  rename_i hx hi;obtain⟨j,h1,rfl,h2⟩:=Yu h;have e1:=hg _ _ hx;have e2:=hg _ _ hi;simp only[aJ] at e1 e2;rename_i n z _ _ _ _ b o k;have h3:n.ble j=false:=by rw[aP];simp;omega
  exact⟨.ptr (ν b).1 (o+j*z),.ptr b (o+j*z),by simp only[bD,e1,e2,<-qft,h3,aF],rfl,h2⟩
 ·split at h<;>try (cases h;done)
  rename_i hx hi;obtain⟨j,h1,rfl,h2⟩:=Yu h;obtain⟨hb,h2⟩:=nS h2;split at h2<;>try (cases h2;done)
  rename_i s hs;obtain⟨m,e1,hm⟩:=hg _ _ hx;have e2:=hg _ _ hi;simp only[aJ] at e2;obtain⟨v,k1,k2⟩:=Kn hs (oX _ (nY _ hm));rw[jL hm] at hb;have h3:∀ {n:Nat},j<n->n.ble j=false:=λh=>by rw[aP];simp;exact h
  have h3:=h3 h1;exact⟨v,s,by simp only[bD,e1,e2,<-qft,hb,h3,fC,Bn,aF,k1],k2,h2⟩
def jia (ov:List SV) (k:Nat) (c:List SV):Bool:=Nat.blt k c.length&&(List.range c.length).all λi=>i.beq k||(match (c[i]?).bind Ax with
 | some (b,o)=>ov.any λs=>match Ax s with
   | some (b',o')=>b'.beq b&&o'.beq o
   | none=>false
 | none=>false)
def Zx (e:Env) (S:St) (x:Opd):Bool:=match (opS e S x).bind Ax with
 | some (b,0)=>e.ov.any λs=>match s with
   | .cptr b' f k c=>b'.beq b&&jia e.ov k c
   | _=>false
 | _=>false
section
variable {α:Type} (ch:CH) (hn:Hint) (e:Env)
def yW (o:COp) (S:St) (k:St->Option α):Option α:=
 match o.j with
 | .p i=>sw (hn.w o.dst&&jkx i) (sxI (opS e S) i λs=>k (setD o.dst s S)) (match sp (opS e S) (look e S) (hn.w o.dst) i with
   | some (c,s)=>lF c (k (setD o.dst s S))
   | none=>none)
 | .h i=>match i with
   | .load agg n x=>sw o.ex.isEmpty (match opS e S x with
     | some p=>match Rq (look e S) agg n p with
       | some s=>k (setD o.dst s S)
       | none=>none
     | none=>none) none
   | .store n x v=>sw o.q none (match opS e S x,opS e S v with
     | some p,some u=>match jcr p with
       | some b=>sw (o.ex.all (λy=>match opS e S y with
          | some p'=>Pg e S b p'
          | none=>false)) (match Mx S.mv n p u with
         | some mv=>k (setD o.dst (.tup []) { S with mv:=mv })
         | none=>none) none
       | none=>none
     | _,_=>none)
   | .app z bytes x y=>match opS e S x,opS e S y with
     | some x,some y=>sw (o.ex.isEmpty||Zw (opS e S) e S o.ex x) (match Pi e S o.q z bytes x y with
       | some (c,s,S)=>lF c (k (setD o.dst s S))
       | none=>none) none
     | _,_=>none
   | .call f args=>sw (o.ex.isEmpty||(!o.q&&o.ex.all (Zx e S))) (match Bx (opS e S) args with
     | some ss=>ch α o.q f ss e S λs S=>k (setD o.dst s S)
     | none=>none) none
   | .calld f args=>sw o.ex.isEmpty (match opS e S f,Bx (opS e S) args with
     | some (.fn f a c),some ss=>ch α o.q f (a++ss++c) e S λs S=>k (setD o.dst s S)
     | _,_=>none) none
   | .mkmap r=>sw o.ex.isEmpty (match Ew (opS e S) e S o.q (hn.t o.dst) (.mkmap r) with
     | some (c,s,S)=>lF c (k (setD o.dst s S))
     | none=>none) none
   | .mlook ag ks z ok x y=>sw o.ex.isEmpty (match Ew (opS e S) e S o.q (hn.t o.dst) (.mlook ag ks z ok x y) with
     | some (c,s,S)=>lF c (k (setD o.dst s S))
     | none=>none) none
   | .mset ag ks x y v=>sw o.ex.isEmpty (match Ew (opS e S) e S o.q (hn.t o.dst) (.mset ag ks x y v) with
     | some (c,s,S)=>lF c (k (setD o.dst s S))
     | none=>none) none
   | .copy z x y=>sw o.ex.isEmpty (match Ew (opS e S) e S o.q (hn.t o.dst) (.copy z x y) with
     | some (c,s,S)=>lF c (k (setD o.dst s S))
     | none=>none) none
   | i=>sw o.ex.isEmpty (match jb2 (opS e S) e S (hn.t o.dst) i with
     | some (c,s,S)=>lF c (k (setD o.dst s S))
     | none=>none) none
def jd2 (o:COp) (S:St) (k:St->Option α):Option α:=
 match o.guard with
 | none=>yW ch hn e o S k
 | some (t,w)=>match cR (S.fr++e.ct) t with
   | some .tt=>sw w (yW ch hn e o S k) (k (setD o.dst (.tup []) S))
   | some .ff=>sw w (k (setD o.dst (.tup []) S)) (yW ch hn e o S k)
   | some (.bool b)=>bif b then sw w (yW ch hn e o { S with fr:=(t,.tt)::S.fr } k) (k (setD o.dst (.tup []) { S with fr:=(t,.tt)::S.fr }))
      else sw w (k (setD o.dst (.tup []) { S with fr:=(t,.ff)::S.fr })) (yW ch hn e o { S with fr:=(t,.ff)::S.fr } k)
   | some (.tup l)=>match l with
     | []=>k (setD o.dst (.tup []) S)
     | _::_=>none
   | _=>none
def Nc:List COp->St->(St->Option α)->Option α
 | [],S,k=>k S
 | o::r,S,k=>jd2 ch hn e o S λS=>Nc r S k
end
def zO (fr ct:gV):Bool:=fr.all λx=>(cR ct x.1).isNone
def dd:gV->gV
 | []=>[]
 | (n,v)::r=>(n,v)::(dd r).filter λx=> !(Nat.beq x.1 n)
def Aq:List (Pl×Rep)->Bool
 | []=>true
 | (.t _,_)::_=>false
 | _::l=>Aq l
def jh9 (t:Ty):SB->Option t.den
 | .lit cs=>jE qW t cs
 | _=>none
def Iw (lm:Nat->Option SB):(l:List Ty)->List SV->Option (rN l)
 | [],ss=>match ss with
   | []=>some ()
   | _=>none
 | t::l,ss=>match ss with
   | .ptr b 0::ss=>match lm b with
     | some sb=>match jh9 t sb,Iw lm l ss with
       | some x,some xs=>some (x,xs)
       | _,_=>none
     | none=>none
   | _=>none
def Rr (mc G:bE) (b:Nat):Option SB:=match cL mc b with
 | some x=>some x
 | none=>cL G b
def lK {ι σ β:Type} (done:σ->Option β) (step:ι->(σ->Option β)->σ->Option β):List ι->σ->Option β
 | [],x=>done x
 | y::l,x=>step y (lK done step l) x
def lG (e:Env) (fr:gV) (v:SV) (mv:bE):Env:={ e with ct:=fr++e.ct,ov:=v::((dd (fr++e.ct)).map Prod.snd++e.ov),mc:=mv++e.mc }
def nI (sl:List (Pl×Rep)) (b0:Nat) (fr:gV) (nc:Nat) (mv:bE):Option (Option Bool×bE×eE (sl.map Prod.snd)):=
 match tV fr nc ((sl.map Prod.fst).map (Pl.sh b0)) mv with
 | some (ss,mv)=>qP (sl.map Prod.snd) mv ss
 | none=>none
def vC (sl:List (Pl×Rep)) (x:eE (sl.map Prod.snd)) (e:Env) (nc:Nat):Option St:=
 match sG (sl.map Prod.snd) x e ⟨[],[],nc⟩ with
 | some (ss,S)=>sE ((sl.map Prod.fst).map (Pl.sh e.b0)) ss S
 | none=>none
def jB (asg:List Nat) (fr:gV):gV:=fr.filter λx=> !(iR x.1 asg)
def Ez (mb:List Nat) (mv:bE):bE:=mv.filter λx=> !(iR x.1 mb)
section
variable {α:Type} (N:Nat) (ch:CH) (hn:Hint)
def sx:AC->Env->St->(Ex->St->Option α)->Option α
 | .skip,e,S,k=>k .normal S
 | .region ops,e,S,k=>Nc ch hn e ops S λS=>k .normal S
 | .seq a b,e,S,k=>sx a e S λex S=>match ex with
   | .normal=>sx b e S k
   | ex=>k ex S
 | .cond c a b,e,S,k=>match opS e S c with
   | some .tt=>sx a e S k
   | some .ff=>sx b e S k
   | some (.bool p)=>bif p then sx a e S k else sx b e S k
   | _=>none
 | .block id b,e,S,k=>sx b e S λex S=>match ex with
   | .exit i=>sw (i.beq id) (k .normal S) (k (.exit i) S)
   | ex=>k ex S
 | .loop sl b,e,S,k=>
   sw (e.ct.any (λx=>iR x.1 b.asg)) none (match nI sl e.b0 (S.fr++e.ct) S.nc S.mv with
   | none=>none
   | some (c,mv,x)=>lF c (cN (λrec x=>
      match vC sl x { e with ct:=jB b.asg S.fr++e.ct,mc:=mv++e.mc } S.nc with
      | none=>none
      | some S1=>sx b { e with ct:=jB b.asg S.fr++e.ct,mc:=mv++e.mc } S1 λex S2=>match ex with
        | .normal=>sw (zO S2.fr (jB b.asg S.fr++e.ct)) (match nI sl e.b0 (S2.fr++(jB b.asg S.fr++e.ct)) S.nc S2.mv with
          | none=>none
          | some (c,_,x)=>lF c (rec x)) none
        | ex=>k ex ⟨S2.fr++jB b.asg S.fr,S2.mv++mv,S2.nc⟩) N x))
 | .join mb sl a,e,S,k=>jn (λx=>match vC sl x { e with ct:=jB a.asg S.fr++e.ct,mc:=Ez (mb.map (Pl.bk e.b0)) S.mv++e.mc } S.nc with
     | none=>none
     | some S1=>k .normal ⟨S1.fr++jB a.asg S.fr,S1.mv++Ez (mb.map (Pl.bk e.b0)) S.mv,S1.nc⟩) λj=>
   sw (e.ct.any (λx=>iR x.1 a.asg)) none (sx a { e with ct:=jB a.asg S.fr++e.ct,mc:=Ez (mb.map (Pl.bk e.b0)) S.mv++e.mc } ⟨S.fr.filter (λx=>iR x.1 a.asg),S.mv.filter (λx=>iR x.1 (mb.map (Pl.bk e.b0))),S.nc⟩ λex S2=>match ex with
    | .normal=>sw (zO S2.fr (jB a.asg S.fr++e.ct)) (match nI sl e.b0 (S2.fr++(jB a.asg S.fr++e.ct)) S.nc S2.mv with
      | none=>none
      | some (c,_,x)=>lF c (j x)) none
    | ex=>k ex ⟨S2.fr++jB a.asg S.fr,S2.mv++Ez (mb.map (Pl.bk e.b0)) S.mv,S2.nc⟩)
 | .rangeF x it p as sl b,e,S,k=>match opS e S x with
   | some (.fn f [] free)=>sw (Nat.beq f it.f&&Aq sl&&it.item.item&&it.need e.G) (match nI sl e.b0 [] S.nc S.mv with
     | none=>none
     | some (c,mv0,x0)=>lF c (match Iw (Rr (mv0++e.mc) e.G) it.ins free,jrg it free mv0 with
       | some cap,some mv=>(it.run cap).bind λl=>lK (λx=>match vC sl x (lG e S.fr (.fn f [] free) mv) S.nc with
          | none=>none
          | some S1=>k .normal ⟨S.fr,S1.mv++mv,S1.nc⟩)
         (λy rec x=>match vC sl x (lG e S.fr (.fn f [] free) mv) S.nc with
           | none=>none
           | some S1=>Nc ch hn (lG e S.fr (.fn f [] free) mv) as ⟨[(p,qS it.item y)],S1.mv,S1.nc⟩ λS2=>sx b (lG e S.fr (.fn f [] free) mv) S2 λex S3=>match ex with
             | .normal=>match nI sl e.b0 [] S.nc S3.mv with
               | none=>none
               | some (c,_,x)=>lF c (rec x)
             | ex=>k ex ⟨S.fr,S3.mv++mv,S3.nc⟩) l x0
       | _,_=>none)) none
   | _=>none
 | .exit id,e,S,k=>k (.exit id) S
 | .ret,e,S,k=>k .ret S
 | .bad,_,_,_=>none
end
variable {B:Base} {call:FuncId->List AV->Tr Blk->Nat->Nat->bN} {ro:Nat} {e:Env} {c:Cnv} {S:St} {tm:Tr AV} {H:Tr Blk} {nx:Nat} {ν:Nm} {F:aQ} {M R:List Ent}
def mY (B:Base) (call:FuncId->List AV->Tr Blk->Nat->Nat->bN) (ch:CH):Prop:=
 ∀(α:Type) q f ss e S (k:SV->St->Option α) r,ch α q f ss e S k=some r->∀ro c tm H nx ν F M R,ConX B ro e c S tm H nx ν F M R->∀vs,bC ν F ss vs->
  ∃v H' nx' s S' ν' F' M' R',call f vs H nx (bif q then nx else ro)=some (v,H',nx')/\ConX B ro e c S' tm H' nx' ν' F' M' R'/\aJ ν' F' s v/\k s S'=some r
def ConX.setD (h:ConX B ro e c S tm H nx ν F M R) {s:SV} {v:AV} (hv:aJ ν F s v) (d:Option Nat):ConX B ro e c (X.setD d s S) (kY d v tm) H nx ν F M R:=by
 cases d with
 | none=>exact h
 | some d=>
   refine⟨h.hk,λn u hu=>?_,h.ov,h.mv,h.wr,h.mc,h.fz,h.gl⟩;simp only[X.setD,eW,cR] at hu;simp only[kY,qQ];cases hb:Nat.beq d n<;>rw[hb] at hu<;>simp only[aB,aF] at hu
   ·rw[aL,eH] at hb;rw[aD (λh=>hb h.symm)];exact h.fr n u hu
   ·rw[aL,aH] at hb;subst hb;cases hu;rw[aK rfl];exact hv
def ConX.opS (h:ConX B ro e c S tm H nx ν F M R):∀x s,X.opS e S x=some s->aJ ν F s (aT tm x):=by
 intro x s hx;cases x with
 | t n=>exact h.fr n s hx
 | c v=>exact jce h.gl.1 hx
def Xb {α:Type} (B:Base) (call:FuncId->List AV->Tr Blk->Nat->Nat->bN) (ro:Nat) (e:Env) (c:Cnv) (o:COp) (tm:Tr AV) (H:Tr Blk) (nx:Nat) (k:St->Option α) (r:α):Prop:=
 ∃v H' nx' S',gH call ro o tm H nx=some (v,H',nx')/\mM B ro e c S' (kY o.dst v tm) H' nx'/\k S'=some r
def jgc {l:List SV} {m:List AV} {s:SV}:bC ν F l m->s∈l->∃(i:Nat) (v:AV),l[i]?=some s/\m[i]?=some v/\aJ ν F s v:=λh hs=>by
 obtain⟨i,hi⟩:=Li hs;obtain⟨v,h1,h2⟩:=wQ h hi;exact⟨i,v,hi,h1,h2⟩
def jn9:∀ {l:List AV},(∀v∈l,∃b o,v=.ptr b o)->Fo l l=true
 | [],_=>rfl
 | v::l,h=>by
   obtain⟨b,o,rfl⟩:=h v (bY ..);simp only[Fo,dP,sV];exact jn9 λv hv=>h v (bX _ hv)
def jyo {S':St} {H':Tr Blk} {nx':Nat} {ν':Nm} {F':aQ} {M' R':List Ent} (h:ConX B ro e c S tm H nx ν F M R) (h2:ConX B ro e c S' tm H' nx' ν' F' M' R') {x:Opd} (hx:Zx e S x=true):
  ∃b v,aT tm x=.ptr b 0/\HB.At H b (.cells [v])/\HB.At H' b (.cells [v])/\Du v v=true:=by
 unfold Zx at hx;split at hx<;>try (cases hx;done)
 rename_i b0 hb;rw[dN] at hb;obtain⟨s,hs,hb⟩:=hb;have hxv:=Ay hb (h.opS _ _ hs);obtain⟨s',hs',hq⟩:=Ga.1 hx;split at hq<;>try (cases hq;done)
 rename_i b1 f k cs;simp only[aN,aL,aH] at hq;obtain⟨rfl,hcap⟩:=hq;obtain⟨j,a,hj,ha,⟨e1,c1,f1,g1,r1⟩⟩:=jgc h.ov hs';obtain⟨a2,ha2,⟨e2,c2,f2,g2,r2⟩⟩:=wQ h2.ov hj;obtain rfl:a=a2:=kF (ha.symm.trans ha2);have eb:(ν b1).1=(ν' b1).1:=by rw[e1] at e2;simpa using e2
 unfold jia at hcap;simp only[aN] at hcap;obtain⟨_,hcap⟩:=hcap;have l1:=jL r1;have l2:=jL r2;simp only[yI] at l1 l2;have key:∀i,i<cs.length->∃b o,c1[i]?=some (.ptr b o)/\c2[i]?=some (.ptr b o):=by
  intro i hi;by_cases hik:i=k
  ·subst hik;exact⟨_,_,by rw[g1,e1],by rw[g2,e1]⟩
  ·have:=bS.1 hcap i (jI.2 hi);rw[kD] at this;rcases this with this | this
   ·rw[aL,aH] at this;exact absurd this hik
   ·split at this<;>try (cases this;done)
    rename_i b o hbo;rw[dN] at hbo;obtain⟨u,hu,hbo⟩:=hbo;obtain⟨u',hu',hq⟩:=Ga.1 this;split at hq<;>try (cases hq;done)
    rename_i b' o' hbo';simp only[aN,aL,aH] at hq;obtain⟨rfl,rfl⟩:=hq;obtain⟨j',y,hj',hy,hyr⟩:=jgc h.ov hu';obtain⟨y2,hy2,hyr2⟩:=wQ h2.ov hj';obtain rfl:y=y2:=kF (hy.symm.trans hy2);have q1:=Ay hbo' hyr;have q2:=Ay hbo' hyr2;obtain⟨w1,p1,p2⟩:=wQ r1 hu;obtain⟨w2,p3,p4⟩:=wQ r2 hu;rw[Fz,aD (λh=>hik h.symm)] at p1 p3;exact⟨_,_,by rw[p1,Ay hbo p2],by rw[p3,Ay hbo p4,<-q2,q1]⟩
 have ec:c1=c2:=by
  refine Bg λi=>?_
  by_cases hi:i<cs.length
  ·obtain⟨b,o,k1,k2⟩:=key i hi;rw[k1,k2]
  ·rw[tW (by omega),tW (by omega)]
 subst ec;refine⟨_,_,hxv,(h.fact f1).2,by rw[eb];exact(h2.fact f2).2,?_⟩;simp only[Du,dP,sV];refine jn9 λv hv=>?_
 obtain⟨i,hi⟩:=Li hv;obtain⟨b,o,k1,_⟩:=key i (by have:=(jG.1 hi).1;omega);rw[hi] at k1;exact⟨b,o,kF k1⟩
def jg4 {H0:Tr Blk}:∀ {ex:List Opd} {H':Tr Blk},(∀x∈ex,∃b v,aT tm x=.ptr b 0/\HB.At H0 b (.cells [v])/\HB.At H' b (.cells [v])/\Du v v=true)->∃H2,rX (aT tm) H0 ex H'=some H2
 | [],H',_=>⟨H',rfl⟩
 | x::ex,H',h=>by
   obtain⟨b,v,h1,⟨c1,h2,h3⟩,⟨c2,h4,h5⟩,h6⟩:=h x (bY ..);have q1:=h3 0 (by simp);have q2:=h5 0 (by simp);simp only[pR] at q1 q2;have hs:Mg (H0.get b) (H'.get b)=true:=by
    rw[h2,h4];simp only[kC,Mg,q1,q2,h6]
   obtain⟨H2,h7⟩:=jg4 (H0:=H0) (ex:=ex) (H':=H'.set b (.cells c1 1)) λy hy=>by
    obtain⟨b',v',k1,k2,k3,k4⟩:=h y (bX _ hy);refine⟨b',v',k1,k2,?_,k4⟩;by_cases hb:b'=b
    ·subst hb;obtain⟨c3,k5,k6⟩:=k2;rw[h2] at k5;cases k5;exact⟨c1,by rw[Tr.get_set,aK rfl];rfl,k6⟩
    ·exact k3.congr (by rw[Tr.get_set,aD hb])
   have e1:rX (aT tm) H0 (x::ex) H'=rX (aT tm) H0 ex (H'.set b (.cells c1 1)):=by
    rw[rX,h1];simp only;rw[hs];simp only[aB];rw[h2];rfl
   exact⟨H2,e1.trans h7⟩
def ConX.back {S':St} {H' H2:Tr Blk} {nx':Nat} {ν':Nm} {F':aQ} {M' R':List Ent} (h:ConX B ro e c S tm H nx ν F M R) (h2:ConX B ro e c S' tm H' nx' ν' F' M' R') {ex:List Opd} (hb:rX (aT tm) H ex H'=some H2):ConX B ro e c S' tm H2 nx' ν' F' M' R':=by
 obtain⟨k1,_⟩:=Dd hb;refine⟨⟨h2.hk.r0,h2.hk.r1,λb hb=>?_,λx hx=>?_,h2.hk.nd⟩,h2.fr,h2.ov,h2.mv,h2.wr,h2.mc,h2.fz,h2.gl⟩
 ·rcases k1 b with h3 | ⟨h3,_⟩
  ·rw[h3];exact h2.hk.base b hb
  ·rw[h3];exact h.hk.base b hb
 ·obtain⟨q1,q2,q3⟩:=h2.hk.ent x hx;refine⟨q1,q2,?_⟩;rcases k1 x.b with h3 | ⟨h3,c1,c2,v,e1,e2,e3,e4⟩
  ·exact q3.congr h3
  ·revert q3
   cases x.c with
   | cells l=>
     rintro ⟨c3,r1,r2⟩;rw[e2] at r1;simp only[aG,Blk.cells.injEq] at r1;obtain⟨rfl,hl⟩:=r1;refine⟨c1,by rw[h3,e1,<-hl],λi hi=>?_⟩;obtain rfl:i=0:=by omega
     rw[e3,<-e4];exact r2 0 hi
   | iter s p=>intro q3;simp only[HB.At] at q3;rw[e2] at q3;cases q3
   | mp m=>intro q3;simp only[HB.At] at q3;rw[e2] at q3;cases q3
def j8d {α:Type} {ch:CH} (hch:mY B call ch) {hn:Hint} {o:COp} {k:St->Option α} {r:α} (h:ConX B ro e c S tm H nx ν F M R) (hs:yW ch hn e o S k=some r):
  ∃v H' nx' S',gM call ro o tm H nx=some (v,H',nx')/\mM B ro e c S' (kY o.dst v tm) H' nx'/\k S'=some r:=by
 unfold yW at hs;split at hs
 ·rename_i i hi;rw[Vl] at hs;cases hw:hn.w o.dst&&jkx i with
  | true=>
    rw[hw] at hs;obtain⟨v,s,h1,h2,hk⟩:=j8c h.opS hs;exact⟨v,H,nx,_,by simp only[gM,hi,h1],⟨ν,F,M,R,h.setD h2 o.dst⟩,hk⟩
  | false=>
    rw[hw] at hs;simp only[aF] at hs;split at hs<;>try (cases hs;done)
    rename_i cc s hsp;obtain⟨hc,hk⟩:=nA hs;obtain⟨v,h1,h2⟩:=j7q h.opS h.heads h.gl.1 (λ_=>rfl) hsp hc;exact⟨v,H,nx,_,by simp only[gM,hi,h1],⟨ν,F,M,R,h.setD h2 o.dst⟩,hk⟩
 ·rename_i i hi;have hop_of:o.ex.isEmpty=true->∀ {v H' nx'},hop call (bif o.q then nx else ro) (aT tm) H nx i=some (v,H',nx')->gM call ro o tm H nx=some (v,H',nx'):=by
   intro hex v H' nx' hh;simp only[gM,hi,hex,Bool.true_or,aB,hh]
  split at hs
  ·rename_i agg n x;obtain⟨hex,hs⟩:=nS hs;split at hs<;>try (cases hs;done)
   rename_i p hp;split at hs<;>try (cases hs;done)
   rename_i s hl;obtain⟨b,o',l,u,h1,h2,h3,h4⟩:=jlm h hl (h.opS _ _ hp);exact⟨u,H,nx,_,hop_of hex (W.hop_load h1 h2 h3),⟨ν,F,M,R,h.setD h4 o.dst⟩,hs⟩
  ·rename_i n x v;obtain⟨hq,hs⟩:=Nb hs;split at hs<;>try (cases hs;done)
   rename_i p u hp hu;split at hs<;>try (cases hs;done)
   rename_i b hpb;obtain⟨hex,hs⟩:=nS hs;split at hs<;>try (cases hs;done)
   rename_i mv hst;obtain⟨b',g1,gs,o',l,g2,g3,g4,g5,g6,g7,g8⟩:=j7x h hst (h.opS _ _ hp) (h.opS _ _ hu);rw[hpb] at g1;cases g1;obtain⟨H',e1,tc,e2,e3⟩:=W.hop_store (call:=call) (nx:=nx) (rr:=bif o.q then nx else ro) (x:=x) (y:=v) g2 rfl g3 (by rw[hq];exact g4) g5 g6 g7;obtain⟨M',hC⟩:=g8 _ (Ok e3 (by rw[g5];exact g7));refine⟨.tup [],H',nx,_,?_,⟨ν,F,M',R,?_⟩,hs⟩
   ·have hx:nB (aT tm) (.store n x v) o.ex=true:=by
     simp only[nB,g2];refine bS.2 λy hy=>?_
     have h1:=bS.1 hex y hy;split at h1
     ·rename_i p' hp';obtain⟨sb,hsb⟩:=lN.1 gs;obtain⟨E,hE,hEp,_⟩:=h.own hsb;have hone:∃z∈E,z.b=(ν b).1:=by
       cases sb with
       | lit l=>obtain⟨w,m,rfl,_⟩:=hE;exact⟨_,bF.2 rfl,rfl⟩
       | fix t n L=>obtain⟨w,m,rfl,_⟩:=hE;exact⟨_,bF.2 rfl,rfl⟩
       | mp k v L=>obtain⟨w,m,rfl,_⟩:=hE;exact⟨_,bF.2 rfl,rfl⟩
       | arr t L cap=>
         obtain⟨h0,hE⟩:=hE;rcases hE with⟨hd,rfl⟩ | ⟨w,m,rfl,_⟩
         ·exfalso;rcases hd with⟨q1,_,q2,_⟩ | ⟨_,_,_,q1,_⟩
          ·have hv1:=h.opS _ _ hp;cases p<;>simp only[jcr,reduceCtorEq,aG] at hpb<;>subst hpb
           ·unfold Mx at hst;simp only[hsb] at hst;obtain⟨_,hst2⟩:=aR hst;cases hst2
           ·obtain⟨_,len,cp,q3,_⟩:=hv1;rw[q1] at q3;cases q3
           ·unfold Mx at hst;simp only[hsb] at hst;obtain⟨_,hst2⟩:=aR hst;cases hst2
          ·cases q1
         ·exact⟨_,bF.2 rfl,rfl⟩
      obtain⟨b2,o2,q1,q2⟩:=jgz h h1 ⟨sb,E,hsb,hE,hone⟩ (jC g4).1 (h.opS _ _ hp');simp only[q1,aL];simp[q2]
     ·cases h1
    simp only[gM,hi,hx,Bool.or_true,aB,e1]
   ·rw[e2];exact hC.setD (s:=.tup []) ⟨[],rfl,rfl⟩ o.dst
  ·rename_i z bytes x y;split at hs<;>try (cases hs;done)
   rename_i sx sy hx hy;obtain⟨hex,hs⟩:=nS hs;split at hs<;>try (cases hs;done)
   rename_i cc s S1 hap;obtain⟨hc,hk⟩:=nA hs;obtain⟨v,H',nx',ν',F',M',R',h1,h2,h3,h4⟩:=jva (call:=call) h.opS h hx hy hap hc;refine⟨v,H',nx',_,?_,⟨ν',F',M',R',h2.setD h3 o.dst⟩,hk⟩;have hex2:(o.ex.isEmpty||nB (aT tm) (.app z bytes x y) o.ex)=true:=by
    rw[kD] at hex ⊢;refine hex.imp id λhex=>jyn h.opS h hex (h.opS _ _ hx) λb hb=>?_
    subst hb;unfold Pi at hap;obtain⟨_,hap⟩:=aR hap;simp only at hap;split at hap<;>try (cases hap;done)
    rename_i t L cap hlk;exact⟨t,L,cap,hlk⟩
   simp only[gM,hi,hex2,aB,h1]
  ·rename_i f args;obtain⟨hex,hs⟩:=nS hs;split at hs<;>try (cases hs;done)
   rename_i ss hss;obtain⟨v,H',nx',s,S',ν',F',M',R',h1,h2,h3,h4⟩:=hch α o.q f ss e S _ r hs ro c tm H nx ν F M R h _ (Mr h.opS hss);cases hex0:o.ex.isEmpty with
   | true=>exact⟨v,H',nx',_,hop_of hex0 (by simp only[hop,xC,h1]),⟨ν',F',M',R',h2.setD h3 o.dst⟩,h4⟩
   | false=>
     rw[hex0,oO,aN,fB] at hex;obtain⟨hq,hex⟩:=hex;rw[hq] at h1;simp only[aF] at h1;obtain⟨H2,hb⟩:=jg4 (tm:=tm) (H0:=H) (ex:=o.ex) (H':=H') λx hx=>jyo h h2 (bS.1 hex x hx)
     refine⟨v,H2,nx',_,?_,⟨ν',F',M',R',(h.back h2 hb).setD h3 o.dst⟩,h4⟩;have hno:nB (aT tm) (.call f args) o.ex=false:=rfl;simp only[gM,hi,hex0,hno,Tw,aF,wV,hq,hop,xC,h1,hb,eX]
  ·rename_i f args;obtain⟨hex,hs⟩:=nS hs;split at hs<;>try (cases hs;done)
   rename_i f' a cc ss hf hss;obtain⟨a',c',e1,k1,k2⟩:=h.opS _ _ hf;obtain⟨v,H',nx',s,S',ν',F',M',R',h1,h2,h3,h4⟩:=hch α o.q f' _ e S _ r hs ro c tm H nx ν F M R h _ (nX (nX k1 (Mr h.opS hss)) k2);exact⟨v,H',nx',_,hop_of hex (by simp only[hop,e1,xC,h1]),⟨ν',F',M',R',h2.setD h3 o.dst⟩,h4⟩
  ·obtain⟨hex,hs⟩:=nS hs;split at hs<;>try (cases hs;done)
   rename_i cc s S1 hnw;obtain⟨hc,hk⟩:=nA hs;obtain⟨v,H',nx',ν',F',M',R',h1,h2,h3,h4⟩:=Rx (call:=call) h.opS h hnw hc;exact⟨v,H',nx',_,hop_of hex h1,⟨ν',F',M',R',h2.setD h3 o.dst⟩,hk⟩
  ·obtain⟨hex,hs⟩:=nS hs;split at hs<;>try (cases hs;done)
   rename_i cc s S1 hnw;obtain⟨hc,hk⟩:=nA hs;obtain⟨v,H',nx',ν',F',M',R',h1,h2,h3,h4⟩:=Rx (call:=call) h.opS h hnw hc;exact⟨v,H',nx',_,hop_of hex h1,⟨ν',F',M',R',h2.setD h3 o.dst⟩,hk⟩
  ·obtain⟨hex,hs⟩:=nS hs;split at hs<;>try (cases hs;done)
   rename_i cc s S1 hnw;obtain⟨hc,hk⟩:=nA hs;obtain⟨v,H',nx',ν',F',M',R',h1,h2,h3,h4⟩:=Rx (call:=call) h.opS h hnw hc;exact⟨v,H',nx',_,hop_of hex h1,⟨ν',F',M',R',h2.setD h3 o.dst⟩,hk⟩
  ·obtain⟨hex,hs⟩:=nS hs;split at hs<;>try (cases hs;done)
   rename_i cc s S1 hnw;obtain⟨hc,hk⟩:=nA hs;obtain⟨v,H',nx',ν',F',M',R',h1,h2,h3,h4⟩:=Rx (call:=call) h.opS h hnw hc;exact⟨v,H',nx',_,hop_of hex h1,⟨ν',F',M',R',h2.setD h3 o.dst⟩,hk⟩
  ·obtain⟨hex,hs⟩:=nS hs;split at hs<;>try (cases hs;done)
   rename_i cc s S1 hnw;obtain⟨hc,hk⟩:=nA hs;obtain⟨v,H',nx',ν',F',M',R',h1,h2,h3,h4⟩:=j07 (call:=call) (rr:=bif o.q then nx else ro) h.opS h hnw hc;exact⟨v,H',nx',_,hop_of hex h1,⟨ν',F',M',R',h2.setD h3 o.dst⟩,hk⟩
def ConX.know (h:ConX B ro e c S tm H nx ν F M R) {t:Nat} {s:SV} (hv:aJ ν F s (aT tm (.t t))):ConX B ro e c { S with fr:=(t,s)::S.fr } tm H nx ν F M R:=by
 refine⟨h.hk,λn u hu=>?_,h.ov,h.mv,h.wr,h.mc,h.fz,h.gl⟩;simp only[eW,cR] at hu;cases hb:Nat.beq t n<;>rw[hb] at hu<;>simp only[aB,aF] at hu
 ·exact h.fr n u hu
 ·rw[aL,aH] at hb;subst hb;cases hu;exact hv
def j8e {α:Type} {ch:CH} (hch:mY B call ch) {hn:Hint} {o:COp} {k:St->Option α} {r:α} (h:ConX B ro e c S tm H nx ν F M R) (hs:jd2 ch hn e o S k=some r):Xb B call ro e c o tm H nx k r:=by
 unfold jd2 at hs;have skip:∀ {S:St},ConX B ro e c S tm H nx ν F M R->k (setD o.dst (.tup []) S)=some r->gH call ro o tm H nx=some (.tup [],H,nx)->Xb B call ro e c o tm H nx k r:=λhC hk hr=>
  ⟨_,H,nx,_,hr,⟨ν,F,M,R,hC.setD (s:=.tup []) ⟨[],rfl,rfl⟩ o.dst⟩,hk⟩
 have doit:∀ {S:St},ConX B ro e c S tm H nx ν F M R->yW ch hn e o S k=some r->gH call ro o tm H nx=gM call ro o tm H nx->Xb B call ro e c o tm H nx k r:=λhC hk hr=>by
  obtain⟨v,H',nx',S',h1,h2,h3⟩:=j8d hch hC hk;exact⟨v,H',nx',S',hr.trans h1,h2,h3⟩
 split at hs
 ·rename_i hg;exact doit h hs (by unfold gH;rw[hg])
 ·rename_i t w hg;have run_t:∀ {b:Bool},aT tm (.t t)=.bool b->gH call ro o tm H nx=bif b==w then gM call ro o tm H nx else some (.tup [],H,nx):=by
   intro b hb;unfold gH;rw[hg];simp only[hb]
  split at hs<;>try (cases hs;done)
  ·rename_i hl;have hv:aT tm (.t t)=.bool true:=h.fr t _ hl;have:=run_t hv;cases w with
   | true=>exact doit h hs this
   | false=>exact skip h hs this
  ·rename_i hl;have hv:aT tm (.t t)=.bool false:=h.fr t _ hl;have:=run_t hv;cases w with
   | true=>exact skip h hs this
   | false=>exact doit h hs this
  ·rename_i b hl;have hv:aT tm (.t t)=.bool b:=h.fr t _ hl;have:=run_t hv;cases b with
   | true=>
     have hC:=h.know (t:=t) (s:=.tt) hv;cases w with
     | true=>exact doit hC hs this
     | false=>exact skip hC hs this
   | false=>
     have hC:=h.know (t:=t) (s:=.ff) hv;cases w with
     | true=>exact skip hC hs this
     | false=>exact doit hC hs this
  ·rename_i l hl;obtain⟨m,hv,hm⟩:=h.fr t _ hl;split at hs<;>try (cases hs;done)
   simp only[bC] at hm;subst hm;refine skip h hs ?_;unfold gH;rw[hg];simp only[hv]
def jd3 {α:Type} {ch:CH} (hch:mY B call ch) {hn:Hint} {Post:Tr AV->Tr Blk->Nat->Prop}:∀ {ops:List COp} {S:St} {k:St->Option α} {r:α},Nc ch hn e ops S k=some r->
  (∀S',k S'=some r->∀tm H nx,mM B ro e c S' tm H nx->Post tm H nx)->∀tm H nx,mM B ro e c S tm H nx->∃tm' H' nx',jR call ro ops (tm,H,nx)=some (tm',H',nx')/\Post tm' H' nx'
 | [],S,k,r,hs,hk,tm,H,nx,h=>⟨tm,H,nx,rfl,hk S hs tm H nx h⟩
 | o::ops,S,k,r,hs,hk,tm,H,nx,⟨ν,F,M,R,h⟩=>by
   obtain⟨v,H1,nx1,S1,h1,h2,h3⟩:=j8e hch h hs;obtain⟨tm',H',nx',h4,h5⟩:=jd3 hch h3 hk _ _ _ h2;refine⟨tm',H',nx',?_,h5⟩;simp only[jR,h1];rw[<-h4];cases o.dst with
   | none=>rfl
   | some d=>simp only[Dv,Tr.setK_eq];rfl
end X
end Go.Vm
namespace Go.Vm
namespace X
open W
def ConX.rowBlk {B:Base} {ro:Nat} {e:Env} {c:Cnv} {S:St} {tm:Tr AV} {H:Tr Blk} {nx:Nat} {ν:Nm} {F:aQ} {M R:List Ent} (h:ConX B ro e c S tm H nx ν F M R) (l:List AV):
  ConX B ro e c S tm (H.set nx (.cells (put l 0 .e) l.length)) (nx+1) ν ((nx,.cells l)::F) M (⟨nx,false,.cells l⟩::R):=by
 have mono:∀x∈F,x∈(nx,HB.cells l)::F:=λx hx=>bX _ hx
 have k:=h.hk.cells l;have k0:HK B ro (⟨nx,false,.cells l⟩::(M++(c.Mc++(R++c.O0)))) (H.set nx (.cells (put l 0 .e) l.length)) (nx+1):=by
  refine⟨k.r0,k.r1,k.base,λx hx=>?_,k.nd⟩;rcases bL.1 hx with rfl | hx
  ·obtain⟨a,_,b⟩:=k.ent _ (bY ..);exact⟨a,λhw=>(by cases hw),b⟩
  ·exact k.ent x (bX _ hx)
 refine⟨k0.perm ?_,λn v hn=>nW mono _ _ (h.fr n v hn),jT mono _ _ h.ov,zD mono h.mv,h.wr,zC mono h.mc,λx hx=>?_,h.gl⟩
 ·simp only[eW];rw[<-cD,<-cD];exact List.perm_middle
 ·rcases bL.1 hx with rfl | hx
  ·exact .inl .here
  ·exact(h.fz x hx).imp (λh=>.there h) id
def jfy {F:aQ} {k:IntKind}:∀(L:List Int),bO (aX F (.int k)) L (L.map (AV.int k))
 | []=>rfl
 | x::L=>⟨_,_,rfl,rfl,jfy L⟩
def ConX.item {B:Base} {ro:Nat} {e:Env} {c:Cnv} {S:St} {tm:Tr AV} {H:Tr Blk} {nx:Nat} {ν:Nm} {F:aQ} {M R:List Ent} (h:ConX B ro e c S tm H nx ν F M R) {t:Ty} (ht:t.item=true) (y:t.den):
  ∃v H2 nx2 F2 R2,gE (qO t y) H nx=([v],H2,nx2)/\ConX B ro e c S tm H2 nx2 ν F2 M R2/\(∀x∈F,x∈F2)/\aJ ν F2 (qS t y) v:=by
 have flat:t.flat=true->∃v H2 nx2 F2 R2,gE (qO t y) H nx=([v],H2,nx2)/\ConX B ro e c S tm H2 nx2 ν F2 M R2/\(∀x∈F,x∈F2)/\aJ ν F2 (qS t y) v:=λhf=>by
  rw[ji4 hf,jya hf];exact⟨_,_,_,F,R,rfl,h,λ_ h=>h,Ea (Qt hf) (ji6 hf y)⟩
 cases t with
 | sl u=>
   cases u with
   | int k=>
     have hlay:gE (qO (.sl (.int k)) y) H nx=([.sl nx 0 (List.map (AV.int k) y).length none 1],H.set nx (.cells (put (List.map (AV.int k) y) 0 .e) (List.map (AV.int k) y).length),nx+1):=by
      show gE (uD k y) H nx=_;unfold uD;change List Int at y;rcases y with _ | ⟨a,_ | ⟨a',L⟩⟩<;>rfl
     refine⟨_,_,_,_,_,hlay,h.rowBlk (List.map (AV.int k) y),λx hx=>bX _ hx,?_⟩;refine⟨by show(1:Nat)≠0;decide,.inr ⟨nx,0,none,List.map (AV.int k) y,by rw[dM];rfl,bY ..,λc hc=>(by cases hc),?_,?_⟩⟩
     ·show 0+List.length (α:=Int) y*1<=(List.map (AV.int k) y).length;rw[dM];omega
     ·have e:((List.map (AV.int k) y).drop 0).take (List.length (α:=Int) y*1)=List.map (AV.int k) y:=by
       rw[fZ,iU];rw[dM];omega
      show bO (aX _ (.int k)) y (((List.map (AV.int k) y).drop 0).take (List.length (α:=Int) y*1));rw[e];exact jfy y
   | _=>cases ht
 | _=>exact flat ht
def j7y {t:Ty} (ht:t.item=true) (y:t.den) (r:List (List AV)) (H:Tr Blk) (ro:Nat):nR ro (qO t y::r) H=some H:=by
 have flat:t.flat=true->nR ro (qO t y::r) H=some H:=λhf=>by
  rw[ji4 hf];unfold nR;split
  ·rename_i e;simp only[kX,mD] at e;exact(Zp hf y e.1).elim
  ·rfl
 cases t with
 | sl u=>
   cases u with
   | int k=>
     show nR ro (uD k y::r) H=_;unfold uD;change List Int at y;rcases y with _ | ⟨a,_ | ⟨a',L⟩⟩<;>rfl
   | _=>cases ht
 | _=>exact flat ht
variable {B:Base} {call:FuncId->List AV->Tr Blk->Nat->Nat->bN} {ro:Nat} {e:Env} {c:Cnv} {S:St} {tm:Tr AV} {H:Tr Blk} {nx:Nat} {ν:Nm} {F:aQ} {M R:List Ent}
def Cs (B:Base) (ro:Nat) (e:Env) (c:Cnv) (sl:List (Pl×Rep)) (nc:Nat) (x:eE (sl.map Prod.snd)) (tm:Tr AV) (H:Tr Blk) (nx:Nat):Prop:=
 ∃ν F R vs EB E,ConX B ro e ((c.park EB).park E) ⟨[],[],nc⟩ tm H nx ν F [] R/\rU ν tm nc ((sl.map Prod.fst).map (Pl.sh e.b0)) vs EB/\lT F (sl.map Prod.snd) x vs E/\∀x∈E,x.w=true
def Qx {sl:List (Pl×Rep)} {x:eE (sl.map Prod.snd)} {nc:Nat} (h:Cs B ro e c sl nc x tm H nx) {S:St} (hs:vC sl x e nc=some S):mM B ro e c S tm H nx:=by
 obtain⟨ν,F,R,vs,EB,E,h1,h2,h3,h4⟩:=h;unfold vC at hs;split at hs<;>try (cases hs;done)
 rename_i ss S1 hi;obtain⟨ν',M',k1,k2,k3,k4,k5⟩:=Jy _ h1 h3 h4 hi;obtain⟨M2,j1,_⟩:=Dy _ k1 k2 (Ou k3 h2) hs;exact⟨ν',F,M2,R,j1⟩
def Fh {sl:List (Pl×Rep)} {b0:Nat} {x:eE (sl.map Prod.snd)} {nc:Nat} {fr:gV} (h:ConX B ro e c S tm H nx ν F M R) (hfr:∀n s,cR fr n=some s->aJ ν F s (aT tm (.t n))) {cc:Option Bool} {mv:bE} (hs:nI sl b0 fr nc S.mv=some (cc,mv,x)) (hc:dT cc=true):
  ∃vs EB E F' M' R',ConX B ro e ((c.park EB).park E) { S with mv:=mv } tm H nx ν F' M' R'/\rU ν tm nc ((sl.map Prod.fst).map (Pl.sh b0)) vs EB/\lT F' (sl.map Prod.snd) x vs E/\(∀x∈E,x.w=true):=by
 unfold nI at hs;split at hs<;>try (cases hs;done)
 rename_i ss mv1 ho;obtain⟨vs,EB,M1,k1,k2,k3⟩:=Fg _ h hfr ho;obtain⟨E,F',M',R',j1,j2,j3,j4⟩:=Qj _ (S:={ S with mv:=mv1 }) k1 hs hc k2;exact⟨vs,EB,E,F',M',R',j1,k3,j4,j2⟩
def jbq {asg:List Nat}:∀ {fr:gV} {n:Nat},cR (jB asg fr) n=if iR n asg then none else cR fr n
 | [],n=>by simp[jB,cR]
 | (k,v)::r,n=>by
   have ih:=jbq (asg:=asg) (fr:=r) (n:=n);unfold jB at ih ⊢;rw[Bk];by_cases hk:k=n
   ·subst hk;cases hm:iR k asg with
    | true=>simp only[fC,fX,cO];rw[ih,hm];rfl
    | false=>simp[cR]
   ·have hb:Nat.beq k n=false:=by rw[aL];simpa using hk
    cases hm:iR k asg with
    | true=>
      simp only[fC,fX,cO];rw[ih];simp only[cR,hb,aF]
    | false=>
      simp only[yM,bR,cR,hb,aF];exact ih
def jlx {asg:List Nat}:∀ {fr:gV} {n:Nat},cR (fr.filter λx=>iR x.1 asg) n=if iR n asg then cR fr n else none
 | [],n=>by simp[cR]
 | (k,v)::r,n=>by
   have ih:=jlx (asg:=asg) (fr:=r) (n:=n);rw[Bk];by_cases hk:k=n
   ·subst hk;cases hm:iR k asg with
    | true=>simp[cR]
    | false=>simp only[fX,cO];rw[ih,hm];rfl
   ·have hb:Nat.beq k n=false:=by rw[aL];simpa using hk
    cases hm:iR k asg with
    | true=>
      simp only[bR,cR,hb,aF];exact ih
    | false=>
      simp only[fX,cO];rw[ih];simp only[cR,hb,aF]
def jbp {asg:List Nat}:∀ {ct:gV} {n:Nat} {v:SV},(ct.any λx=>iR x.1 asg)=false->cR ct n=some v->iR n asg=false
 | [],n,v,_,h=>by cases h
 | (k,u)::r,n,v,ha,h=>by
   simp only[Ud,nK] at ha;simp only[cR] at h;cases hb:Nat.beq k n<;>rw[hb] at h<;>simp only[aB,aF] at h
   ·exact jbp ha.2 h
   ·rw[aL,aH] at hb;subst hb;exact ha.1
def jgy {ct:gV}:∀ {fr:gV} {n:Nat} {v:SV},zO fr ct=true->cR ct n=some v->cR fr n=none
 | [],n,v,_,_=>rfl
 | (k,u)::r,n,v,ha,h=>by
   simp only[zO,vS,aN] at ha;simp only[cR];cases hb:Nat.beq k n
   ·exact jgy (by unfold zO;exact ha.2) h
   ·rw[aL,aH] at hb;subst hb;rw[h] at ha;cases ha.1
def jzc {sl:List (Pl×Rep)} {x:eE (sl.map Prod.snd)} {asg:List Nat} {cc:Option Bool} {mv:bE} (h:ConX B ro e c S tm H nx ν F M R) (hct:(e.ct.any λx=>iR x.1 asg)=false) (hs:nI sl e.b0 (S.fr++e.ct) S.nc S.mv=some (cc,mv,x)) (hc:dT cc=true):
  ∃Ml,mv.length=Ml.length/\(∀x∈Ml.flatten,x.w=true)/\Cs B ro { e with ct:=jB asg S.fr++e.ct,mc:=mv++e.mc } { c with Ml:=Ml++c.Ml } sl S.nc x tm H nx:=by
 obtain⟨vs,EB,E,F',M',R',h1,h2,h3,h4⟩:=Fh h h.fr hs hc;obtain⟨Ml,rfl,hMl⟩:=Cu h1.mv;refine⟨Ml,Hz hMl,h1.wr,ν,F',R',vs,EB,E,⟨?_,λn v hv=>?_,h1.ov,rfl,λx hx=>(by cases hx),Ct hMl h1.mc,h1.fz,h1.gl⟩,h2,h3,h4⟩
 ·have:=h1.hk;simp only[Cnv.Mc,Cnv.park,vQ,dZ,cD] at this ⊢;exact this
 ·rw[dZ,Eo,jbq] at hv;refine h1.fr n v ?_;show cR (S.fr++e.ct) n=some v;rw[Eo];cases hm:iR n asg with
  | true=>
    rw[hm] at hv;simp only[bR] at hv;have:=jbp hct hv;rw[hm] at this;cases this
  | false=>
    rw[hm] at hv;simpa using hv
def Ny {fr:gV} {mv:bE} {Ml:List (List Ent)} (hl:mv.length=Ml.length) (hw:∀x∈Ml.flatten,x.w=true) (h:mM B ro { e with ct:=fr++e.ct,mc:=mv++e.mc } { c with Ml:=Ml++c.Ml } S tm H nx):mM B ro e c ⟨S.fr++fr,S.mv++mv,S.nc⟩ tm H nx:=by
 obtain⟨ν,F,M,R,h⟩:=h;obtain⟨k1,k2⟩:=Om hl h.mc;refine⟨ν,F,M++Ml.flatten,R,⟨?_,λn v hv=>h.fr n v (by rw[cD] at hv;exact hv),h.ov,uJ h.mv (Hy k1),λx hx=>?_,k2,h.fz,h.gl⟩⟩
 ·have:=h.hk;simp only[Cnv.Mc,Cnv.O0,vQ,cD] at this ⊢;exact this
 ·rcases aZ.1 hx with hx | hx
  ·exact h.wr x hx
  ·exact hw x hx
def Db {sl:List (Pl×Rep)} {x:eE (sl.map Prod.snd)} {nc:Nat} {cc:Option Bool} {mv:bE} (h:mM B ro e c S tm H nx) (hap:zO S.fr e.ct=true) (hs:nI sl e.b0 (S.fr++e.ct) nc S.mv=some (cc,mv,x)) (hc:dT cc=true):Cs B ro e c sl nc x tm H nx:=by
 obtain⟨ν,F,M,R,h⟩:=h;obtain⟨vs,EB,E,F',M',R',h1,h2,h3,h4⟩:=Fh h h.fr hs hc;refine⟨ν,F',R',vs,EB,E,⟨h1.hk.sub (Bh ..),λn v hv=>h1.fr n v ?_,h1.ov,rfl,λx hx=>(by cases hx),h1.mc,h1.fz,h1.gl⟩,h2,h3,h4⟩;show cR (S.fr++e.ct) n=some v;rw[dZ] at hv;rw[Eo,jgy hap hv];exact hv
def jfq {ν:Nm} {F:aQ} (p:Nat×SB->Bool):∀ {m:bE} {M:List Ent},gN ν F m M->∃M1 M2,M.Perm (M1++M2)/\gN ν F (m.filter p) M1/\gN ν F (m.filter λx=> !p x) M2
 | [],M,h=>⟨[],[],by simp only[gN] at h;subst h;exact Ub _,rfl,rfl⟩
 | (b,sb)::m,M,⟨E,M',e,h1,h2⟩=>by
   obtain⟨M1,M2,k1,k2,k3⟩:=jfq p h2;subst e;rw[Bk,Bk];cases hp:p (b,sb) with
   | true=>exact⟨E++M1,M2,by rw[cD];exact dW E k1,⟨E,M1,rfl,h1,k2⟩,by simpa using k3⟩
   | false=>
     refine⟨M1,E++M2,(dW E k1).trans (fW M1 E M2).symm,by simpa using k2,?_⟩;simp only[yM,bR];exact⟨E,M2,rfl,h1,k3⟩
def Ze:∀ {fr:gV} {n:Nat} {v:SV},cR fr n=some v->(n,v)∈dd fr
 | [],n,v,h=>by cases h
 | (k,u)::r,n,v,h=>by
   simp only[cR] at h;cases hb:Nat.beq k n<;>rw[hb] at h<;>simp only[aB,aF] at h
   ·refine bX _ (oN.2 ⟨Ze h,?_⟩);rw[aL,eH] at hb;simp only[aL,fB,eH];exact λh=>hb h.symm
   ·rw[aL,aH] at hb;subst hb;cases h;exact bY ..
def Zd:∀ {fr:gV} {n:Nat} {v:SV},(n,v)∈dd fr->cR fr n=some v
 | [],n,v,h=>by cases h
 | (k,u)::r,n,v,h=>by
   simp only[cR];rcases bL.1 h with h | h
   ·cases h;rw[dP];rfl
   ·obtain⟨h1,h2⟩:=oN.1 h;simp only[aL,fB,eH] at h2;have:Nat.beq k n=false:=by rw[aL];simp;exact λh=>h2 h.symm
    rw[this];exact Zd h1
def Xt {α:Type} {f:α->SV} {g:α->AV}:∀ {l:List α},(∀x∈l,aJ ν F (f x) (g x))->bC ν F (l.map f) (l.map g)
 | [],_=>rfl
 | a::l,h=>⟨g a,l.map g,rfl,h a (bY ..),Xt λx hx=>h x (bX _ hx)⟩
def Xu {α:Type} {f:α->SV} {g:α->AV}:∀ {l:List α},bC ν F (l.map f) (l.map g)->∀x∈l,aJ ν F (f x) (g x)
 | [],_,x,hx=>by cases hx
 | a::l,⟨v,m,e,h1,h2⟩,x,hx=>by
   simp only[dA,kX] at e;obtain⟨rfl,rfl⟩:=e;rcases bL.1 hx with rfl | hx
   ·exact h1
   ·exact Xu h2 x hx
def ConX.lookG (h:ConX B ro e c S tm H nx ν F M R) {b:Nat} {sb:SB} (hl:Rr e.mc e.G b=some sb):∃F' E,dR ν F' b sb E/\(F'=F\/F'=[])/\∀x∈E,x.b<nx/\x.c.At H x.b:=by
 unfold Rr at hl;split at hl
 ·rename_i y hy;cases hl;obtain⟨M1,E,M2,e1,g1,_⟩:=wM h.mcm hy;refine⟨F,E,g1,.inl rfl,λx hx=>?_⟩;have hm:x∈M++(c.Mc++(R++c.O0)):=by
   have:x∈c.Mc:=by rw[e1];simp[hx]
   simp[this]
  exact⟨(h.hk.ent x hm).1,(h.hk.ent x hm).2.2⟩
 ·obtain⟨_,_,_,E,g1,g2⟩:=h.gl.2 b sb hl;refine⟨[],E,g1,.inr rfl,λx hx=>?_⟩;have:=h.hk.r0;have:=(jC h.hk.r1).1;obtain⟨k1,k2⟩:=g2 x hx;exact⟨by omega,k2.congr (h.hk.base _ k1)⟩
def Yt (h:ConX B ro e c S tm H nx ν F M R):∀(l:List Ty) {ss:List SV} {vs:List AV} {cap:rN l},Iw (Rr e.mc e.G) l ss=some cap->bC ν F ss vs->yZ F H l cap vs
 | [],ss,vs,cap,hc,hv=>by
   simp only[Iw] at hc;split at hc<;>cases hc
   exact hv
 | t::l,ss,vs,cap,hc,hv=>by
   simp only[Iw] at hc;split at hc<;>try (cases hc;done)
   rename_i b ss;split at hc<;>try (cases hc;done)
   rename_i sb hb;split at hc<;>try (cases hc;done)
   rename_i x xs hx hxs;cases hc;obtain⟨v,vs',rfl,hv1,hv2⟩:=hv;simp only[aJ] at hv1;subst hv1;obtain⟨F',E,k1,k2,k3⟩:=h.lookG hb;cases sb<;>simp only[jh9,reduceCtorEq] at hx
   rename_i cs;obtain⟨w,m,rfl,hm⟩:=k1;refine⟨_,m,vs',rfl,(k3 _ (bF.2 rfl)).2,?_,Yt h l hxs hv2⟩;have:=lL qB t hx hm;rcases k2 with rfl | rfl
   ·exact this
   ·exact gY (λ_ h=>by cases h) t _ _ this
def ConX.facts (h:ConX B ro e c S tm H nx ν F M R):∀x∈F,x.2.At H x.1:=λx hx=>(h.fact (b:=x.1) (x:=x.2) hx).2
def Cw {tm':Tr AV} {nc:Nat}:∀ {sl:List (Pl×Rep)} {b0:Nat} {vs:List AV} {E:List Ent},Aq sl=true->rU ν tm nc ((sl.map Prod.fst).map (Pl.sh b0)) vs E->rU ν tm' nc ((sl.map Prod.fst).map (Pl.sh b0)) vs E
 | [],_,vs,E,_,h=>h
 | (.t n,_)::sl,_,_,_,hn,_=>by cases hn
 | (.b n,_)::sl,_,_,_,hn,⟨m,vs',E',e1,e2,h1,h2⟩=>⟨m,vs',E',e1,e2,h1,Cw (by simpa[Aq] using hn) h2⟩
 | (.bm n,_)::sl,_,_,_,hn,⟨m,vs',E',e1,e2,h1,h2⟩=>⟨m,vs',E',e1,e2,h1,Cw (by simpa[Aq] using hn) h2⟩
 | (.o n,_)::sl,_,_,_,hn,⟨vs',e1,e2,h1,h2⟩=>⟨vs',e1,e2,h1,Cw (by simpa[Aq] using hn) h2⟩
 | (.om n,_)::sl,_,_,_,hn,⟨vs',e1,e2,h1,h2⟩=>⟨vs',e1,e2,h1,Cw (by simpa[Aq] using hn) h2⟩
def tF {ch:CH} (hch:mY B call ch) {hn:Hint} {α:Type} {r:α}:∀(a:AC) {e:Env} {c:Cnv} {S:St} {k:Ex->St->Option α} {Post:Ex->Tr AV->Tr Blk->Nat->Prop},sx fuel ch hn a e S k=some r->
  (∀ex S',k ex S'=some r->∀tm H nx,mM B ro e c S' tm H nx->Post ex tm H nx)->∀tm H nx,mM B ro e c S tm H nx->∃ex tm' H' nx',exec call ro a.cc (tm,H,nx)=some (ex,tm',H',nx')/\Post ex tm' H' nx'
 | .skip,e,c,S,k,Post,hs,hk,tm,H,nx,h=>⟨.normal,tm,H,nx,rfl,hk _ _ hs _ _ _ h⟩
 | .region ops,e,c,S,k,Post,hs,hk,tm,H,nx,h=>by
   obtain⟨tm',H',nx',h1,h2⟩:=jd3 hch (Post:=Post .normal) hs (λS' hS' tm H nx hC=>hk _ _ hS' _ _ _ hC) tm H nx h;exact⟨.normal,tm',H',nx',by simp only[AC.cc,exec,h1],h2⟩
 | .seq a b,e,c,S,k,Post,hs,hk,tm,H,nx,h=>by
   obtain⟨ex,tm1,H1,nx1,h1,h2⟩:=tF hch a (c:=c) (Post:=λex tm H nx=>match ex with
    | .normal=>∃ex' tm' H' nx',exec call ro b.cc (tm,H,nx)=some (ex',tm',H',nx')/\Post ex' tm' H' nx'
    | ex=>Post ex tm H nx) hs (λex S' hS' tm H nx hC=>by
      cases ex with
      | normal=>exact tF hch b hS' hk tm H nx hC
      | exit i=>exact hk _ _ hS' _ _ _ hC
      | ret=>exact hk _ _ hS' _ _ _ hC) tm H nx h
   cases ex with
   | normal=>
     obtain⟨ex',tm',H',nx',h3,h4⟩:=h2;exact⟨ex',tm',H',nx',by simp only[AC.cc,exec,h1,h3],h4⟩
   | exit i=>exact⟨_,_,_,_,by simp only[AC.cc,exec,h1],h2⟩
   | ret=>exact⟨_,_,_,_,by simp only[AC.cc,exec,h1],h2⟩
 | .cond x a b,e,c,S,k,Post,hs,hk,tm,H,nx,⟨ν,F,M,R,h⟩=>by
   simp only[sx] at hs;split at hs<;>try (cases hs;done)
   ·rename_i hx;have hv:=h.opS _ _ hx;simp only[aJ] at hv;obtain⟨ex,tm',H',nx',h1,h2⟩:=tF hch a hs hk tm H nx ⟨ν,F,M,R,h⟩;exact⟨ex,tm',H',nx',by simp only[AC.cc,exec,hv,h1],h2⟩
   ·rename_i hx;have hv:=h.opS _ _ hx;simp only[aJ] at hv;obtain⟨ex,tm',H',nx',h1,h2⟩:=tF hch b hs hk tm H nx ⟨ν,F,M,R,h⟩;exact⟨ex,tm',H',nx',by simp only[AC.cc,exec,hv,h1],h2⟩
   ·rename_i p hx;have hv:=h.opS _ _ hx;simp only[aJ] at hv;cases p with
    | true=>
      obtain⟨ex,tm',H',nx',h1,h2⟩:=tF hch a hs hk tm H nx ⟨ν,F,M,R,h⟩;exact⟨ex,tm',H',nx',by simp only[AC.cc,exec,hv,h1],h2⟩
    | false=>
      obtain⟨ex,tm',H',nx',h1,h2⟩:=tF hch b hs hk tm H nx ⟨ν,F,M,R,h⟩;exact⟨ex,tm',H',nx',by simp only[AC.cc,exec,hv,h1],h2⟩
 | .block id b,e,c,S,k,Post,hs,hk,tm,H,nx,h=>by
   obtain⟨ex,tm',H',nx',h1,h2⟩:=tF hch b (c:=c) (Post:=λex tm H nx=>match ex with
    | .exit i=>bif i.beq id then Post .normal tm H nx else Post (.exit i) tm H nx
    | ex=>Post ex tm H nx) hs (λex S' hS' tm H nx hC=>by
      cases ex with
      | normal=>exact hk _ _ hS' _ _ _ hC
      | ret=>exact hk _ _ hS' _ _ _ hC
      | exit i=>
        simp only at hS' ⊢;cases hi:i.beq id with
        | true=>rw[hi] at hS';exact hk _ _ hS' _ _ _ hC
        | false=>rw[hi] at hS';exact hk _ _ hS' _ _ _ hC) tm H nx h
   cases ex with
   | normal=>exact⟨_,_,_,_,by simp only[AC.cc,exec,h1],h2⟩
   | ret=>exact⟨_,_,_,_,by simp only[AC.cc,exec,h1],h2⟩
   | exit i=>
     simp only at h2;cases hi:i.beq id with
     | true=>rw[hi] at h2;exact⟨_,_,_,_,by simp only[AC.cc,exec,h1,hi,aB],h2⟩
     | false=>rw[hi] at h2;exact⟨_,_,_,_,by simp only[AC.cc,exec,h1,hi,aF],h2⟩
 | .loop sl b,e,c,S,k,Post,hs,hk,tm,H,nx,⟨ν,F,M,R,h⟩=>by
   simp only[sx] at hs;obtain⟨hct,hs2⟩:=Nb hs;split at hs2<;>try (cases hs2;done)
   rename_i cc mv x hout;obtain⟨hc,hs3⟩:=nA hs2;obtain⟨Ml,hl,hw,hhead⟩:=jzc h hct hout hc;have key:∀(n:Nat) (x:eE (sl.map Prod.snd)) tm H nx,cN (λrec x=>
     match vC sl x { e with ct:=jB b.asg S.fr++e.ct,mc:=mv++e.mc } S.nc with
     | none=>none
     | some S1=>sx fuel ch hn b { e with ct:=jB b.asg S.fr++e.ct,mc:=mv++e.mc } S1 λex S2=>match ex with
       | .normal=>sw (zO S2.fr (jB b.asg S.fr++e.ct)) (match nI sl e.b0 (S2.fr++(jB b.asg S.fr++e.ct)) S.nc S2.mv with
         | none=>none
         | some (c,_,x)=>lF c (rec x)) none
       | ex=>k ex ⟨S2.fr++jB b.asg S.fr,S2.mv++mv,S2.nc⟩) n x=some r->
     Cs B ro { e with ct:=jB b.asg S.fr++e.ct,mc:=mv++e.mc } { c with Ml:=Ml++c.Ml } sl S.nc x tm H nx->
     ∃ex tm' H' nx',iter (exec call ro b.cc) n (tm,H,nx)=some (ex,tm',H',nx')/\Post ex tm' H' nx':=by
    intro n;induction n with
    | zero=>intro x tm H nx hx;cases hx
    | succ n ih=>
      intro x tm H nx hx hh;rw[cN] at hx;split at hx<;>try (cases hx;done)
      rename_i S1 hin;have hcon:=Qx hh hin
      obtain⟨ex,tm1,H1,nx1,h1,h2⟩:=tF hch b (c:={ c with Ml:=Ml++c.Ml }) (Post:=λex tm H nx=>match ex with
       | .normal=>∃ex' tm' H' nx',iter (exec call ro b.cc) n (tm,H,nx)=some (ex',tm',H',nx')/\Post ex' tm' H' nx'
       | ex=>Post ex tm H nx) hx (λex S2 hS2 tm H nx hC=>by
         cases ex with
         | normal=>
           simp only at hS2 ⊢;obtain⟨hap,hS2⟩:=nS hS2;split at hS2<;>try (cases hS2;done)
           rename_i c2 mv2 x2 ho2;obtain⟨hc2,hS2⟩:=nA hS2;exact ih x2 tm H nx hS2 (Db hC hap ho2 hc2)
         | exit i=>exact hk _ _ hS2 _ _ _ (Ny hl hw hC)
         | ret=>exact hk _ _ hS2 _ _ _ (Ny hl hw hC)) tm H nx hcon
      cases ex with
      | normal=>
        obtain⟨ex',tm',H',nx',h3,h4⟩:=h2;exact⟨ex',tm',H',nx',by rw[iter,h1];exact h3,h4⟩
      | exit i=>exact⟨_,_,_,_,by rw[iter,h1],h2⟩
      | ret=>exact⟨_,_,_,_,by rw[iter,h1],h2⟩
   exact key fuel x tm H nx hs3 hhead
 | .join mb sl a,e,c,S,k,Post,hs,hk,tm,H,nx,⟨ν,F,M,R,h⟩=>by
   simp only[sx,jn] at hs;generalize mb.map (Pl.bk e.b0)=nb at hs;obtain⟨hct,hs2⟩:=Nb hs;obtain⟨M1,M2,hp,hm1,hm2⟩:=jfq (λx=>iR x.1 nb) h.mv;obtain⟨Ml,rfl,hMl⟩:=Cu hm2;have hw1:∀x∈M1,x.w=true:=λx hx=>h.wr x (hp.mem_iff.2 (aZ.2 (.inl hx)))
   have hw2:∀x∈Ml.flatten,x.w=true:=λx hx=>h.wr x (hp.mem_iff.2 (aZ.2 (.inr hx)))
   have hl:(Ez nb S.mv).length=Ml.length:=Hz hMl;have hcon:mM B ro { e with ct:=jB a.asg S.fr++e.ct,mc:=Ez nb S.mv++e.mc } { c with Ml:=Ml++c.Ml } ⟨S.fr.filter (λx=>iR x.1 a.asg),S.mv.filter (λx=>iR x.1 nb),S.nc⟩ tm H nx:=by
    refine⟨ν,F,M1,R,⟨?_,λn v hv=>?_,h.ov,hm1,hw1,Ct hMl h.mc,h.fz,h.gl⟩⟩
    ·have:=h.hk.perm (O':=(M1++Ml.flatten)++(c.Mc++(R++c.O0))) (vP _ hp.symm);simp only[Cnv.Mc,Cnv.O0,vQ,cD] at this ⊢;exact this
    ·rw[Eo,Eo,jbq,jlx] at hv;refine h.fr n v ?_;rw[Eo];cases hm:iR n a.asg with
     | true=>
       rw[hm] at hv;simp only[bR] at hv;cases hl1:cR S.fr n with
       | some u=>rw[hl1] at hv;exact hv
       | none=>
         rw[hl1] at hv;simp only at hv;have:=jbp hct hv;rw[hm] at this;cases this
     | false=>
       rw[hm] at hv;simpa using hv
   exact tF hch a (c:={ c with Ml:=Ml++c.Ml }) hs2 (λex S2 hS2 tm H nx hC=>by
    cases ex with
    | normal=>
      simp only at hS2;obtain⟨hap,hS2⟩:=nS hS2;split at hS2<;>try (cases hS2;done)
      rename_i c2 mv2 x2 ho2;obtain⟨hc2,hS2⟩:=nA hS2;split at hS2<;>try (cases hS2;done)
      rename_i S1 hin;exact hk _ _ hS2 _ _ _ (Ny hl hw2 (Qx (Db hC hap ho2 hc2) hin))
    | exit i=>exact hk _ _ hS2 _ _ _ (Ny hl hw2 hC)
    | ret=>exact hk _ _ hS2 _ _ _ (Ny hl hw2 hC)) tm H nx hcon
 | .rangeF x it p as sl b,e,c,S,k,Post,hs,hk,tm,H,nx,⟨ν,F,M,R,h⟩=>by
   simp only[sx] at hs;split at hs<;>try (cases hs;done)
   rename_i f free hx;obtain⟨hcnd,hs2⟩:=nS hs;simp only[aN,aL,aH] at hcnd;obtain⟨⟨⟨rfl,hno⟩,hitem⟩,hneed⟩:=hcnd;split at hs2<;>try (cases hs2;done)
   rename_i cc mv0 x0 hout;obtain⟨hc,hs3⟩:=nA hs2;split at hs3<;>try (cases hs3;done)
   rename_i cap mv hcap huse;obtain⟨l,hl,hs4⟩:=dN.1 hs3;obtain⟨a',freeV,hfn,ha',hfree⟩:=h.opS _ _ hx;simp only[bC] at ha';subst ha';obtain⟨vs,EB,E,F',M',R',h1,h2,h3,h4⟩:=Fh (fr:=[]) h (λn s hn=>by cases hn) hout hc
   have back:∀ {ν':Nm} {F':aQ},bC ν' F' (.fn it.f [] free::((dd (S.fr++e.ct)).map Prod.snd++e.ov)) (aT tm x::((dd (S.fr++e.ct)).map (λx=>aT tm (.t x.1))++c.oa))->
     (∀n s,cR (S.fr++e.ct) n=some s->aJ ν' F' s (aT tm (.t n)))/\bC ν' F' e.ov c.oa/\bC ν' F' free freeV:=by
    rintro ν' F' ⟨v,m',e1,k0,h'⟩;cases e1;obtain⟨k1,k2⟩:=Ie (by simp) h';refine⟨λn s hn=>Xu k1 _ (Ze hn),k2,?_⟩;obtain⟨a2,c2,e2,_,e3⟩:=k0;rw[hfn] at e2;cases e2;exact e3
   obtain⟨OA,hOA⟩:∃OA,OA=aT tm x::((dd (S.fr++e.ct)).map (λx=>aT tm (.t x.1))++c.oa):=⟨_,rfl⟩
   have hov1:bC ν F' (.fn it.f [] free::((dd (S.fr++e.ct)).map Prod.snd++e.ov)) OA:=by
    rw[hOA];exact⟨_,_,rfl,h1.opS _ _ hx,nX (Xt λy hy=>h1.fr _ _ (Zd hy)) h1.ov⟩
   have hmk:∀(mv':bE) (Hq:Tr Blk) (Mq:List Ent),ConX B ro e ((c.park EB).park E) { S with mv:=mv' } tm Hq nx ν F' Mq R'->∃Ml,Mq=Ml.flatten/\iE ν F' mv' Ml/\
     ConX B ro (lG e S.fr (.fn it.f [] free) mv') (({ c with oa:=OA,Ml:=Ml++c.Ml }.park EB).park E) ⟨[],[],S.nc⟩ tm Hq nx ν F' [] R':=by
    intro mv' Hq Mq hq;obtain⟨Ml,rfl,hMl⟩:=Cu hq.mv;refine⟨Ml,rfl,hMl,⟨?_,λn v hv=>hq.fr n v (by simpa[lG] using hv),hov1,rfl,λx hx=>(by cases hx),Ct hMl hq.mc,hq.fz,hq.gl⟩⟩;have:=hq.hk;simp only[Cnv.Mc,Cnv.park,vQ,dZ,cD] at this ⊢;exact this
   have g3:it.mf freeV H=some (l.map λy=>fP it.use freeV it.item y,it.key cap):=by
    obtain⟨Ml0,_,_,q1⟩:=hmk _ _ _ h1;have hov:=q1.ov;have hoa5:((({ c with oa:=OA,Ml:=Ml0++c.Ml }:Cnv).park EB).park E).oa=OA:=rfl;rw[hoa5,hOA] at hov;obtain⟨_,_,hf5⟩:=back hov;exact it.ok e.G F' H cap freeV l hneed (jfl q1.hk q1.gl) (Yt q1 it.ins hcap hf5) q1.facts hl
   obtain⟨H1,M1,h1',hst,hbd⟩:∃H1 M1,ConX B ro e ((c.park EB).park E) { S with mv:=mv } tm H1 nx ν F' M1 R'/\nR ro (l.map λy=>fP it.use freeV it.item y) H=some H1/\(it.use=false/\mv=mv0\/it.item.flat=true/\(∀y,∃b v,fP it.use freeV it.item y=zT b v/\v=encV it.item y)):=by
    unfold jrg at huse;cases hu:it.use with
    | false=>
      rw[hu,aF] at huse;cases huse;refine⟨H,M',h1,?_,.inl ⟨rfl,rfl⟩⟩;cases l with
      | nil=>rfl
      | cons y l=>exact j7y hitem y _ H ro
    | true=>
      rw[hu,aB] at huse;split at huse<;>try (cases huse;done)
      rename_i b;split at huse<;>try (cases huse;done)
      rename_i cs hb;obtain⟨hfl,huse⟩:=aR huse;cases huse;obtain⟨E1,hE1,hE2,_,_,hdel,Mz,hp,hm,hw⟩:=h1.own (S:={ S with mv:=mv0 }) hb;obtain⟨w,m,rfl,_⟩:=hE1;obtain⟨k1,k2,k3,k4⟩:=hE2 _ (bF.2 rfl);simp only at k1 k2 k3 k4;subst k1;have hfv:freeV=[.ptr (ν b).1 0]:=by
       obtain⟨v,vs',rfl,hv1,hv2⟩:=hfree;simp only[aJ] at hv1;simp only[bC] at hv2;subst hv1;subst hv2;rfl
      have hbx:∀y,fP true freeV it.item y=zT (ν b).1 (encV it.item y):=λy=>by rw[hfv];rfl
      cases l with
      | nil=>
        have hk1:=h1.hk.perm hp;exact⟨H,Mz,⟨hk1.sub (Bh ..),h1.fr,h1.ov,hm,hw,h1.mc,h1.fz,h1.gl⟩,rfl,.inr ⟨hfl,λy=>⟨_,_,hbx y,rfl⟩⟩⟩
      | cons y l=>
        obtain⟨Mq,hMq⟩:=hdel _ _ rfl;refine⟨H.del (ν b).1,Mq,hMq,?_,.inr ⟨hfl,λy=>⟨_,_,hbx y,rfl⟩⟩⟩;rw[dA,hbx y];have hi:(H.get (ν b).1).isSome=true:=by
         obtain⟨_,e,_⟩:=k4;rw[e];rfl
        have hk2:(rx ro).ble (ν b).1=true:=by rw[aP];exact cK k2
        simp only[nR,zT,hk2,hi,kH,aB]
   replace h1:=h1';obtain⟨Ml,rfl,hMl⟩:=Cu h1.mv;have hw:=h1.wr;have hlen:=Hz hMl;obtain⟨c2,hc2⟩:∃c2:Cnv,c2={ c with oa:=aT tm x::((dd (S.fr++e.ct)).map (λx=>aT tm (.t x.1))++c.oa),Ml:=Ml++c.Ml }:=⟨_,rfl⟩
   have hoa:c2.oa=aT tm x::((dd (S.fr++e.ct)).map (λx=>aT tm (.t x.1))++c.oa):=by rw[hc2]
   have hhead:Cs B ro (lG e S.fr (.fn it.f [] free) mv) c2 sl S.nc x0 tm H1 nx:=by
    refine⟨ν,F',R',vs,EB,E,⟨?_,λn v hv=>h1.fr n v (by simpa[lG] using hv),by rw[hc2,<-hOA];exact hov1,rfl,λx hx=>(by cases hx),by rw[hc2];exact Ct hMl h1.mc,by rw[hc2];exact h1.fz,h1.gl⟩,Cw hno h2,h3,h4⟩;have:=h1.hk;rw[hc2];simp only[Cnv.Mc,Cnv.park,vQ,dZ,cD] at this ⊢;exact this
   have hmf:l≠[]->∀ {S3:St} {tm3:Tr AV} {H3:Tr Blk} {nx3:Nat},mM B ro (lG e S.fr (.fn it.f [] free) mv) c2 S3 tm3 H3 nx3->(it.mf freeV H3=some (l.map λy=>fP it.use freeV it.item y,it.key cap)\/boxed (l.map λy=>fP it.use freeV it.item y)=true):=by
    rintro hne S3 tm3 H3 nx3 ⟨ν3,F3,M3,R3,hC⟩;rcases hbd with⟨hu,rfl⟩ | ⟨_,hb⟩
    ·have hov:=hC.ov;rw[hoa] at hov;obtain⟨_,_,hf3⟩:=back hov;exact .inl (it.ok e.G F3 H3 cap freeV l hneed (jfl hC.hk hC.gl) (Yt hC it.ins hcap hf3) hC.facts hl)
    ·cases l with
     | nil=>exact absurd rfl hne
     | cons y l=>
       obtain⟨b,v,e1,_⟩:=hb y;refine .inr ?_;rw[dA,e1];rfl
   have out:∀ {S3:St} {tm3:Tr AV} {H3:Tr Blk} {nx3:Nat},mM B ro (lG e S.fr (.fn it.f [] free) mv) c2 S3 tm3 H3 nx3->mM B ro e c ⟨S.fr,S3.mv++mv,S3.nc⟩ tm H3 nx3:=by
    rintro S3 tm3 H3 nx3 ⟨ν3,F3,M3,R3,hC⟩;have hov:=hC.ov;rw[hoa] at hov;obtain⟨b1,b2,_⟩:=back hov;have hmc:=hC.mc;rw[hc2] at hmc;obtain⟨k1,k2⟩:=Om hlen hmc;have hfz:=hC.fz;rw[hc2] at hfz;refine⟨ν3,F3,M3++Ml.flatten,R3,⟨?_,b1,b2,uJ hC.mv (Hy k1),λx hx=>?_,k2,hfz,hC.gl⟩⟩
    ·have:=hC.hk;rw[hc2] at this;simp only[Cnv.Mc,Cnv.O0,vQ,cD] at this ⊢;exact this
    ·rcases aZ.1 hx with hx | hx
     ·exact hC.wr x hx
     ·exact hw x hx
   obtain⟨Fm,hFm⟩:∃Fm:List AV->Tr Blk->Nat->Option (Ex×Tr Blk×Nat),Fm=Us call ro [p] as (exec call ro b.cc) tm:=⟨_,rfl⟩
   have key:∀(l':List it.item.den),(l'≠[]->l≠[])->∀(x:eE (sl.map Prod.snd)) H nx,lK (λx=>match vC sl x (lG e S.fr (.fn it.f [] free) mv) S.nc with
          | none=>none
          | some S1=>k .normal ⟨S.fr,S1.mv++mv,S1.nc⟩)
         (λy rec x=>match vC sl x (lG e S.fr (.fn it.f [] free) mv) S.nc with
           | none=>none
           | some S1=>Nc ch hn (lG e S.fr (.fn it.f [] free) mv) as ⟨[(p,qS it.item y)],S1.mv,S1.nc⟩ λS2=>sx fuel ch hn b (lG e S.fr (.fn it.f [] free) mv) S2 λex S3=>match ex with
             | .normal=>match nI sl e.b0 [] S.nc S3.mv with
               | none=>none
               | some (c,_,x)=>lF c (rec x)
             | ex=>k ex ⟨S.fr,S3.mv++mv,S3.nc⟩) l' x=some r->
     Cs B ro (lG e S.fr (.fn it.f [] free) mv) c2 sl S.nc x tm H nx->
     ∃ex H' nx',kI (λH=>it.mf freeV H=some (l.map λy=>fP it.use freeV it.item y,it.key cap)\/boxed (l.map λy=>fP it.use freeV it.item y)=true) Fm (l'.map λy=>fP it.use freeV it.item y) H nx=some (ex,H',nx')/\Post ex tm H' nx':=by
    intro l';induction l' with
    | nil=>
      intro _ x H nx hx hh;simp only[lK] at hx;split at hx<;>try (cases hx;done)
      rename_i S1 hin;exact⟨.normal,H,nx,rfl,hk _ _ hx _ _ _ (out (Qx hh hin))⟩
    | cons y l' ih=>
      intro hne x H nx hx hh;have hne:=hne (by simp);rw[lK] at hx;split at hx<;>try (cases hx;done)
      rename_i S1 hin;obtain⟨ν1,F1,M1,R1,hC1⟩:=Qx hh hin;have hov:=hC1.ov;rw[hoa] at hov;obtain⟨b1,_,_⟩:=back hov;have hC2:mM B ro (lG e S.fr (.fn it.f [] free) mv) c2 ⟨[(p,qS it.item y)],S1.mv,S1.nc⟩ (Az [p] (gE (fP it.use freeV it.item y) H nx).1 tm) (gE (fP it.use freeV it.item y) H nx).2.1 (gE (fP it.use freeV it.item y) H nx).2.2:=by
       obtain⟨v,H2,nx2,F2,R2,hlay,hcx,hmono,hv⟩:∃v H2 nx2 F2 R2,gE (fP it.use freeV it.item y) H nx=([v],H2,nx2)/\ConX B ro (lG e S.fr (.fn it.f [] free) mv) c2 S1 tm H2 nx2 ν1 F2 M1 R2/\(∀x∈F1,x∈F2)/\aJ ν1 F2 (qS it.item y) v:=by
        rcases hbd with⟨hu,_⟩ | ⟨hfl,hb⟩
        ·have e1:fP it.use freeV it.item y=qO it.item y:=by rw[hu];rfl
         rw[e1];exact hC1.item hitem y
        ·obtain⟨b,v,e1,rfl⟩:=hb y;rw[e1];exact⟨_,H,nx,F1,R1,rfl,hC1,λ_ h=>h,Ea (Qt hfl) (ji6 hfl y)⟩
       rw[hlay];refine⟨ν1,F2,M1,R2,⟨hcx.hk,λn u hn=>?_,hcx.ov,hcx.mv,hcx.wr,hcx.mc,hcx.fz,hcx.gl⟩⟩;have eset:∀n,aT (Az [p] [v] tm) (.t n)=if n=p then v else aT tm (.t n):=by
        intro n;simp only[Az,aT,Tr.get_set];split<;>rfl
       rw[eset];simp only[eW,dZ,cR] at hn;cases hb:Nat.beq p n<;>rw[hb] at hn<;>simp only[aB,aF] at hn
       ·rw[aL,eH] at hb;rw[aD λh=>hb h.symm];exact nW hmono _ _ (b1 n u hn)
       ·rw[aL,aH] at hb;subst hb;cases hn;rw[aK rfl];exact hv
      obtain⟨tmA,HA,nxA,hA1,ex,tmB,HB,nxB,hB1,hB2⟩:=jd3 hch (c:=c2) (Post:=λtmA HA nxA=>∃ex tmB HB nxB,exec call ro b.cc (tmA,HA,nxA)=some (ex,tmB,HB,nxB)/\
        (match ex with
          | .normal=>(it.mf freeV HB=some (l.map λy=>fP it.use freeV it.item y,it.key cap)\/boxed (l.map λy=>fP it.use freeV it.item y)=true)/\∃ex' H2 nx2,kI (λH=>it.mf freeV H=some (l.map λy=>fP it.use freeV it.item y,it.key cap)\/boxed (l.map λy=>fP it.use freeV it.item y)=true) Fm (l'.map λy=>fP it.use freeV it.item y) HB nxB=some (ex',H2,nx2)/\Post ex' tm H2 nx2
          | ex=>Post ex tm HB nxB)) hx (λS2 hS2 tmA HA nxA hCA=>by
       obtain⟨ex,tmB,HB,nxB,q1,q2⟩:=tF hch b (c:=c2) (Post:=λex _ HB nxB=>match ex with
         | .normal=>(it.mf freeV HB=some (l.map λy=>fP it.use freeV it.item y,it.key cap)\/boxed (l.map λy=>fP it.use freeV it.item y)=true)/\∃ex' H2 nx2,kI (λH=>it.mf freeV H=some (l.map λy=>fP it.use freeV it.item y,it.key cap)\/boxed (l.map λy=>fP it.use freeV it.item y)=true) Fm (l'.map λy=>fP it.use freeV it.item y) HB nxB=some (ex',H2,nx2)/\Post ex' tm H2 nx2
         | ex=>Post ex tm HB nxB) hS2 (λex S3 hS3 tm3 H3 nx3 hC3=>by
        cases ex with
        | normal=>
          simp only at hS3 ⊢;split at hS3<;>try (cases hS3;done)
          rename_i c3 mv3 x3 ho3;obtain⟨hc3,hS3⟩:=nA hS3;refine⟨hmf hne hC3,ih (λ_=>hne) x3 H3 nx3 hS3 ?_⟩;obtain⟨ν3,F3,M3,R3,hC3⟩:=hC3;obtain⟨vs3,EB3,E3,F4,M4,R4,j1,j2,j3,j4⟩:=Fh (fr:=[]) hC3 (λn s hn=>by cases hn) ho3 hc3;have hov4:=j1.ov;have hoa4:((c2.park EB3).park E3).oa=c2.oa:=rfl;rw[hoa4,hoa] at hov4;obtain⟨b4,_,_⟩:=back hov4;exact⟨ν3,F4,R4,vs3,EB3,E3,⟨j1.hk.sub (Bh ..),λn v hv=>b4 n v (by simpa[lG] using hv),j1.ov,rfl,λx hx=>(by cases hx),j1.mc,j1.fz,j1.gl⟩,Cw hno j2,j3,j4⟩
        | exit i=>exact hk _ _ hS3 _ _ _ (out hC3)
        | ret=>exact hk _ _ hS3 _ _ _ (out hC3)) tmA HA nxA hCA
       exact⟨ex,tmB,HB,nxB,q1,q2⟩) _ (gE (fP it.use freeV it.item y) H nx).2.1 (gE (fP it.use freeV it.item y) H nx).2.2 hC2
      have hF1:Fm (fP it.use freeV it.item y) H nx=some (ex,HB,nxB):=by rw[hFm];simp only[Us,hA1,hB1]
      rw[dA,kI];rw[hF1];cases ex with
      | normal=>
        obtain⟨g1,ex',H2,nx2,g2,g3⟩:=hB2;exact⟨ex',H2,nx2,by simp only[g1,bR];exact g2,g3⟩
      | exit i=>exact⟨_,_,_,rfl,hB2⟩
      | ret=>exact⟨_,_,_,rfl,hB2⟩
   obtain⟨ex,H',nx',g1,g2⟩:=key l id x0 H1 nx hs4 hhead;refine⟨ex,tm,H',nx',?_,g2⟩;have g4:((l.map λy=>fP it.use freeV it.item y).all λy=>y.length.beq [p].length)=true:=bS.2 λy hy=>by
    obtain⟨z,_,rfl⟩:=bU.1 hy;exact jx9 _ _ _ z
   rw[hFm] at g1;simp only[AC.cc,exec,hfn,it.inl,aB,g3,g4,hst];rw[g1]
 | .exit id,e,c,S,k,Post,hs,hk,tm,H,nx,h=>⟨.exit id,tm,H,nx,rfl,hk _ _ hs _ _ _ h⟩
 | .ret,e,c,S,k,Post,hs,hk,tm,H,nx,h=>⟨.ret,tm,H,nx,rfl,hk _ _ hs _ _ _ h⟩
 | .bad,e,c,S,k,Post,hs,hk,tm,H,nx,h=>by cases hs
end X
end Go.Vm
