/-
  The extraction: code to a plain function; that the machine does what the function says.
  The extraction: that the machine does what the function says.
  The extraction: that the machine does what the function says; code with loops.
-/
import Derived.Test.YtonohffniohehaaGreatDoorXG4
import Derived.Test.YtonohffniohehaaGreatDoorXGW
set_option linter.unusedSimpArgs false
set_option linter.unusedVariables false
set_option linter.unusedSectionVars false
set_option linter.unnecessarySimpa false
namespace Go.Vm
namespace X
open W
def jz3:(t:Ty)→t.den→List AV
 | .int k,x=>[.int k x]
 | .bool,x=>[.bool x]
 | .str,x=>[.str x]
 | .unit,_=>[]
 | .prod a b,x=>jz3 a x.1++jz3 b x.2
 | .arr _ t,x=>List.flatMap (jz3 t) x
 | .sl _,_ | .slx _,_=>[.nils]
def jzz (t:Ty) (x:t.den):AV:=bif t.agg then .agg (jz3 t x) else(jz3 t x).headD .nils
def Ty.flat:Ty→Bool
 | .prod a b=>a.flat&&b.flat
 | .arr _ _ | .sl _ | .slx _=>false
 | _=>true
theorem j5e {F:jaj}:∀(t:Ty),t.flat=true→∀x:t.den,jb0 F t x (jz3 t x)
 | .int k,_,x=>rfl
 | .bool,_,x=>rfl
 | .str,_,x=>rfl
 | .unit,_,x=>rfl
 | .prod a b,h,x=>by
   simp only[Ty.flat,Bool.and_eq_true] at h
   exact⟨_,_,rfl,j5e a h.1 x.1,j5e b h.2 x.2⟩
theorem j48:∀ {t:Ty},t.flat=true→t.ok=true
 | .int _,_=>rfl
 | .bool,_=>rfl
 | .str,_=>rfl
 | .unit,_=>rfl
 | .prod a b,h=>by
   simp only[Ty.flat,Bool.and_eq_true] at h
   simp only[Ty.ok,j48 h.1,j48 h.2,Bool.and_self]
theorem kiw {F:jaj} {t:Ty} (h:t.flat=true) (x:t.den):Rel F t x (jzz t x):=by
 have:=j5e (F:=F) t h x
 cases t<;>first | (cases h;done) | exact⟨_,rfl,this⟩ | exact this
@[reducible] def kfi:List Ty→Type
  | []=>Unit
  | t::l=>t.den×kfi l
def koy (F:jaj) (H:Tr Blk):(l:List Ty)→kfi l→List AV→Prop
 | [],_,vs=>vs=[]
 | t::l,x,vs=>∃b m vs',vs=.ptr b 0::vs'∧HB.At H b (.cells m)∧jb0 F t x.1 m∧koy F H l x.2 vs'
def GOn (G:Mem) (H:Tr Blk):Prop:=∀b t n L,lkM G (gB+b)=some (.fix t n L)→∃m,HB.At H b (.cells m)∧List.length (α:=t.den) L=n∧jd1 (jb0 [] t) L m
theorem kgo {B:Base} {ro nx:Nat} {O:List Ent} {ν:Nm} {G:Mem} {H:Tr Blk} (hk:HK B ro O H nx) (hg:GRel B ν G):GOn G H:=fun b t n L h=>by
 obtain⟨_,_,_,E,⟨w,m,rfl,h1,h2⟩,h3⟩:=hg.2 _ _ h
 obtain⟨h4,h5⟩:=h3 _ (List.mem_singleton.2 rfl)
 rw[hg.1] at h4 h5
 exact⟨m,h5.congr (hk.base _ h4),h1,h2⟩
structure ITE where
 f:FuncId
 ins:List Ty
 item:Ty
 run:kfi ins→Option (List item.den)
 mf:ItF
 key:kfi ins→List AV
 need:Mem→Bool
 ok:∀(G:Mem) (F:jaj) (H:Tr Blk) (cap:kfi ins) (free:List AV) (l:List item.den),need G=true→GOn G H→koy F H ins cap free→(∀x∈F,x.2.At H x.1)→run cap=some l→mf free H=some (l.map fun y=>[jzz item y],key cap)
inductive AC where
 | skip
 | region (ops:List COp)
 | seq (a b:AC)
 | cond (c:Opd) (a b:AC)
 | block (id:Nat) (b:AC)
 | loop (sl:List (Pl×Rep)) (b:AC)
 | join (mb:List Pl) (sl:List (Pl×Rep)) (a:AC)
 | rangeF (x:Opd) (it:ITE) (p:Nat) (as:List COp) (sl:List (Pl×Rep)) (b:AC)
 | exit (id:Nat)
 | ret
 | bad
def AC.cc:AC→CC
 | .skip=>.skip
 | .region ops=>.region ops
 | .seq a b=>.seq a.cc b.cc
 | .cond c a b=>.cond c a.cc b.cc
 | .block id b=>.block id b.cc
 | .loop _ b=>.loop b.cc
 | .join _ _ a=>a.cc
 | .rangeF x it p as _ b=>.rangeF x [(it.f,it.mf)] [p] as b.cc
 | .exit id=>.exit id
 | .ret=>.ret
 | .bad=>.bad
def AC.asg:AC→List Nat
 | .region ops=>ops.filterMap COp.dst
 | .seq a b | .cond _ a b=>a.asg++b.asg
 | .block _ b | .loop _ b | .join _ _ b=>b.asg
 | _=>[]
def Pl.bk (b0:Nat):Pl→Nat
 | .t n=>n
 | .b m | .o m=>b0+m
 | .bm m | .om m=>b0-m
abbrev CH:=∀(α:Type),Bool→FuncId→List SV→Env→St→(SV→St→Option α)→Option α
def chk {α:Type} (c:Bool) (x:Option α):Option α:=bif c then x else none
abbrev j00 {α:Type} (c:Option Bool) (x:Option α):Option α:=match c with
 | none=>x
 | some c=>chk c x
abbrev sw {α:Type} (c:Bool) (x y:Option α):Option α:=match c with
 | true=>x
 | false=>y
theorem jyl {α:Type} {c:Bool} {x y:Option α}:sw c x y=cond c x y:=by cases c<;>rfl
theorem ke5 {α:Type} {c:Bool} {x:Option α} {r:α} (h:chk c x=some r):c=true∧x=some r:=jah h
theorem jck {α:Type} {c:Option Bool} {x:Option α} {r:α} (h:j00 c x=some r):okc c=true∧x=some r:=by
 cases c with
 | none=>exact⟨rfl,h⟩
 | some c=>exact ke5 h
theorem j34 {α:Type} {c:Bool} {x:Option α} {r:α} (h:sw c x none=some r):c=true∧x=some r:=by
 cases c with
 | true=>exact⟨rfl,h⟩
 | false=>cases h
theorem kkj {α:Type} {c:Bool} {x:Option α} {r:α} (h:sw c none x=some r):c=false∧x=some r:=by
 cases c with
 | true=>cases h
 | false=>exact⟨rfl,h⟩
def jbl {σ β:Type} (step:(σ→Option β)→σ→Option β):Nat→σ→Option β
 | 0,_=>none
 | n+1,x=>step (jbl step n) x
def jn {σ β:Type} (k:σ→Option β) (f:(σ→Option β)→Option β):Option β:=f k
structure Hint where
 ty:List (Nat×Ty)
 td:List Nat
def Hint.t (h:Hint):Option Nat→Option Ty
  | none=>none
  | some d=>go h.ty d
 where go:List (Nat×Ty)→Nat→Option Ty
  | [],_=>none
  | (n,t)::r,d=>bif Nat.beq n d then some t else go r d
def jvi (n:Nat):List Nat→Bool
 | []=>false
 | m::r=>Nat.beq m n||jvi n r
def Hint.w (h:Hint):Option Nat→Bool
 | none=>false
 | some d=>jvi d h.td
def setD (d:Option Nat) (s:SV) (S:St):St:=match d with
 | none=>S
 | some d=>{ S with fr:=(d,s)::S.fr }
def opS (e:Env) (S:St):Opd→Option SV
 | .t n=>lkS (S.fr++e.ct) n
 | .c v=>kkz v
def kop {α:Type} (x:Int) (f:Nat→Option α):Nat→Option α
 | 0=>none
 | n+1=>bif decide (x=(n:Int)) then f n else kop x f n
theorem jvy {α:Type} {x:Int} {f:Nat→Option α} {r:α}:∀ {n:Nat},kop x f n=some r→∃j:Nat,j<n∧x=(j:Int)∧f j=some r
 | 0,h=>by cases h
 | n+1,h=>by
   simp only[kop] at h
   cases hd:decide (x=(n:Int)) with
   | true=>
     rw[hd] at h
     exact⟨n,Nat.lt_succ_self n,of_decide_eq_true hd,h⟩
   | false=>
     rw[hd] at h
     obtain⟨j,h1,h2⟩:=jvy h
     exact⟨j,Nat.lt_succ_of_lt h1,h2⟩
def kf5:I→Bool
 | .iadA .. | .idxA .. =>true
 | _=>false
def sxI {α:Type} (g:Opd→Option SV):I→(SV→Option α)→Option α
 | .iadA n z x i,f=>match g x,g i with
   | some (.ptr b o),some (.int _ m)=>kop m (fun j=>f (.ptr b (o+j*z))) n
   | _,_=>none
 | .idxA agg n z x i,f=>match g x,g i with
   | some (.agg l),some (.int _ m)=>kop m (fun j=>sw ((j*z+z).ble l.length) (match mkS agg ((l.drop (j*z)).take z) with
     | some s=>f s
     | none=>none) none) n
   | _,_=>none
 | _,_=>none
theorem kki {α:Type} {g:Opd→Option SV} {g':Opd→AV} {ν:Nm} {F:jaj} (hg:∀x s,g x=some s→SVR ν F s (g' x)) {i:I} {f:SV→Option α} {r:α} (h:sxI g i f=some r):∃v s,pop g' i=some v∧SVR ν F s v∧f s=some r:=by
 unfold sxI at h
 split at h<;>try (cases h;done)
 ·split at h<;>try (cases h;done)
  rename_i hx hi
  obtain⟨j,h1,rfl,h2⟩:=jvy h
  have e1:=hg _ _ hx
  have e2:=hg _ _ hi
  simp only[SVR] at e1 e2
  rename_i n z _ _ _ _ b o k
  have h3:n.ble j=false:=by rw[jae];simp;omega
  exact⟨.ptr (ν b).1 (o+j*z),.ptr b (o+j*z),by simp only[pop,e1,e2,←Int.ofNat_eq_natCast,h3,cond_false],rfl,h2⟩
 ·split at h<;>try (cases h;done)
  rename_i hx hi
  obtain⟨j,h1,rfl,h2⟩:=jvy h
  obtain⟨hb,h2⟩:=j34 h2
  split at h2<;>try (cases h2;done)
  rename_i s hs
  obtain⟨m,e1,hm⟩:=hg _ _ hx
  have e2:=hg _ _ hi
  simp only[SVR] at e2
  obtain⟨v,k1,k2⟩:=j15 hs (jdj _ (jc0 _ hm))
  rw[jb5 hm] at hb
  have h3:∀ {n:Nat},j<n→n.ble j=false:=fun h=>by rw[jae];simp;exact h
  have h3:=h3 h1
  exact⟨v,s,by simp only[pop,e1,e2,←Int.ofNat_eq_natCast,hb,h3,Bool.not_true,Bool.or_false,cond_false,k1],k2,h2⟩
def kgf (ov:List SV) (k:Nat) (c:List SV):Bool:=Nat.blt k c.length&&(List.range c.length).all fun i=>i.beq k||(match (c[i]?).bind ptB with
 | some (b,o)=>ov.any fun s=>match ptB s with
   | some (b',o')=>b'.beq b&&o'.beq o
   | none=>false
 | none=>false)
def exC (e:Env) (S:St) (x:Opd):Bool:=match (opS e S x).bind ptB with
 | some (b,0)=>e.ov.any fun s=>match s with
   | .cptr b' f k c=>b'.beq b&&kgf e.ov k c
   | _=>false
 | _=>false
section
variable {α:Type} (ch:CH) (hn:Hint) (e:Env)
def sxJ (o:COp) (S:St) (k:St→Option α):Option α:=
 match o.j with
 | .p i=>sw (hn.w o.dst&&kf5 i) (sxI (opS e S) i fun s=>k (setD o.dst s S)) (match sp (opS e S) (look e S) (hn.w o.dst) i with
   | some (c,s)=>j00 c (k (setD o.dst s S))
   | none=>none)
 | .h i=>match i with
   | .load agg n x=>sw o.ex.isEmpty (match opS e S x with
     | some p=>match ldS (look e S) agg n p with
       | some s=>k (setD o.dst s S)
       | none=>none
     | none=>none) none
   | .store n x v=>sw o.q none (match opS e S x,opS e S v with
     | some p,some u=>match krb p with
       | some b=>sw (o.ex.all (fun y=>match opS e S y with
          | some p'=>j7e e S b p'
          | none=>false)) (match stS S.mv n p u with
         | some mv=>k (setD o.dst (.tup []) { S with mv:=mv })
         | none=>none) none
       | none=>none
     | _,_=>none)
   | .app z bytes x y=>match opS e S x,opS e S y with
     | some x,some y=>sw (o.ex.isEmpty||kiv (opS e S) e S o.ex x) (match kpi e S o.q z bytes x y with
       | some (c,s,S)=>j00 c (k (setD o.dst s S))
       | none=>none) none
     | _,_=>none
   | .call f args=>sw (o.ex.isEmpty||(!o.q&&o.ex.all (exC e S))) (match kg6 (opS e S) args with
     | some ss=>ch α o.q f ss e S fun s S=>k (setD o.dst s S)
     | none=>none) none
   | .calld f args=>sw o.ex.isEmpty (match opS e S f,kg6 (opS e S) args with
     | some (.fn f a c),some ss=>ch α o.q f (a++ss++c) e S fun s S=>k (setD o.dst s S)
     | _,_=>none) none
   | .mkmap r=>sw o.ex.isEmpty (match kjt (opS e S) e S o.q (hn.t o.dst) (.mkmap r) with
     | some (c,s,S)=>j00 c (k (setD o.dst s S))
     | none=>none) none
   | .mlook ag ks z ok x y=>sw o.ex.isEmpty (match kjt (opS e S) e S o.q (hn.t o.dst) (.mlook ag ks z ok x y) with
     | some (c,s,S)=>j00 c (k (setD o.dst s S))
     | none=>none) none
   | .mset ag ks x y v=>sw o.ex.isEmpty (match kjt (opS e S) e S o.q (hn.t o.dst) (.mset ag ks x y v) with
     | some (c,s,S)=>j00 c (k (setD o.dst s S))
     | none=>none) none
   | .copy z x y=>sw o.ex.isEmpty (match kjt (opS e S) e S o.q (hn.t o.dst) (.copy z x y) with
     | some (c,s,S)=>j00 c (k (setD o.dst s S))
     | none=>none) none
   | i=>sw o.ex.isEmpty (match krf (opS e S) e S (hn.t o.dst) i with
     | some (c,s,S)=>j00 c (k (setD o.dst s S))
     | none=>none) none
def kq5 (o:COp) (S:St) (k:St→Option α):Option α:=
 match o.guard with
 | none=>sxJ ch hn e o S k
 | some (t,w)=>match lkS (S.fr++e.ct) t with
   | some .tt=>sw w (sxJ ch hn e o S k) (k (setD o.dst (.tup []) S))
   | some .ff=>sw w (k (setD o.dst (.tup []) S)) (sxJ ch hn e o S k)
   | some (.bool b)=>bif b then sw w (sxJ ch hn e o { S with fr:=(t,.tt)::S.fr } k) (k (setD o.dst (.tup []) { S with fr:=(t,.tt)::S.fr }))
      else sw w (k (setD o.dst (.tup []) { S with fr:=(t,.ff)::S.fr })) (sxJ ch hn e o { S with fr:=(t,.ff)::S.fr } k)
   | some (.tup l)=>match l with
     | []=>k (setD o.dst (.tup []) S)
     | _::_=>none
   | _=>none
def j9z:List COp→St→(St→Option α)→Option α
 | [],S,k=>k S
 | o::r,S,k=>kq5 ch hn e o S fun S=>j9z r S k
end
def jv8 (fr ct:SFr):Bool:=fr.all fun x=>(lkS ct x.1).isNone
def dd:SFr→SFr
 | []=>[]
 | (n,v)::r=>(n,v)::(dd r).filter fun x=> !(Nat.beq x.1 n)
def j4s:List (Pl×Rep)→Bool
 | []=>true
 | (.t _,_)::_=>false
 | _::l=>j4s l
def kgg (t:Ty):SB→Option t.den
 | .lit cs=>jjh j9a t cs
 | _=>none
def koq (lm:Nat→Option SB):(l:List Ty)→List SV→Option (kfi l)
 | [],ss=>match ss with
   | []=>some ()
   | _=>none
 | t::l,ss=>match ss with
   | .ptr b 0::ss=>match lm b with
     | some sb=>match kgg t sb,koq lm l ss with
       | some x,some xs=>some (x,xs)
       | _,_=>none
     | none=>none
   | _=>none
def lkG (mc G:Mem) (b:Nat):Option SB:=match lkM mc b with
 | some x=>some x
 | none=>lkM G b
def jzm {ι σ β:Type} (done:σ→Option β) (step:ι→(σ→Option β)→σ→Option β):List ι→σ→Option β
 | [],x=>done x
 | y::l,x=>step y (jzm done step l) x
def j5d (e:Env) (fr:SFr) (v:SV) (mv:Mem):Env:={ e with ct:=fr++e.ct,ov:=v::((dd (fr++e.ct)).map Prod.snd++e.ov),mc:=mv++e.mc }
def j4o (sl:List (Pl×Rep)) (b0:Nat) (fr:SFr) (nc:Nat) (mv:Mem):Option (Option Bool×Mem×jl4 (sl.map Prod.snd)):=
 match kc7 fr nc ((sl.map Prod.fst).map (Pl.sh b0)) mv with
 | some (ss,mv)=>jtg (sl.map Prod.snd) mv ss
 | none=>none
def inS (sl:List (Pl×Rep)) (x:jl4 (sl.map Prod.snd)) (e:Env) (nc:Nat):Option St:=
 match jvn (sl.map Prod.snd) x e ⟨[],[],nc⟩ with
 | some (ss,S)=>inP ((sl.map Prod.fst).map (Pl.sh e.b0)) ss S
 | none=>none
def frK (asg:List Nat) (fr:SFr):SFr:=fr.filter fun x=> !(jvi x.1 asg)
def mvK (mb:List Nat) (mv:Mem):Mem:=mv.filter fun x=> !(jvi x.1 mb)
section
variable {α:Type} (N:Nat) (ch:CH) (hn:Hint)
def sx:AC→Env→St→(Ex→St→Option α)→Option α
 | .skip,e,S,k=>k .normal S
 | .region ops,e,S,k=>j9z ch hn e ops S fun S=>k .normal S
 | .seq a b,e,S,k=>sx a e S fun ex S=>match ex with
   | .normal=>sx b e S k
   | ex=>k ex S
 | .cond c a b,e,S,k=>match opS e S c with
   | some .tt=>sx a e S k
   | some .ff=>sx b e S k
   | some (.bool p)=>bif p then sx a e S k else sx b e S k
   | _=>none
 | .block id b,e,S,k=>sx b e S fun ex S=>match ex with
   | .exit i=>sw (i.beq id) (k .normal S) (k (.exit i) S)
   | ex=>k ex S
 | .loop sl b,e,S,k=>
   sw (e.ct.any (fun x=>jvi x.1 b.asg)) none (match j4o sl e.b0 (S.fr++e.ct) S.nc S.mv with
   | none=>none
   | some (c,mv,x)=>j00 c (jbl (fun rec x=>
      match inS sl x { e with ct:=frK b.asg S.fr++e.ct,mc:=mv++e.mc } S.nc with
      | none=>none
      | some S1=>sx b { e with ct:=frK b.asg S.fr++e.ct,mc:=mv++e.mc } S1 fun ex S2=>match ex with
        | .normal=>sw (jv8 S2.fr (frK b.asg S.fr++e.ct)) (match j4o sl e.b0 (S2.fr++(frK b.asg S.fr++e.ct)) S.nc S2.mv with
          | none=>none
          | some (c,_,x)=>j00 c (rec x)) none
        | ex=>k ex ⟨S2.fr++frK b.asg S.fr,S2.mv++mv,S2.nc⟩) N x))
 | .join mb sl a,e,S,k=>jn (fun x=>match inS sl x { e with ct:=frK a.asg S.fr++e.ct,mc:=mvK (mb.map (Pl.bk e.b0)) S.mv++e.mc } S.nc with
     | none=>none
     | some S1=>k .normal ⟨S1.fr++frK a.asg S.fr,S1.mv++mvK (mb.map (Pl.bk e.b0)) S.mv,S1.nc⟩) fun j=>
   sw (e.ct.any (fun x=>jvi x.1 a.asg)) none (sx a { e with ct:=frK a.asg S.fr++e.ct,mc:=mvK (mb.map (Pl.bk e.b0)) S.mv++e.mc } ⟨S.fr.filter (fun x=>jvi x.1 a.asg),S.mv.filter (fun x=>jvi x.1 (mb.map (Pl.bk e.b0))),S.nc⟩ fun ex S2=>match ex with
    | .normal=>sw (jv8 S2.fr (frK a.asg S.fr++e.ct)) (match j4o sl e.b0 (S2.fr++(frK a.asg S.fr++e.ct)) S.nc S2.mv with
      | none=>none
      | some (c,_,x)=>j00 c (j x)) none
    | ex=>k ex ⟨S2.fr++frK a.asg S.fr,S2.mv++mvK (mb.map (Pl.bk e.b0)) S.mv,S2.nc⟩)
 | .rangeF x it p as sl b,e,S,k=>match opS e S x with
   | some (.fn f [] free)=>sw (Nat.beq f it.f&&j4s sl&&it.item.flat&&it.need e.G) (match j4o sl e.b0 [] S.nc S.mv with
     | none=>none
     | some (c,mv,x0)=>j00 c (match koq (lkG (mv++e.mc) e.G) it.ins free with
       | none=>none
       | some cap=>(it.run cap).bind fun l=>jzm (fun x=>match inS sl x (j5d e S.fr (.fn f [] free) mv) S.nc with
          | none=>none
          | some S1=>k .normal ⟨S.fr,S1.mv++mv,S1.nc⟩)
         (fun y rec x=>match inS sl x (j5d e S.fr (.fn f [] free) mv) S.nc with
           | none=>none
           | some S1=>j9z ch hn (j5d e S.fr (.fn f [] free) mv) as ⟨[(p,kei it.item y)],S1.mv,S1.nc⟩ fun S2=>sx b (j5d e S.fr (.fn f [] free) mv) S2 fun ex S3=>match ex with
             | .normal=>match j4o sl e.b0 [] S.nc S3.mv with
               | none=>none
               | some (c,_,x)=>j00 c (rec x)
             | ex=>k ex ⟨S.fr,S3.mv++mv,S3.nc⟩) l x0)) none
   | _=>none
 | .exit id,e,S,k=>k (.exit id) S
 | .ret,e,S,k=>k .ret S
 | .bad,_,_,_=>none
end
end X
end Go.Vm
namespace Go.Vm
namespace X
open W
variable {B:Base} {call:FuncId→List AV→Tr Blk→Nat→Nat→Out} {ro:Nat} {e:Env} {c:Cnv} {S:St} {tm:Tr AV} {H:Tr Blk} {nx:Nat} {ν:Nm} {F:jaj} {M R:List Ent}
def HOK (B:Base) (call:FuncId→List AV→Tr Blk→Nat→Nat→Out) (ch:CH):Prop:=
 ∀(α:Type) q f ss e S (k:SV→St→Option α) r,ch α q f ss e S k=some r→∀ro c tm H nx ν F M R,ConX B ro e c S tm H nx ν F M R→∀vs,jb8 ν F ss vs→
  ∃v H' nx' s S' ν' F' M' R',call f vs H nx (bif q then nx else ro)=some (v,H',nx')∧ConX B ro e c S' tm H' nx' ν' F' M' R'∧SVR ν' F' s v∧k s S'=some r
theorem ConX.setD (h:ConX B ro e c S tm H nx ν F M R) {s:SV} {v:AV} (hv:SVR ν F s v) (d:Option Nat):ConX B ro e c (X.setD d s S) (jyn d v tm) H nx ν F M R:=by
 cases d with
 | none=>exact h
 | some d=>
   refine⟨h.hk,fun n u hu=>?_,h.ov,h.mv,h.wr,h.mc,h.fz,h.gl⟩
   simp only[X.setD,List.cons_append,lkS] at hu
   simp only[jyn,jfh]
   cases hb:Nat.beq d n<;>rw[hb] at hu<;>simp only[cond_true,cond_false] at hu
   ·rw[jaa,decide_eq_false_iff_not] at hb
    rw[if_neg (fun h=>hb h.symm)]
    exact h.fr n u hu
   ·rw[jaa,decide_eq_true_eq] at hb
    subst hb
    cases hu
    rw[if_pos rfl]
    exact hv
theorem ConX.opS (h:ConX B ro e c S tm H nx ν F M R):∀x s,X.opS e S x=some s→SVR ν F s (jbd tm x):=by
 intro x s hx
 cases x with
 | t n=>exact h.fr n s hx
 | c v=>exact j4q h.gl.1 hx
def ksa {α:Type} (B:Base) (call:FuncId→List AV→Tr Blk→Nat→Nat→Out) (ro:Nat) (e:Env) (c:Cnv) (o:COp) (tm:Tr AV) (H:Tr Blk) (nx:Nat) (k:St→Option α) (r:α):Prop:=
 ∃v H' nx' S',jpt call ro o tm H nx=some (v,H',nx')∧Con B ro e c S' (jyn o.dst v tm) H' nx'∧k S'=some r
theorem j7l {l:List SV} {m:List AV} {s:SV}:jb8 ν F l m→s∈l→∃(i:Nat) (v:AV),l[i]?=some s∧m[i]?=some v∧SVR ν F s v:=fun h hs=>by
 obtain⟨i,hi⟩:=List.getElem?_of_mem hs
 obtain⟨v,h1,h2⟩:=jj2 h hi
 exact⟨i,v,hi,h1,h2⟩
theorem juz:∀ {l:List AV},(∀v∈l,∃b o,v=.ptr b o)→jxl l l=true
 | [],_=>rfl
 | v::l,h=>by
   obtain⟨b,o,rfl⟩:=h v (List.mem_cons_self ..)
   simp only[jxl,Nat.beq_refl,Bool.true_and]
   exact juz fun v hv=>h v (List.mem_cons_of_mem _ hv)
theorem kok {S':St} {H':Tr Blk} {nx':Nat} {ν':Nm} {F':jaj} {M' R':List Ent} (h:ConX B ro e c S tm H nx ν F M R) (h2:ConX B ro e c S' tm H' nx' ν' F' M' R') {x:Opd} (hx:exC e S x=true):
  ∃b v,jbd tm x=.ptr b 0∧HB.At H b (.cells [v])∧HB.At H' b (.cells [v])∧kjz v v=true:=by
 unfold exC at hx
 split at hx<;>try (cases hx;done)
 rename_i b0 hb
 rw[Option.bind_eq_some_iff] at hb
 obtain⟨s,hs,hb⟩:=hb
 have hxv:=ju0 hb (h.opS _ _ hs)
 obtain⟨s',hs',hq⟩:=List.any_eq_true.1 hx
 split at hq<;>try (cases hq;done)
 rename_i b1 f k cs
 simp only[Bool.and_eq_true,jaa,decide_eq_true_eq] at hq
 obtain⟨rfl,hcap⟩:=hq
 obtain⟨j,a,hj,ha,⟨e1,c1,f1,g1,r1⟩⟩:=j7l h.ov hs'
 obtain⟨a2,ha2,⟨e2,c2,f2,g2,r2⟩⟩:=jj2 h2.ov hj
 obtain rfl:a=a2:=Option.some.inj (ha.symm.trans ha2)
 have eb:(ν b1).1=(ν' b1).1:=by rw[e1] at e2;simpa using e2
 unfold kgf at hcap
 simp only[Bool.and_eq_true] at hcap
 obtain⟨_,hcap⟩:=hcap
 have l1:=jb5 r1
 have l2:=jb5 r2
 simp only[List.length_set] at l1 l2
 have key:∀i,i<cs.length→∃b o,c1[i]?=some (.ptr b o)∧c2[i]?=some (.ptr b o):=by
  intro i hi
  by_cases hik:i=k
  ·subst hik
   exact⟨_,_,by rw[g1,e1],by rw[g2,e1]⟩
  ·have:=List.all_eq_true.1 hcap i (List.mem_range.2 hi)
   rw[Bool.or_eq_true] at this
   rcases this with this | this
   ·rw[jaa,decide_eq_true_eq] at this;exact absurd this hik
   ·split at this<;>try (cases this;done)
    rename_i b o hbo
    rw[Option.bind_eq_some_iff] at hbo
    obtain⟨u,hu,hbo⟩:=hbo
    obtain⟨u',hu',hq⟩:=List.any_eq_true.1 this
    split at hq<;>try (cases hq;done)
    rename_i b' o' hbo'
    simp only[Bool.and_eq_true,jaa,decide_eq_true_eq] at hq
    obtain⟨rfl,rfl⟩:=hq
    obtain⟨j',y,hj',hy,hyr⟩:=j7l h.ov hu'
    obtain⟨y2,hy2,hyr2⟩:=jj2 h2.ov hj'
    obtain rfl:y=y2:=Option.some.inj (hy.symm.trans hy2)
    have q1:=ju0 hbo' hyr
    have q2:=ju0 hbo' hyr2
    obtain⟨w1,p1,p2⟩:=jj2 r1 hu
    obtain⟨w2,p3,p4⟩:=jj2 r2 hu
    rw[List.getElem?_set,if_neg (fun h=>hik h.symm)] at p1 p3
    exact⟨_,_,by rw[p1,ju0 hbo p2],by rw[p3,ju0 hbo p4,←q2,q1]⟩
 have ec:c1=c2:=by
  refine List.ext_getElem? fun i=>?_
  by_cases hi:i<cs.length
  ·obtain⟨b,o,k1,k2⟩:=key i hi
   rw[k1,k2]
  ·rw[List.getElem?_eq_none (by omega),List.getElem?_eq_none (by omega)]
 subst ec
 refine⟨_,_,hxv,(h.fact f1).2,by rw[eb];exact(h2.fact f2).2,?_⟩
 simp only[kjz,Nat.beq_refl,Bool.true_and]
 refine juz fun v hv=>?_
 obtain⟨i,hi⟩:=List.getElem?_of_mem hv
 obtain⟨b,o,k1,_⟩:=key i (by have:=(List.getElem?_eq_some_iff.1 hi).1;omega)
 rw[hi] at k1
 exact⟨b,o,Option.some.inj k1⟩
theorem j7a {H0:Tr Blk}:∀ {ex:List Opd} {H':Tr Blk},(∀x∈ex,∃b v,jbd tm x=.ptr b 0∧HB.At H0 b (.cells [v])∧HB.At H' b (.cells [v])∧kjz v v=true)→∃H2,jv7 (jbd tm) H0 ex H'=some H2
 | [],H',_=>⟨H',rfl⟩
 | x::ex,H',h=>by
   obtain⟨b,v,h1,⟨c1,h2,h3⟩,⟨c2,h4,h5⟩,h6⟩:=h x (List.mem_cons_self ..)
   have q1:=h3 0 (by simp)
   have q2:=h5 0 (by simp)
   simp only[List.getElem?_cons_zero] at q1 q2
   have hs:kaa (H0.get b) (H'.get b)=true:=by
    rw[h2,h4]
    simp only[List.length_singleton,kaa,q1,q2,h6]
   obtain⟨H2,h7⟩:=j7a (H0:=H0) (ex:=ex) (H':=H'.set b (.cells c1 1)) fun y hy=>by
    obtain⟨b',v',k1,k2,k3,k4⟩:=h y (List.mem_cons_of_mem _ hy)
    refine⟨b',v',k1,k2,?_,k4⟩
    by_cases hb:b'=b
    ·subst hb
     obtain⟨c3,k5,k6⟩:=k2
     rw[h2] at k5
     cases k5
     exact⟨c1,by rw[Tr.get_set,if_pos rfl];rfl,k6⟩
    ·exact k3.congr (by rw[Tr.get_set,if_neg hb])
   have e1:jv7 (jbd tm) H0 (x::ex) H'=jv7 (jbd tm) H0 ex (H'.set b (.cells c1 1)):=by
    rw[jv7,h1]
    simp only
    rw[hs]
    simp only[cond_true]
    rw[h2]
    rfl
   exact⟨H2,e1.trans h7⟩
theorem ConX.back {S':St} {H' H2:Tr Blk} {nx':Nat} {ν':Nm} {F':jaj} {M' R':List Ent} (h:ConX B ro e c S tm H nx ν F M R) (h2:ConX B ro e c S' tm H' nx' ν' F' M' R') {ex:List Opd} (hb:jv7 (jbd tm) H ex H'=some H2):ConX B ro e c S' tm H2 nx' ν' F' M' R':=by
 obtain⟨k1,_⟩:=jiv hb
 refine⟨⟨h2.hk.r0,h2.hk.r1,fun b hb=>?_,fun x hx=>?_,h2.hk.nd⟩,h2.fr,h2.ov,h2.mv,h2.wr,h2.mc,h2.fz,h2.gl⟩
 ·rcases k1 b with h3 | ⟨h3,_⟩
  ·rw[h3];exact h2.hk.base b hb
  ·rw[h3];exact h.hk.base b hb
 ·obtain⟨q1,q2,q3⟩:=h2.hk.ent x hx
  refine⟨q1,q2,?_⟩
  rcases k1 x.b with h3 | ⟨h3,c1,c2,v,e1,e2,e3,e4⟩
  ·exact q3.congr h3
  ·revert q3
   cases x.c with
   | cells l=>
     rintro ⟨c3,r1,r2⟩
     rw[e2] at r1
     simp only[Option.some.injEq,Blk.cells.injEq] at r1
     obtain⟨rfl,hl⟩:=r1
     refine⟨c1,by rw[h3,e1,←hl],fun i hi=>?_⟩
     obtain rfl:i=0:=by omega
     rw[e3,←e4];exact r2 0 hi
   | iter s p=>intro q3;simp only[HB.At] at q3;rw[e2] at q3;cases q3
   | mp m=>intro q3;simp only[HB.At] at q3;rw[e2] at q3;cases q3
theorem kkh {α:Type} {ch:CH} (hch:HOK B call ch) {hn:Hint} {o:COp} {k:St→Option α} {r:α} (h:ConX B ro e c S tm H nx ν F M R) (hs:sxJ ch hn e o S k=some r):
  ∃v H' nx' S',jqe call ro o tm H nx=some (v,H',nx')∧Con B ro e c S' (jyn o.dst v tm) H' nx'∧k S'=some r:=by
 unfold sxJ at hs
 split at hs
 ·rename_i i hi
  rw[jyl] at hs
  cases hw:hn.w o.dst&&kf5 i with
  | true=>
    rw[hw] at hs
    obtain⟨v,s,h1,h2,hk⟩:=kki h.opS hs
    exact⟨v,H,nx,_,by simp only[jqe,hi,h1],⟨ν,F,M,R,h.setD h2 o.dst⟩,hk⟩
  | false=>
    rw[hw] at hs
    simp only[cond_false] at hs
    split at hs<;>try (cases hs;done)
    rename_i cc s hsp
    obtain⟨hc,hk⟩:=jck hs
    obtain⟨v,h1,h2⟩:=kq8 h.opS h.heads h.gl.1 (fun _=>rfl) hsp hc
    exact⟨v,H,nx,_,by simp only[jqe,hi,h1],⟨ν,F,M,R,h.setD h2 o.dst⟩,hk⟩
 ·rename_i i hi
  have hop_of:o.ex.isEmpty=true→∀ {v H' nx'},hop call (bif o.q then nx else ro) (jbd tm) H nx i=some (v,H',nx')→jqe call ro o tm H nx=some (v,H',nx'):=by
   intro hex v H' nx' hh
   simp only[jqe,hi,hex,Bool.true_or,cond_true,hh]
  split at hs
  ·rename_i agg n x
   obtain⟨hex,hs⟩:=j34 hs
   split at hs<;>try (cases hs;done)
   rename_i p hp
   split at hs<;>try (cases hs;done)
   rename_i s hl
   obtain⟨b,o',l,u,h1,h2,h3,h4⟩:=kf4 h hl (h.opS _ _ hp)
   exact⟨u,H,nx,_,hop_of hex (W.hop_load h1 h2 h3),⟨ν,F,M,R,h.setD h4 o.dst⟩,hs⟩
  ·rename_i n x v
   obtain⟨hq,hs⟩:=kkj hs
   split at hs<;>try (cases hs;done)
   rename_i p u hp hu
   split at hs<;>try (cases hs;done)
   rename_i b hpb
   obtain⟨hex,hs⟩:=j34 hs
   split at hs<;>try (cases hs;done)
   rename_i mv hst
   obtain⟨b',g1,gs,o',l,g2,g3,g4,g5,g6,g7,g8⟩:=kkk h hst (h.opS _ _ hp) (h.opS _ _ hu)
   rw[hpb] at g1
   cases g1
   obtain⟨H',e1,tc,e2,e3⟩:=W.hop_store (call:=call) (nx:=nx) (rr:=bif o.q then nx else ro) (x:=x) (y:=v) g2 rfl g3 (by rw[hq];exact g4) g5 g6 g7
   obtain⟨M',hC⟩:=g8 _ (j7t e3 (by rw[g5];exact g7))
   refine⟨.tup [],H',nx,_,?_,⟨ν,F,M',R,?_⟩,hs⟩
   ·have hx:j5b (jbd tm) (.store n x v) o.ex=true:=by
     simp only[j5b,g2]
     refine List.all_eq_true.2 fun y hy=>?_
     have h1:=List.all_eq_true.1 hex y hy
     split at h1
     ·rename_i p' hp'
      obtain⟨sb,hsb⟩:=Option.isSome_iff_exists.1 gs
      obtain⟨E,hE,hEp,_⟩:=h.own hsb
      have hone:∃z∈E,z.b=(ν b).1:=by
       cases sb with
       | lit l=>obtain⟨w,m,rfl,_⟩:=hE;exact⟨_,List.mem_singleton.2 rfl,rfl⟩
       | fix t n L=>obtain⟨w,m,rfl,_⟩:=hE;exact⟨_,List.mem_singleton.2 rfl,rfl⟩
       | mp k v L=>obtain⟨w,m,rfl,_⟩:=hE;exact⟨_,List.mem_singleton.2 rfl,rfl⟩
       | arr t L cap=>
         obtain⟨h0,hE⟩:=hE
         rcases hE with⟨hd,rfl⟩ | ⟨w,m,rfl,_⟩
         ·exfalso
          rcases hd with⟨q1,_,q2,_⟩ | ⟨_,_,_,q1,_⟩
          ·have hv1:=h.opS _ _ hp
           cases p<;>simp only[krb,reduceCtorEq,Option.some.injEq] at hpb<;>subst hpb
           ·unfold stS at hst
            simp only[hsb] at hst
            obtain⟨_,hst2⟩:=jah hst
            cases hst2
           ·obtain⟨_,len,cp,q3,_⟩:=hv1
            rw[q1] at q3;cases q3
           ·unfold stS at hst
            simp only[hsb] at hst
            obtain⟨_,hst2⟩:=jah hst
            cases hst2
          ·cases q1
         ·exact⟨_,List.mem_singleton.2 rfl,rfl⟩
      obtain⟨b2,o2,q1,q2⟩:=j3c h h1 ⟨sb,E,hsb,hE,hone⟩ (jk5 g4).1 (h.opS _ _ hp')
      simp only[q1,jaa]
      simp[q2]
     ·cases h1
    simp only[jqe,hi,hx,Bool.or_true,cond_true,e1]
   ·rw[e2]
    exact hC.setD (s:=.tup []) ⟨[],rfl,rfl⟩ o.dst
  ·rename_i z bytes x y
   split at hs<;>try (cases hs;done)
   rename_i sx sy hx hy
   obtain⟨hex,hs⟩:=j34 hs
   split at hs<;>try (cases hs;done)
   rename_i cc s S1 hap
   obtain⟨hc,hk⟩:=jck hs
   obtain⟨v,H',nx',ν',F',M',R',h1,h2,h3,h4⟩:=ki8 (call:=call) h.opS h hx hy hap hc
   refine⟨v,H',nx',_,?_,⟨ν',F',M',R',h2.setD h3 o.dst⟩,hk⟩
   have hex2:(o.ex.isEmpty||j5b (jbd tm) (.app z bytes x y) o.ex)=true:=by
    rw[Bool.or_eq_true] at hex ⊢
    refine hex.imp id fun hex=>kes h.opS h hex (h.opS _ _ hx) fun b hb=>?_
    subst hb
    unfold kpi at hap
    obtain⟨_,hap⟩:=jah hap
    simp only at hap
    split at hap<;>try (cases hap;done)
    rename_i t L cap hlk
    exact⟨t,L,cap,hlk⟩
   simp only[jqe,hi,hex2,cond_true,h1]
  ·rename_i f args
   obtain⟨hex,hs⟩:=j34 hs
   split at hs<;>try (cases hs;done)
   rename_i ss hss
   obtain⟨v,H',nx',s,S',ν',F',M',R',h1,h2,h3,h4⟩:=hch α o.q f ss e S _ r hs ro c tm H nx ν F M R h _ (jui h.opS hss)
   cases hex0:o.ex.isEmpty with
   | true=>exact⟨v,H',nx',_,hop_of hex0 (by simp only[hop,jhw,h1]),⟨ν',F',M',R',h2.setD h3 o.dst⟩,h4⟩
   | false=>
     rw[hex0,Bool.false_or,Bool.and_eq_true,Bool.not_eq_true'] at hex
     obtain⟨hq,hex⟩:=hex
     rw[hq] at h1
     simp only[cond_false] at h1
     obtain⟨H2,hb⟩:=j7a (tm:=tm) (H0:=H) (ex:=o.ex) (H':=H') fun x hx=>kok h h2 (List.all_eq_true.1 hex x hx)
     refine⟨v,H2,nx',_,?_,⟨ν',F',M',R',(h.back h2 hb).setD h3 o.dst⟩,h4⟩
     have hno:j5b (jbd tm) (.call f args) o.ex=false:=rfl
     simp only[jqe,hi,hex0,hno,Bool.or_self,cond_false,j2t,hq,hop,jhw,h1,hb,Option.map_some]
  ·rename_i f args
   obtain⟨hex,hs⟩:=j34 hs
   split at hs<;>try (cases hs;done)
   rename_i f' a cc ss hf hss
   obtain⟨a',c',e1,k1,k2⟩:=h.opS _ _ hf
   obtain⟨v,H',nx',s,S',ν',F',M',R',h1,h2,h3,h4⟩:=hch α o.q f' _ e S _ r hs ro c tm H nx ν F M R h _ (jbs (jbs k1 (jui h.opS hss)) k2)
   exact⟨v,H',nx',_,hop_of hex (by simp only[hop,e1,jhw,h1]),⟨ν',F',M',R',h2.setD h3 o.dst⟩,h4⟩
  ·obtain⟨hex,hs⟩:=j34 hs
   split at hs<;>try (cases hs;done)
   rename_i cc s S1 hnw
   obtain⟨hc,hk⟩:=jck hs
   obtain⟨v,H',nx',ν',F',M',R',h1,h2,h3,h4⟩:=jzi (call:=call) h.opS h hnw hc
   exact⟨v,H',nx',_,hop_of hex h1,⟨ν',F',M',R',h2.setD h3 o.dst⟩,hk⟩
  ·obtain⟨hex,hs⟩:=j34 hs
   split at hs<;>try (cases hs;done)
   rename_i cc s S1 hnw
   obtain⟨hc,hk⟩:=jck hs
   obtain⟨v,H',nx',ν',F',M',R',h1,h2,h3,h4⟩:=jzi (call:=call) h.opS h hnw hc
   exact⟨v,H',nx',_,hop_of hex h1,⟨ν',F',M',R',h2.setD h3 o.dst⟩,hk⟩
  ·obtain⟨hex,hs⟩:=j34 hs
   split at hs<;>try (cases hs;done)
   rename_i cc s S1 hnw
   obtain⟨hc,hk⟩:=jck hs
   obtain⟨v,H',nx',ν',F',M',R',h1,h2,h3,h4⟩:=jzi (call:=call) h.opS h hnw hc
   exact⟨v,H',nx',_,hop_of hex h1,⟨ν',F',M',R',h2.setD h3 o.dst⟩,hk⟩
  ·obtain⟨hex,hs⟩:=j34 hs
   split at hs<;>try (cases hs;done)
   rename_i cc s S1 hnw
   obtain⟨hc,hk⟩:=jck hs
   obtain⟨v,H',nx',ν',F',M',R',h1,h2,h3,h4⟩:=jzi (call:=call) h.opS h hnw hc
   exact⟨v,H',nx',_,hop_of hex h1,⟨ν',F',M',R',h2.setD h3 o.dst⟩,hk⟩
  ·obtain⟨hex,hs⟩:=j34 hs
   split at hs<;>try (cases hs;done)
   rename_i cc s S1 hnw
   obtain⟨hc,hk⟩:=jck hs
   obtain⟨v,H',nx',ν',F',M',R',h1,h2,h3,h4⟩:=khr (call:=call) (rr:=bif o.q then nx else ro) h.opS h hnw hc
   exact⟨v,H',nx',_,hop_of hex h1,⟨ν',F',M',R',h2.setD h3 o.dst⟩,hk⟩
theorem ConX.know (h:ConX B ro e c S tm H nx ν F M R) {t:Nat} {s:SV} (hv:SVR ν F s (jbd tm (.t t))):ConX B ro e c { S with fr:=(t,s)::S.fr } tm H nx ν F M R:=by
 refine⟨h.hk,fun n u hu=>?_,h.ov,h.mv,h.wr,h.mc,h.fz,h.gl⟩
 simp only[List.cons_append,lkS] at hu
 cases hb:Nat.beq t n<;>rw[hb] at hu<;>simp only[cond_true,cond_false] at hu
 ·exact h.fr n u hu
 ·rw[jaa,decide_eq_true_eq] at hb
  subst hb
  cases hu
  exact hv
theorem kg2 {α:Type} {ch:CH} (hch:HOK B call ch) {hn:Hint} {o:COp} {k:St→Option α} {r:α} (h:ConX B ro e c S tm H nx ν F M R) (hs:kq5 ch hn e o S k=some r):ksa B call ro e c o tm H nx k r:=by
 unfold kq5 at hs
 have skip:∀ {S:St},ConX B ro e c S tm H nx ν F M R→k (setD o.dst (.tup []) S)=some r→jpt call ro o tm H nx=some (.tup [],H,nx)→ksa B call ro e c o tm H nx k r:=fun hC hk hr=>
  ⟨_,H,nx,_,hr,⟨ν,F,M,R,hC.setD (s:=.tup []) ⟨[],rfl,rfl⟩ o.dst⟩,hk⟩
 have doit:∀ {S:St},ConX B ro e c S tm H nx ν F M R→sxJ ch hn e o S k=some r→jpt call ro o tm H nx=jqe call ro o tm H nx→ksa B call ro e c o tm H nx k r:=fun hC hk hr=>by
  obtain⟨v,H',nx',S',h1,h2,h3⟩:=kkh hch hC hk
  exact⟨v,H',nx',S',hr.trans h1,h2,h3⟩
 split at hs
 ·rename_i hg
  exact doit h hs (by unfold jpt;rw[hg])
 ·rename_i t w hg
  have run_t:∀ {b:Bool},jbd tm (.t t)=.bool b→jpt call ro o tm H nx=bif b==w then jqe call ro o tm H nx else some (.tup [],H,nx):=by
   intro b hb
   unfold jpt
   rw[hg]
   simp only[hb]
  split at hs<;>try (cases hs;done)
  ·rename_i hl
   have hv:jbd tm (.t t)=.bool true:=h.fr t _ hl
   have:=run_t hv
   cases w with
   | true=>exact doit h hs this
   | false=>exact skip h hs this
  ·rename_i hl
   have hv:jbd tm (.t t)=.bool false:=h.fr t _ hl
   have:=run_t hv
   cases w with
   | true=>exact skip h hs this
   | false=>exact doit h hs this
  ·rename_i b hl
   have hv:jbd tm (.t t)=.bool b:=h.fr t _ hl
   have:=run_t hv
   cases b with
   | true=>
     have hC:=h.know (t:=t) (s:=.tt) hv
     cases w with
     | true=>exact doit hC hs this
     | false=>exact skip hC hs this
   | false=>
     have hC:=h.know (t:=t) (s:=.ff) hv
     cases w with
     | true=>exact skip hC hs this
     | false=>exact doit hC hs this
  ·rename_i l hl
   obtain⟨m,hv,hm⟩:=h.fr t _ hl
   split at hs<;>try (cases hs;done)
   simp only[jb8] at hm
   subst hm
   refine skip h hs ?_
   unfold jpt
   rw[hg]
   simp only[hv]
theorem jyk {α:Type} {ch:CH} (hch:HOK B call ch) {hn:Hint} {Post:Tr AV→Tr Blk→Nat→Prop}:∀ {ops:List COp} {S:St} {k:St→Option α} {r:α},j9z ch hn e ops S k=some r→
  (∀S',k S'=some r→∀tm H nx,Con B ro e c S' tm H nx→Post tm H nx)→∀tm H nx,Con B ro e c S tm H nx→∃tm' H' nx',jfb call ro ops (tm,H,nx)=some (tm',H',nx')∧Post tm' H' nx'
 | [],S,k,r,hs,hk,tm,H,nx,h=>⟨tm,H,nx,rfl,hk S hs tm H nx h⟩
 | o::ops,S,k,r,hs,hk,tm,H,nx,⟨ν,F,M,R,h⟩=>by
   obtain⟨v,H1,nx1,S1,h1,h2,h3⟩:=kg2 hch h hs
   obtain⟨tm',H',nx',h4,h5⟩:=jyk hch h3 hk _ _ _ h2
   refine⟨tm',H',nx',?_,h5⟩
   simp only[jfb,h1]
   rw[←h4]
   cases o.dst with
   | none=>rfl
   | some d=>simp only[jkq,Tr.setK_eq];rfl
end X
end Go.Vm
namespace Go.Vm
namespace X
open W
variable {B:Base} {call:FuncId→List AV→Tr Blk→Nat→Nat→Out} {ro:Nat} {e:Env} {c:Cnv} {S:St} {tm:Tr AV} {H:Tr Blk} {nx:Nat} {ν:Nm} {F:jaj} {M R:List Ent}
def j86 (B:Base) (ro:Nat) (e:Env) (c:Cnv) (sl:List (Pl×Rep)) (nc:Nat) (x:jl4 (sl.map Prod.snd)) (tm:Tr AV) (H:Tr Blk) (nx:Nat):Prop:=
 ∃ν F R vs EB E,ConX B ro e ((c.park EB).park E) ⟨[],[],nc⟩ tm H nx ν F [] R∧PlR ν tm nc ((sl.map Prod.fst).map (Pl.sh e.b0)) vs EB∧jni F (sl.map Prod.snd) x vs E∧∀x∈E,x.w=true
theorem j6v {sl:List (Pl×Rep)} {x:jl4 (sl.map Prod.snd)} {nc:Nat} (h:j86 B ro e c sl nc x tm H nx) {S:St} (hs:inS sl x e nc=some S):Con B ro e c S tm H nx:=by
 obtain⟨ν,F,R,vs,EB,E,h1,h2,h3,h4⟩:=h
 unfold inS at hs
 split at hs<;>try (cases hs;done)
 rename_i ss S1 hi
 obtain⟨ν',M',k1,k2,k3,k4,k5⟩:=jq2 _ h1 h3 h4 hi
 obtain⟨M2,j1,_⟩:=jxu _ k1 k2 (j7q k3 h2) hs
 exact⟨ν',F,M2,R,j1⟩
theorem jru {sl:List (Pl×Rep)} {b0:Nat} {x:jl4 (sl.map Prod.snd)} {nc:Nat} {fr:SFr} (h:ConX B ro e c S tm H nx ν F M R) (hfr:∀n s,lkS fr n=some s→SVR ν F s (jbd tm (.t n))) {cc:Option Bool} {mv:Mem} (hs:j4o sl b0 fr nc S.mv=some (cc,mv,x)) (hc:okc cc=true):
  ∃vs EB E F' M' R',ConX B ro e ((c.park EB).park E) { S with mv:=mv } tm H nx ν F' M' R'∧PlR ν tm nc ((sl.map Prod.fst).map (Pl.sh b0)) vs EB∧jni F' (sl.map Prod.snd) x vs E∧(∀x∈E,x.w=true):=by
 unfold j4o at hs
 split at hs<;>try (cases hs;done)
 rename_i ss mv1 ho
 obtain⟨vs,EB,M1,k1,k2,k3⟩:=jrv _ h hfr ho
 obtain⟨E,F',M',R',j1,j2,j3,j4⟩:=jtu _ (S:={ S with mv:=mv1 }) k1 hs hc k2
 exact⟨vs,EB,E,F',M',R',j1,k3,j4,j2⟩
theorem j4w {asg:List Nat}:∀ {fr:SFr} {n:Nat},lkS (frK asg fr) n=if jvi n asg then none else lkS fr n
 | [],n=>by simp[frK,lkS]
 | (k,v)::r,n=>by
   have ih:=j4w (asg:=asg) (fr:=r) (n:=n)
   unfold frK at ih ⊢
   rw[List.filter_cons]
   by_cases hk:k=n
   ·subst hk
    cases hm:jvi k asg with
    | true=>simp only[Bool.not_true,Bool.false_eq_true,if_false];rw[ih,hm];rfl
    | false=>simp[lkS]
   ·have hb:Nat.beq k n=false:=by rw[jaa];simpa using hk
    cases hm:jvi k asg with
    | true=>
      simp only[Bool.not_true,Bool.false_eq_true,if_false]
      rw[ih]
      simp only[lkS,hb,cond_false]
    | false=>
      simp only[Bool.not_false,if_true,lkS,hb,cond_false]
      exact ih
theorem kbb {asg:List Nat}:∀ {fr:SFr} {n:Nat},lkS (fr.filter fun x=>jvi x.1 asg) n=if jvi n asg then lkS fr n else none
 | [],n=>by simp[lkS]
 | (k,v)::r,n=>by
   have ih:=kbb (asg:=asg) (fr:=r) (n:=n)
   rw[List.filter_cons]
   by_cases hk:k=n
   ·subst hk
    cases hm:jvi k asg with
    | true=>simp[lkS]
    | false=>simp only[Bool.false_eq_true,if_false];rw[ih,hm];rfl
   ·have hb:Nat.beq k n=false:=by rw[jaa];simpa using hk
    cases hm:jvi k asg with
    | true=>
      simp only[if_true,lkS,hb,cond_false]
      exact ih
    | false=>
      simp only[Bool.false_eq_true,if_false]
      rw[ih]
      simp only[lkS,hb,cond_false]
theorem j4x {asg:List Nat}:∀ {ct:SFr} {n:Nat} {v:SV},(ct.any fun x=>jvi x.1 asg)=false→lkS ct n=some v→jvi n asg=false
 | [],n,v,_,h=>by cases h
 | (k,u)::r,n,v,ha,h=>by
   simp only[List.any_cons,Bool.or_eq_false_iff] at ha
   simp only[lkS] at h
   cases hb:Nat.beq k n<;>rw[hb] at h<;>simp only[cond_true,cond_false] at h
   ·exact j4x ha.2 h
   ·rw[jaa,decide_eq_true_eq] at hb
    subst hb;exact ha.1
theorem j3d {ct:SFr}:∀ {fr:SFr} {n:Nat} {v:SV},jv8 fr ct=true→lkS ct n=some v→lkS fr n=none
 | [],n,v,_,_=>rfl
 | (k,u)::r,n,v,ha,h=>by
   simp only[jv8,List.all_cons,Bool.and_eq_true] at ha
   simp only[lkS]
   cases hb:Nat.beq k n
   ·exact j3d (by unfold jv8;exact ha.2) h
   ·rw[jaa,decide_eq_true_eq] at hb
    subst hb
    rw[h] at ha
    cases ha.1
theorem kiq {sl:List (Pl×Rep)} {x:jl4 (sl.map Prod.snd)} {asg:List Nat} {cc:Option Bool} {mv:Mem} (h:ConX B ro e c S tm H nx ν F M R) (hct:(e.ct.any fun x=>jvi x.1 asg)=false) (hs:j4o sl e.b0 (S.fr++e.ct) S.nc S.mv=some (cc,mv,x)) (hc:okc cc=true):
  ∃Ml,mv.length=Ml.length∧(∀x∈Ml.flatten,x.w=true)∧j86 B ro { e with ct:=frK asg S.fr++e.ct,mc:=mv++e.mc } { c with Ml:=Ml++c.Ml } sl S.nc x tm H nx:=by
 obtain⟨vs,EB,E,F',M',R',h1,h2,h3,h4⟩:=jru h h.fr hs hc
 obtain⟨Ml,rfl,hMl⟩:=jnk h1.mv
 refine⟨Ml,jnl hMl,h1.wr,ν,F',R',vs,EB,E,⟨?_,fun n v hv=>?_,h1.ov,rfl,fun x hx=>(by cases hx),jh0 hMl h1.mc,h1.fz,h1.gl⟩,h2,h3,h4⟩
 ·have:=h1.hk
  simp only[Cnv.Mc,Cnv.park,List.flatten_append,List.nil_append,List.append_assoc] at this ⊢
  exact this
 ·rw[List.nil_append,jiq,j4w] at hv
  refine h1.fr n v ?_
  show lkS (S.fr++e.ct) n=some v
  rw[jiq]
  cases hm:jvi n asg with
  | true=>
    rw[hm] at hv
    simp only[if_true] at hv
    have:=j4x hct hv
    rw[hm] at this;cases this
  | false=>
    rw[hm] at hv
    simpa using hv
theorem j06 {fr:SFr} {mv:Mem} {Ml:List (List Ent)} (hl:mv.length=Ml.length) (hw:∀x∈Ml.flatten,x.w=true) (h:Con B ro { e with ct:=fr++e.ct,mc:=mv++e.mc } { c with Ml:=Ml++c.Ml } S tm H nx):Con B ro e c ⟨S.fr++fr,S.mv++mv,S.nc⟩ tm H nx:=by
 obtain⟨ν,F,M,R,h⟩:=h
 obtain⟨k1,k2⟩:=jlf hl h.mc
 refine⟨ν,F,M++Ml.flatten,R,⟨?_,fun n v hv=>h.fr n v (by rw[List.append_assoc] at hv;exact hv),h.ov,jd0 h.mv (jku k1),fun x hx=>?_,k2,h.fz,h.gl⟩⟩
 ·have:=h.hk
  simp only[Cnv.Mc,Cnv.O0,List.flatten_append,List.append_assoc] at this ⊢
  exact this
 ·rcases List.mem_append.1 hx with hx | hx
  ·exact h.wr x hx
  ·exact hw x hx
theorem j5o {sl:List (Pl×Rep)} {x:jl4 (sl.map Prod.snd)} {nc:Nat} {cc:Option Bool} {mv:Mem} (h:Con B ro e c S tm H nx) (hap:jv8 S.fr e.ct=true) (hs:j4o sl e.b0 (S.fr++e.ct) nc S.mv=some (cc,mv,x)) (hc:okc cc=true):j86 B ro e c sl nc x tm H nx:=by
 obtain⟨ν,F,M,R,h⟩:=h
 obtain⟨vs,EB,E,F',M',R',h1,h2,h3,h4⟩:=jru h h.fr hs hc
 refine⟨ν,F',R',vs,EB,E,⟨h1.hk.sub (List.sublist_append_right ..),fun n v hv=>h1.fr n v ?_,h1.ov,rfl,fun x hx=>(by cases hx),h1.mc,h1.fz,h1.gl⟩,h2,h3,h4⟩
 show lkS (S.fr++e.ct) n=some v
 rw[List.nil_append] at hv
 rw[jiq,j3d hap hv]
 exact hv
theorem jwg {ν:Nm} {F:jaj} (p:Nat×SB→Bool):∀ {m:Mem} {M:List Ent},jrd ν F m M→∃M1 M2,M.Perm (M1++M2)∧jrd ν F (m.filter p) M1∧jrd ν F (m.filter fun x=> !p x) M2
 | [],M,h=>⟨[],[],by simp only[jrd] at h;subst h;exact List.Perm.refl _,rfl,rfl⟩
 | (b,sb)::m,M,⟨E,M',e,h1,h2⟩=>by
   obtain⟨M1,M2,k1,k2,k3⟩:=jwg p h2
   subst e
   rw[List.filter_cons,List.filter_cons]
   cases hp:p (b,sb) with
   | true=>exact⟨E++M1,M2,by rw[List.append_assoc];exact List.Perm.append_left E k1,⟨E,M1,rfl,h1,k2⟩,by simpa using k3⟩
   | false=>
     refine⟨M1,E++M2,(List.Perm.append_left E k1).trans (jfq M1 E M2).symm,by simpa using k2,?_⟩
     simp only[Bool.not_false,if_true]
     exact⟨E,M2,rfl,h1,k3⟩
theorem kb7:∀ {fr:SFr} {n:Nat} {v:SV},lkS fr n=some v→(n,v)∈dd fr
 | [],n,v,h=>by cases h
 | (k,u)::r,n,v,h=>by
   simp only[lkS] at h
   cases hb:Nat.beq k n<;>rw[hb] at h<;>simp only[cond_true,cond_false] at h
   ·refine List.mem_cons_of_mem _ (List.mem_filter.2 ⟨kb7 h,?_⟩)
    rw[jaa,decide_eq_false_iff_not] at hb
    simp only[jaa,Bool.not_eq_true',decide_eq_false_iff_not]
    exact fun h=>hb h.symm
   ·rw[jaa,decide_eq_true_eq] at hb
    subst hb;cases h
    exact List.mem_cons_self ..
theorem kiz:∀ {fr:SFr} {n:Nat} {v:SV},(n,v)∈dd fr→lkS fr n=some v
 | [],n,v,h=>by cases h
 | (k,u)::r,n,v,h=>by
   simp only[lkS]
   rcases List.mem_cons.1 h with h | h
   ·cases h;rw[Nat.beq_refl];rfl
   ·obtain⟨h1,h2⟩:=List.mem_filter.1 h
    simp only[jaa,Bool.not_eq_true',decide_eq_false_iff_not] at h2
    have:Nat.beq k n=false:=by rw[jaa];simp;exact fun h=>h2 h.symm
    rw[this]
    exact kiz h1
theorem j0v {α:Type} {f:α→SV} {g:α→AV}:∀ {l:List α},(∀x∈l,SVR ν F (f x) (g x))→jb8 ν F (l.map f) (l.map g)
 | [],_=>rfl
 | a::l,h=>⟨g a,l.map g,rfl,h a (List.mem_cons_self ..),j0v fun x hx=>h x (List.mem_cons_of_mem _ hx)⟩
theorem jwb {α:Type} {f:α→SV} {g:α→AV}:∀ {l:List α},jb8 ν F (l.map f) (l.map g)→∀x∈l,SVR ν F (f x) (g x)
 | [],_,x,hx=>by cases hx
 | a::l,⟨v,m,e,h1,h2⟩,x,hx=>by
   simp only[List.map_cons,List.cons.injEq] at e
   obtain⟨rfl,rfl⟩:=e
   rcases List.mem_cons.1 hx with rfl | hx
   ·exact h1
   ·exact jwb h2 x hx
theorem ConX.lookG (h:ConX B ro e c S tm H nx ν F M R) {b:Nat} {sb:SB} (hl:lkG e.mc e.G b=some sb):∃F' E,jj9 ν F' b sb E∧(F'=F∨F'=[])∧∀x∈E,x.b<nx∧x.c.At H x.b:=by
 unfold lkG at hl
 split at hl
 ·rename_i y hy
  cases hl
  obtain⟨M1,E,M2,e1,g1,_⟩:=jfx h.mcm hy
  refine⟨F,E,g1,.inl rfl,fun x hx=>?_⟩
  have hm:x∈M++(c.Mc++(R++c.O0)):=by
   have:x∈c.Mc:=by rw[e1];simp[hx]
   simp[this]
  exact⟨(h.hk.ent x hm).1,(h.hk.ent x hm).2.2⟩
 ·obtain⟨_,_,_,E,g1,g2⟩:=h.gl.2 b sb hl
  refine⟨[],E,g1,.inr rfl,fun x hx=>?_⟩
  have:=h.hk.r0
  have:=(jk5 h.hk.r1).1
  obtain⟨k1,k2⟩:=g2 x hx
  exact⟨by omega,k2.congr (h.hk.base _ k1)⟩
theorem j5i (h:ConX B ro e c S tm H nx ν F M R):∀(l:List Ty) {ss:List SV} {vs:List AV} {cap:kfi l},koq (lkG e.mc e.G) l ss=some cap→jb8 ν F ss vs→koy F H l cap vs
 | [],ss,vs,cap,hc,hv=>by
   simp only[koq] at hc
   split at hc<;>cases hc
   exact hv
 | t::l,ss,vs,cap,hc,hv=>by
   simp only[koq] at hc
   split at hc<;>try (cases hc;done)
   rename_i b ss
   split at hc<;>try (cases hc;done)
   rename_i sb hb
   split at hc<;>try (cases hc;done)
   rename_i x xs hx hxs
   cases hc
   obtain⟨v,vs',rfl,hv1,hv2⟩:=hv
   simp only[SVR] at hv1
   subst hv1
   obtain⟨F',E,k1,k2,k3⟩:=h.lookG hb
   cases sb<;>simp only[kgg,reduceCtorEq] at hx
   rename_i cs
   obtain⟨w,m,rfl,hm⟩:=k1
   refine⟨_,m,vs',rfl,(k3 _ (List.mem_singleton.2 rfl)).2,?_,j5i h l hxs hv2⟩
   have:=jco jd7 t hx hm
   rcases k2 with rfl | rfl
   ·exact this
   ·exact ja2 (fun _ h=>by cases h) t _ _ this
theorem ConX.facts (h:ConX B ro e c S tm H nx ν F M R):∀x∈F,x.2.At H x.1:=fun x hx=>(h.fact (b:=x.1) (x:=x.2) hx).2
theorem jye {tm':Tr AV} {nc:Nat}:∀ {sl:List (Pl×Rep)} {b0:Nat} {vs:List AV} {E:List Ent},j4s sl=true→PlR ν tm nc ((sl.map Prod.fst).map (Pl.sh b0)) vs E→PlR ν tm' nc ((sl.map Prod.fst).map (Pl.sh b0)) vs E
 | [],_,vs,E,_,h=>h
 | (.t n,_)::sl,_,_,_,hn,_=>by cases hn
 | (.b n,_)::sl,_,_,_,hn,⟨m,vs',E',e1,e2,h1,h2⟩=>⟨m,vs',E',e1,e2,h1,jye (by simpa[j4s] using hn) h2⟩
 | (.bm n,_)::sl,_,_,_,hn,⟨m,vs',E',e1,e2,h1,h2⟩=>⟨m,vs',E',e1,e2,h1,jye (by simpa[j4s] using hn) h2⟩
 | (.o n,_)::sl,_,_,_,hn,⟨vs',e1,e2,h1,h2⟩=>⟨vs',e1,e2,h1,jye (by simpa[j4s] using hn) h2⟩
 | (.om n,_)::sl,_,_,_,hn,⟨vs',e1,e2,h1,h2⟩=>⟨vs',e1,e2,h1,jye (by simpa[j4s] using hn) h2⟩
theorem jud {ch:CH} (hch:HOK B call ch) {hn:Hint} {α:Type} {r:α}:∀(a:AC) {e:Env} {c:Cnv} {S:St} {k:Ex→St→Option α} {Post:Ex→Tr AV→Tr Blk→Nat→Prop},sx fuel ch hn a e S k=some r→
  (∀ex S',k ex S'=some r→∀tm H nx,Con B ro e c S' tm H nx→Post ex tm H nx)→∀tm H nx,Con B ro e c S tm H nx→∃ex tm' H' nx',exec call ro a.cc (tm,H,nx)=some (ex,tm',H',nx')∧Post ex tm' H' nx'
 | .skip,e,c,S,k,Post,hs,hk,tm,H,nx,h=>⟨.normal,tm,H,nx,rfl,hk _ _ hs _ _ _ h⟩
 | .region ops,e,c,S,k,Post,hs,hk,tm,H,nx,h=>by
   obtain⟨tm',H',nx',h1,h2⟩:=jyk hch (Post:=Post .normal) hs (fun S' hS' tm H nx hC=>hk _ _ hS' _ _ _ hC) tm H nx h
   exact⟨.normal,tm',H',nx',by simp only[AC.cc,exec,h1],h2⟩
 | .seq a b,e,c,S,k,Post,hs,hk,tm,H,nx,h=>by
   obtain⟨ex,tm1,H1,nx1,h1,h2⟩:=jud hch a (c:=c) (Post:=fun ex tm H nx=>match ex with
    | .normal=>∃ex' tm' H' nx',exec call ro b.cc (tm,H,nx)=some (ex',tm',H',nx')∧Post ex' tm' H' nx'
    | ex=>Post ex tm H nx) hs (fun ex S' hS' tm H nx hC=>by
      cases ex with
      | normal=>exact jud hch b hS' hk tm H nx hC
      | exit i=>exact hk _ _ hS' _ _ _ hC
      | ret=>exact hk _ _ hS' _ _ _ hC) tm H nx h
   cases ex with
   | normal=>
     obtain⟨ex',tm',H',nx',h3,h4⟩:=h2
     exact⟨ex',tm',H',nx',by simp only[AC.cc,exec,h1,h3],h4⟩
   | exit i=>exact⟨_,_,_,_,by simp only[AC.cc,exec,h1],h2⟩
   | ret=>exact⟨_,_,_,_,by simp only[AC.cc,exec,h1],h2⟩
 | .cond x a b,e,c,S,k,Post,hs,hk,tm,H,nx,⟨ν,F,M,R,h⟩=>by
   simp only[sx] at hs
   split at hs<;>try (cases hs;done)
   ·rename_i hx
    have hv:=h.opS _ _ hx
    simp only[SVR] at hv
    obtain⟨ex,tm',H',nx',h1,h2⟩:=jud hch a hs hk tm H nx ⟨ν,F,M,R,h⟩
    exact⟨ex,tm',H',nx',by simp only[AC.cc,exec,hv,h1],h2⟩
   ·rename_i hx
    have hv:=h.opS _ _ hx
    simp only[SVR] at hv
    obtain⟨ex,tm',H',nx',h1,h2⟩:=jud hch b hs hk tm H nx ⟨ν,F,M,R,h⟩
    exact⟨ex,tm',H',nx',by simp only[AC.cc,exec,hv,h1],h2⟩
   ·rename_i p hx
    have hv:=h.opS _ _ hx
    simp only[SVR] at hv
    cases p with
    | true=>
      obtain⟨ex,tm',H',nx',h1,h2⟩:=jud hch a hs hk tm H nx ⟨ν,F,M,R,h⟩
      exact⟨ex,tm',H',nx',by simp only[AC.cc,exec,hv,h1],h2⟩
    | false=>
      obtain⟨ex,tm',H',nx',h1,h2⟩:=jud hch b hs hk tm H nx ⟨ν,F,M,R,h⟩
      exact⟨ex,tm',H',nx',by simp only[AC.cc,exec,hv,h1],h2⟩
 | .block id b,e,c,S,k,Post,hs,hk,tm,H,nx,h=>by
   obtain⟨ex,tm',H',nx',h1,h2⟩:=jud hch b (c:=c) (Post:=fun ex tm H nx=>match ex with
    | .exit i=>bif i.beq id then Post .normal tm H nx else Post (.exit i) tm H nx
    | ex=>Post ex tm H nx) hs (fun ex S' hS' tm H nx hC=>by
      cases ex with
      | normal=>exact hk _ _ hS' _ _ _ hC
      | ret=>exact hk _ _ hS' _ _ _ hC
      | exit i=>
        simp only at hS' ⊢
        cases hi:i.beq id with
        | true=>rw[hi] at hS';exact hk _ _ hS' _ _ _ hC
        | false=>rw[hi] at hS';exact hk _ _ hS' _ _ _ hC) tm H nx h
   cases ex with
   | normal=>exact⟨_,_,_,_,by simp only[AC.cc,exec,h1],h2⟩
   | ret=>exact⟨_,_,_,_,by simp only[AC.cc,exec,h1],h2⟩
   | exit i=>
     simp only at h2
     cases hi:i.beq id with
     | true=>rw[hi] at h2;exact⟨_,_,_,_,by simp only[AC.cc,exec,h1,hi,cond_true],h2⟩
     | false=>rw[hi] at h2;exact⟨_,_,_,_,by simp only[AC.cc,exec,h1,hi,cond_false],h2⟩
 | .loop sl b,e,c,S,k,Post,hs,hk,tm,H,nx,⟨ν,F,M,R,h⟩=>by
   simp only[sx] at hs
   obtain⟨hct,hs2⟩:=kkj hs
   split at hs2<;>try (cases hs2;done)
   rename_i cc mv x hout
   obtain⟨hc,hs3⟩:=jck hs2
   obtain⟨Ml,hl,hw,hhead⟩:=kiq h hct hout hc
   have key:∀(n:Nat) (x:jl4 (sl.map Prod.snd)) tm H nx,jbl (fun rec x=>
     match inS sl x { e with ct:=frK b.asg S.fr++e.ct,mc:=mv++e.mc } S.nc with
     | none=>none
     | some S1=>sx fuel ch hn b { e with ct:=frK b.asg S.fr++e.ct,mc:=mv++e.mc } S1 fun ex S2=>match ex with
       | .normal=>sw (jv8 S2.fr (frK b.asg S.fr++e.ct)) (match j4o sl e.b0 (S2.fr++(frK b.asg S.fr++e.ct)) S.nc S2.mv with
         | none=>none
         | some (c,_,x)=>j00 c (rec x)) none
       | ex=>k ex ⟨S2.fr++frK b.asg S.fr,S2.mv++mv,S2.nc⟩) n x=some r→
     j86 B ro { e with ct:=frK b.asg S.fr++e.ct,mc:=mv++e.mc } { c with Ml:=Ml++c.Ml } sl S.nc x tm H nx→
     ∃ex tm' H' nx',iter (exec call ro b.cc) n (tm,H,nx)=some (ex,tm',H',nx')∧Post ex tm' H' nx':=by
    intro n
    induction n with
    | zero=>intro x tm H nx hx;cases hx
    | succ n ih=>
      intro x tm H nx hx hh
      rw[jbl] at hx
      split at hx<;>try (cases hx;done)
      rename_i S1 hin
      have hcon:=j6v hh hin
      obtain⟨ex,tm1,H1,nx1,h1,h2⟩:=jud hch b (c:={ c with Ml:=Ml++c.Ml }) (Post:=fun ex tm H nx=>match ex with
       | .normal=>∃ex' tm' H' nx',iter (exec call ro b.cc) n (tm,H,nx)=some (ex',tm',H',nx')∧Post ex' tm' H' nx'
       | ex=>Post ex tm H nx) hx (fun ex S2 hS2 tm H nx hC=>by
         cases ex with
         | normal=>
           simp only at hS2 ⊢
           obtain⟨hap,hS2⟩:=j34 hS2
           split at hS2<;>try (cases hS2;done)
           rename_i c2 mv2 x2 ho2
           obtain⟨hc2,hS2⟩:=jck hS2
           exact ih x2 tm H nx hS2 (j5o hC hap ho2 hc2)
         | exit i=>exact hk _ _ hS2 _ _ _ (j06 hl hw hC)
         | ret=>exact hk _ _ hS2 _ _ _ (j06 hl hw hC)) tm H nx hcon
      cases ex with
      | normal=>
        obtain⟨ex',tm',H',nx',h3,h4⟩:=h2
        exact⟨ex',tm',H',nx',by rw[iter,h1];exact h3,h4⟩
      | exit i=>exact⟨_,_,_,_,by rw[iter,h1],h2⟩
      | ret=>exact⟨_,_,_,_,by rw[iter,h1],h2⟩
   exact key fuel x tm H nx hs3 hhead
 | .join mb sl a,e,c,S,k,Post,hs,hk,tm,H,nx,⟨ν,F,M,R,h⟩=>by
   simp only[sx,jn] at hs
   generalize mb.map (Pl.bk e.b0)=nb at hs
   obtain⟨hct,hs2⟩:=kkj hs
   obtain⟨M1,M2,hp,hm1,hm2⟩:=jwg (fun x=>jvi x.1 nb) h.mv
   obtain⟨Ml,rfl,hMl⟩:=jnk hm2
   have hw1:∀x∈M1,x.w=true:=fun x hx=>h.wr x (hp.mem_iff.2 (List.mem_append.2 (.inl hx)))
   have hw2:∀x∈Ml.flatten,x.w=true:=fun x hx=>h.wr x (hp.mem_iff.2 (List.mem_append.2 (.inr hx)))
   have hl:(mvK nb S.mv).length=Ml.length:=jnl hMl
   have hcon:Con B ro { e with ct:=frK a.asg S.fr++e.ct,mc:=mvK nb S.mv++e.mc } { c with Ml:=Ml++c.Ml } ⟨S.fr.filter (fun x=>jvi x.1 a.asg),S.mv.filter (fun x=>jvi x.1 nb),S.nc⟩ tm H nx:=by
    refine⟨ν,F,M1,R,⟨?_,fun n v hv=>?_,h.ov,hm1,hw1,jh0 hMl h.mc,h.fz,h.gl⟩⟩
    ·have:=h.hk.perm (O':=(M1++Ml.flatten)++(c.Mc++(R++c.O0))) (List.Perm.append_right _ hp.symm)
     simp only[Cnv.Mc,Cnv.O0,List.flatten_append,List.append_assoc] at this ⊢
     exact this
    ·rw[jiq,jiq,j4w,kbb] at hv
     refine h.fr n v ?_
     rw[jiq]
     cases hm:jvi n a.asg with
     | true=>
       rw[hm] at hv
       simp only[if_true] at hv
       cases hl1:lkS S.fr n with
       | some u=>rw[hl1] at hv;exact hv
       | none=>
         rw[hl1] at hv
         simp only at hv
         have:=j4x hct hv
         rw[hm] at this;cases this
     | false=>
       rw[hm] at hv
       simpa using hv
   exact jud hch a (c:={ c with Ml:=Ml++c.Ml }) hs2 (fun ex S2 hS2 tm H nx hC=>by
    cases ex with
    | normal=>
      simp only at hS2
      obtain⟨hap,hS2⟩:=j34 hS2
      split at hS2<;>try (cases hS2;done)
      rename_i c2 mv2 x2 ho2
      obtain⟨hc2,hS2⟩:=jck hS2
      split at hS2<;>try (cases hS2;done)
      rename_i S1 hin
      exact hk _ _ hS2 _ _ _ (j06 hl hw2 (j6v (j5o hC hap ho2 hc2) hin))
    | exit i=>exact hk _ _ hS2 _ _ _ (j06 hl hw2 hC)
    | ret=>exact hk _ _ hS2 _ _ _ (j06 hl hw2 hC)) tm H nx hcon
 | .rangeF x it p as sl b,e,c,S,k,Post,hs,hk,tm,H,nx,⟨ν,F,M,R,h⟩=>by
   simp only[sx] at hs
   split at hs<;>try (cases hs;done)
   rename_i f free hx
   obtain⟨hcnd,hs2⟩:=j34 hs
   simp only[Bool.and_eq_true,jaa,decide_eq_true_eq] at hcnd
   obtain⟨⟨⟨rfl,hno⟩,hflat⟩,hneed⟩:=hcnd
   split at hs2<;>try (cases hs2;done)
   rename_i cc mv x0 hout
   obtain⟨hc,hs3⟩:=jck hs2
   split at hs3<;>try (cases hs3;done)
   rename_i cap hcap
   obtain⟨l,hl,hs4⟩:=Option.bind_eq_some_iff.1 hs3
   obtain⟨a',freeV,hfn,ha',hfree⟩:=h.opS _ _ hx
   simp only[jb8] at ha'
   subst ha'
   obtain⟨vs,EB,E,F',M',R',h1,h2,h3,h4⟩:=jru (fr:=[]) h (fun n s hn=>by cases hn) hout hc
   obtain⟨Ml,rfl,hMl⟩:=jnk h1.mv
   have hw:=h1.wr
   have hlen:=jnl hMl
   have back:∀ {ν':Nm} {F':jaj},jb8 ν' F' (.fn it.f [] free::((dd (S.fr++e.ct)).map Prod.snd++e.ov)) (jbd tm x::((dd (S.fr++e.ct)).map (fun x=>jbd tm (.t x.1))++c.oa))→
     (∀n s,lkS (S.fr++e.ct) n=some s→SVR ν' F' s (jbd tm (.t n)))∧jb8 ν' F' e.ov c.oa∧jb8 ν' F' free freeV:=by
    rintro ν' F' ⟨v,m',e1,k0,h'⟩
    cases e1
    obtain⟨k1,k2⟩:=jks (by simp) h'
    refine⟨fun n s hn=>jwb k1 _ (kb7 hn),k2,?_⟩
    obtain⟨a2,c2,e2,_,e3⟩:=k0
    rw[hfn] at e2
    cases e2
    exact e3
   obtain⟨c2,hc2⟩:∃c2:Cnv,c2={ c with oa:=jbd tm x::((dd (S.fr++e.ct)).map (fun x=>jbd tm (.t x.1))++c.oa),Ml:=Ml++c.Ml }:=⟨_,rfl⟩
   have hoa:c2.oa=jbd tm x::((dd (S.fr++e.ct)).map (fun x=>jbd tm (.t x.1))++c.oa):=by rw[hc2]
   have hov1:jb8 ν F' (.fn it.f [] free::((dd (S.fr++e.ct)).map Prod.snd++e.ov)) (jbd tm x::((dd (S.fr++e.ct)).map (fun x=>jbd tm (.t x.1))++c.oa)):=
    ⟨_,_,rfl,h1.opS _ _ hx,jbs (j0v fun y hy=>h1.fr _ _ (kiz hy)) h1.ov⟩
   have hhead:j86 B ro (j5d e S.fr (.fn it.f [] free) mv) c2 sl S.nc x0 tm H nx:=by
    refine⟨ν,F',R',vs,EB,E,⟨?_,fun n v hv=>h1.fr n v (by simpa[j5d] using hv),by rw[hc2];exact hov1,rfl,fun x hx=>(by cases hx),by rw[hc2];exact jh0 hMl h1.mc,by rw[hc2];exact h1.fz,h1.gl⟩,jye hno h2,h3,h4⟩
    have:=h1.hk
    rw[hc2]
    simp only[Cnv.Mc,Cnv.park,List.flatten_append,List.nil_append,List.append_assoc] at this ⊢
    exact this
   have hmf:∀ {S3:St} {tm3:Tr AV} {H3:Tr Blk} {nx3:Nat},Con B ro (j5d e S.fr (.fn it.f [] free) mv) c2 S3 tm3 H3 nx3→it.mf freeV H3=some (l.map fun y=>[jzz it.item y],it.key cap):=by
    rintro S3 tm3 H3 nx3 ⟨ν3,F3,M3,R3,hC⟩
    have hov:=hC.ov
    rw[hoa] at hov
    obtain⟨_,_,hf3⟩:=back hov
    exact it.ok e.G F3 H3 cap freeV l hneed (kgo hC.hk hC.gl) (j5i hC it.ins hcap hf3) hC.facts hl
   have out:∀ {S3:St} {tm3:Tr AV} {H3:Tr Blk} {nx3:Nat},Con B ro (j5d e S.fr (.fn it.f [] free) mv) c2 S3 tm3 H3 nx3→Con B ro e c ⟨S.fr,S3.mv++mv,S3.nc⟩ tm H3 nx3:=by
    rintro S3 tm3 H3 nx3 ⟨ν3,F3,M3,R3,hC⟩
    have hov:=hC.ov
    rw[hoa] at hov
    obtain⟨b1,b2,_⟩:=back hov
    have hmc:=hC.mc
    rw[hc2] at hmc
    obtain⟨k1,k2⟩:=jlf hlen hmc
    have hfz:=hC.fz
    rw[hc2] at hfz
    refine⟨ν3,F3,M3++Ml.flatten,R3,⟨?_,b1,b2,jd0 hC.mv (jku k1),fun x hx=>?_,k2,hfz,hC.gl⟩⟩
    ·have:=hC.hk
     rw[hc2] at this
     simp only[Cnv.Mc,Cnv.O0,List.flatten_append,List.append_assoc] at this ⊢
     exact this
    ·rcases List.mem_append.1 hx with hx | hx
     ·exact hC.wr x hx
     ·exact hw x hx
   obtain⟨Fm,hFm⟩:∃Fm:List AV→Tr Blk→Nat→Option (Ex×Tr Blk×Nat),Fm=j6c call ro [p] as (exec call ro b.cc) tm:=⟨_,rfl⟩
   have key:∀(l':List it.item.den) (x:jl4 (sl.map Prod.snd)) H nx,jzm (fun x=>match inS sl x (j5d e S.fr (.fn it.f [] free) mv) S.nc with
          | none=>none
          | some S1=>k .normal ⟨S.fr,S1.mv++mv,S1.nc⟩)
         (fun y rec x=>match inS sl x (j5d e S.fr (.fn it.f [] free) mv) S.nc with
           | none=>none
           | some S1=>j9z ch hn (j5d e S.fr (.fn it.f [] free) mv) as ⟨[(p,kei it.item y)],S1.mv,S1.nc⟩ fun S2=>sx fuel ch hn b (j5d e S.fr (.fn it.f [] free) mv) S2 fun ex S3=>match ex with
             | .normal=>match j4o sl e.b0 [] S.nc S3.mv with
               | none=>none
               | some (c,_,x)=>j00 c (rec x)
             | ex=>k ex ⟨S.fr,S3.mv++mv,S3.nc⟩) l' x=some r→
     j86 B ro (j5d e S.fr (.fn it.f [] free) mv) c2 sl S.nc x tm H nx→
     ∃ex H' nx',j4d (fun H=>it.mf freeV H=some (l.map fun y=>[jzz it.item y],it.key cap)) Fm (l'.map fun y=>[jzz it.item y]) H nx=some (ex,H',nx')∧Post ex tm H' nx':=by
    intro l'
    induction l' with
    | nil=>
      intro x H nx hx hh
      simp only[jzm] at hx
      split at hx<;>try (cases hx;done)
      rename_i S1 hin
      exact⟨.normal,H,nx,rfl,hk _ _ hx _ _ _ (out (j6v hh hin))⟩
    | cons y l' ih=>
      intro x H nx hx hh
      rw[jzm] at hx
      split at hx<;>try (cases hx;done)
      rename_i S1 hin
      obtain⟨ν1,F1,M1,R1,hC1⟩:=j6v hh hin
      have hov:=hC1.ov
      rw[hoa] at hov
      obtain⟨b1,_,_⟩:=back hov
      have hC2:Con B ro (j5d e S.fr (.fn it.f [] free) mv) c2 ⟨[(p,kei it.item y)],S1.mv,S1.nc⟩ (j4k [p] [jzz it.item y] tm) H nx:=by
       refine⟨ν1,F1,M1,R1,⟨hC1.hk,fun n v hn=>?_,hC1.ov,hC1.mv,hC1.wr,hC1.mc,hC1.fz,hC1.gl⟩⟩
       have eset:∀n,jbd (j4k [p] [jzz it.item y] tm) (.t n)=if n=p then jzz it.item y else jbd tm (.t n):=by
        intro n
        simp only[j4k,jbd,Tr.get_set]
        split<;>rfl
       rw[eset]
       simp only[List.cons_append,List.nil_append,lkS] at hn
       cases hb:Nat.beq p n<;>rw[hb] at hn<;>simp only[cond_true,cond_false] at hn
       ·rw[jaa,decide_eq_false_iff_not] at hb
        rw[if_neg fun h=>hb h.symm]
        exact b1 n v hn
       ·rw[jaa,decide_eq_true_eq] at hb
        subst hb
        cases hn
        rw[if_pos rfl]
        exact jvo (j48 hflat) (kiw hflat y)
      obtain⟨tmA,HA,nxA,hA1,ex,tmB,HB,nxB,hB1,hB2⟩:=jyk hch (c:=c2) (Post:=fun tmA HA nxA=>∃ex tmB HB nxB,exec call ro b.cc (tmA,HA,nxA)=some (ex,tmB,HB,nxB)∧
        (match ex with
          | .normal=>it.mf freeV HB=some (l.map fun y=>[jzz it.item y],it.key cap)∧∃ex' H2 nx2,j4d (fun H=>it.mf freeV H=some (l.map fun y=>[jzz it.item y],it.key cap)) Fm (l'.map fun y=>[jzz it.item y]) HB nxB=some (ex',H2,nx2)∧Post ex' tm H2 nx2
          | ex=>Post ex tm HB nxB)) hx (fun S2 hS2 tmA HA nxA hCA=>by
       obtain⟨ex,tmB,HB,nxB,q1,q2⟩:=jud hch b (c:=c2) (Post:=fun ex _ HB nxB=>match ex with
         | .normal=>it.mf freeV HB=some (l.map fun y=>[jzz it.item y],it.key cap)∧∃ex' H2 nx2,j4d (fun H=>it.mf freeV H=some (l.map fun y=>[jzz it.item y],it.key cap)) Fm (l'.map fun y=>[jzz it.item y]) HB nxB=some (ex',H2,nx2)∧Post ex' tm H2 nx2
         | ex=>Post ex tm HB nxB) hS2 (fun ex S3 hS3 tm3 H3 nx3 hC3=>by
        cases ex with
        | normal=>
          simp only at hS3 ⊢
          split at hS3<;>try (cases hS3;done)
          rename_i c3 mv3 x3 ho3
          obtain⟨hc3,hS3⟩:=jck hS3
          refine⟨hmf hC3,ih x3 H3 nx3 hS3 ?_⟩
          obtain⟨ν3,F3,M3,R3,hC3⟩:=hC3
          obtain⟨vs3,EB3,E3,F4,M4,R4,j1,j2,j3,j4⟩:=jru (fr:=[]) hC3 (fun n s hn=>by cases hn) ho3 hc3
          have hov4:=j1.ov
          have hoa4:((c2.park EB3).park E3).oa=c2.oa:=rfl
          rw[hoa4,hoa] at hov4
          obtain⟨b4,_,_⟩:=back hov4
          exact⟨ν3,F4,R4,vs3,EB3,E3,⟨j1.hk.sub (List.sublist_append_right ..),fun n v hv=>b4 n v (by simpa[j5d] using hv),j1.ov,rfl,fun x hx=>(by cases hx),j1.mc,j1.fz,j1.gl⟩,jye hno j2,j3,j4⟩
        | exit i=>exact hk _ _ hS3 _ _ _ (out hC3)
        | ret=>exact hk _ _ hS3 _ _ _ (out hC3)) tmA HA nxA hCA
       exact⟨ex,tmB,HB,nxB,q1,q2⟩) _ H nx hC2
      have hF1:Fm [jzz it.item y] H nx=some (ex,HB,nxB):=by rw[hFm];simp only[j6c,hA1,hB1]
      rw[List.map_cons,j4d]
      rw[hF1]
      cases ex with
      | normal=>
        obtain⟨g1,ex',H2,nx2,g2,g3⟩:=hB2
        exact⟨ex',H2,nx2,by simp only[g1,if_true];exact g2,g3⟩
      | exit i=>exact⟨_,_,_,rfl,hB2⟩
      | ret=>exact⟨_,_,_,rfl,hB2⟩
   obtain⟨ex,H',nx',g1,g2⟩:=key l x0 H nx hs4 hhead
   refine⟨ex,tm,H',nx',?_,g2⟩
   have g3:it.mf freeV H=some (l.map fun y=>[jzz it.item y],it.key cap):=by
    obtain⟨ν5,F5,R5,vs5,EB5,E5,q1,_⟩:=hhead
    have hov:=q1.ov
    have hoa5:((c2.park EB5).park E5).oa=c2.oa:=rfl
    rw[hoa5,hoa] at hov
    obtain⟨_,_,hf5⟩:=back hov
    exact it.ok e.G F5 H cap freeV l hneed (kgo q1.hk q1.gl) (j5i q1 it.ins hcap hf5) q1.facts hl
   have g4:((l.map fun y=>[jzz it.item y]).all fun y=>y.length.beq [p].length)=true:=List.all_eq_true.2 fun y hy=>by
    obtain⟨z,_,rfl⟩:=List.mem_map.1 hy
    rfl
   rw[hFm] at g1
   simp only[AC.cc,exec,hfn,kjw,Nat.beq_refl,cond_true,g3,g4]
   rw[g1]
 | .exit id,e,c,S,k,Post,hs,hk,tm,H,nx,h=>⟨.exit id,tm,H,nx,rfl,hk _ _ hs _ _ _ h⟩
 | .ret,e,c,S,k,Post,hs,hk,tm,H,nx,h=>⟨.ret,tm,H,nx,rfl,hk _ _ hs _ _ _ h⟩
 | .bad,e,c,S,k,Post,hs,hk,tm,H,nx,h=>by cases hs
end X
end Go.Vm
