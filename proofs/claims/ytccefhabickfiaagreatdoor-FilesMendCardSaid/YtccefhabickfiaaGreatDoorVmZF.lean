/- Parts of the proof. -/
import Derived.Test.YtccefhabickfiaaGreatDoorVmA5
import Derived.Test.YtccefhabickfiaaGreatDoorVmYA
set_option linter.unusedSimpArgs false
set_option linter.unusedVariables false
namespace Go.Vm
structure COp where
 dst:Option Nat
 guard:Option (Nat×Bool)
 j:J
 q:Bool
 ex:List Opd
abbrev zB:=List AV->Tr Blk->Option (List (List AV)×List AV)
abbrev nV:=List (FuncId×zB)
def Ef:nV->FuncId->Option zB
 | [],_=>none
 | (g,it)::l,f=>bif g.beq f then some it else Ef l f
inductive CC where
 | skip
 | region (ops:List COp)
 | seq (a b:CC)
 | cond (c:Opd) (a b:CC)
 | block (id:Nat) (b:CC)
 | loop (b:CC)
 | rangeF (x:Opd) (its:nV) (ps:List Nat) (as:List COp) (b:CC)
 | exit (id:Nat)
 | ret
 | bad
inductive CRes where
 | t (n:Nat)
 | cell (a:Nat) (agg:Bool) (size:Nat)
structure CFn where
 nt:Nat
 res:List CRes
 body:CC
inductive Ex where
 | normal
 | exit (id:Nat)
 | ret
abbrev St:=Tr AV×Tr Blk×Nat
def aT (tm:Tr AV):Opd->AV
 | .t n=>(tm.get n).getD (.tup [])
 | .c v=>v
def nB (g:Opd->AV) (i:I) (ex:List Opd):Bool:=
 match i with
 | .store _ x _=>match g x with
   | .ptr b _=>ex.all λy=>match g y with
     | .ptr b' _=> !(b'.beq b)
     | _=>false
   | _=>false
 | .app _ _ x _=>match g x with
   | .nils=>true
   | .sl b _ _ _ _=>ex.all λy=>match g y with
     | .ptr b' _=> !(b'.beq b)
     | .sl b' _ _ _ _=> !(b'.beq b)
     | _=>false
   | _=>false
 | _=>false
def Fo:List AV->List AV->Bool
 | [],[]=>true
 | .ptr b o::l,.ptr b' o'::m=>b.beq b'&&o.beq o'&&Fo l m
 | _,_=>false
def Du:AV->AV->Bool
 | .fn (.func f) [] l,.fn (.func f') [] m=>Nat.beq f f'&&Fo l m
 | _,_=>false
def Mg:Option Blk->Option Blk->Bool
 | some (.cells c 1),some (.cells c' 1)=>match c.get 0,c'.get 0 with
   | some v,some v'=>Du v v'
   | _,_=>false
 | _,_=>false
def rX (g:Opd->AV) (H:Tr Blk):List Opd->Tr Blk->Option (Tr Blk)
 | [],H'=>some H'
 | x::ex,H'=>match g x with
   | .ptr b _=>bif Mg (H.get b) (H'.get b) then(match H.get b with
       | some k=>rX g H ex (H'.set b k)
       | none=>none) else none
   | _=>none
section
variable (call:FuncId->List AV->Tr Blk->Nat->Nat->bN) (ro:Nat)
def wV (o:COp) (tm:Tr AV) (H:Tr Blk) (nx:Nat):bN:=
 match o.j with
 | .h (.call f xs)=>bif o.q then none else(match hop call ro (aT tm) H nx (.call f xs) with
   | some (v,H',nx')=>(rX (aT tm) H o.ex H').map λH2=>(v,H2,nx')
   | none=>none)
 | _=>none
def gM (o:COp) (tm:Tr AV) (H:Tr Blk) (nx:Nat):bN:=
 match o.j with
 | .p i=>match bD (aT tm) i with
   | some v=>some (v,H,nx)
   | none=>none
 | .h i=>bif o.ex.isEmpty||nB (aT tm) i o.ex then hop call (bif o.q then nx else ro) (aT tm) H nx i else wV call ro o tm H nx
def gH (o:COp) (tm:Tr AV) (H:Tr Blk) (nx:Nat):bN:=
 match o.guard with
 | none=>gM call ro o tm H nx
 | some (t,want)=>match aT tm (.t t) with
   | .bool b=>bif b==want then gM call ro o tm H nx else some (.tup [],H,nx)
   | _=>some (.tup [],H,nx)
def jR:List COp->St->Option St
 | [],s=>some s
 | o::r,(tm,H,nx)=>match gH call ro o tm H nx with
   | some (v,H,nx)=>match o.dst with
     | none=>jR r (tm,H,nx)
     | some d=>Jp v λv=>Tr.setK v (d+1) tm d λtm=>jR r (tm,H,nx)
   | none=>none
def iter (f:St->Option (Ex×St)):Nat->St->Option (Ex×St)
 | 0,_=>none
 | n+1,s=>match f s with
   | some (.normal,s)=>iter f n s
   | r=>r
def fuel:Nat:=4611686018427387904
def Az:List Nat->List AV->Tr AV->Tr AV
 | p::ps,v::vs,tm=>Az ps vs (tm.set p v)
 | _,_,tm=>tm
open Classical in
noncomputable def kI (ok:Tr Blk->Prop) (f:List AV->Tr Blk->Nat->Option (Ex×Tr Blk×Nat)):List (List AV)->Tr Blk->Nat->Option (Ex×Tr Blk×Nat)
 | [],H,nx=>some (.normal,H,nx)
 | y::l,H,nx=>match f y H nx with
   | some (.normal,H1,nx1)=>if ok H1 then kI ok f l H1 nx1 else none
   | r=>r
def uD (k:IntKind) (l:List Int):List AV:=[.agg (.sl 0 0 0 none 0::l.map (AV.int k))]
def zT (b:Nat) (v:AV):List AV:=[.agg [.sl 0 0 0 none 0,.ptr b 0,v]]
def gE:List AV->Tr Blk->Nat->List AV×Tr Blk×Nat
 | [.agg [.sl _ _ _ _ 0,.ptr _ _,v]],H,nx=>([v],H,nx)
 | [.agg (.sl _ _ _ _ 0::l)],H,nx=>([.sl nx 0 l.length none 1],H.set nx (.cells (put l 0 .e) l.length),Nat.succ nx)
 | y,H,nx=>(y,H,nx)
def boxed:List (List AV)->Bool
 | [.agg [.sl _ _ _ _ 0,.ptr _ _,_]]::_=>true
 | _=>false
def nR:List (List AV)->Tr Blk->Option (Tr Blk)
 | [.agg [.sl _ _ _ _ 0,.ptr b _,_]]::_,H=>bif(rx ro).ble b&&(H.get b).isSome then some (H.del b) else none
 | _,H=>some H
def Us (ps:List Nat) (as:List COp) (f:St->Option (Ex×St)) (tm:Tr AV) (y:List AV) (H:Tr Blk) (nx:Nat):Option (Ex×Tr Blk×Nat):=
 match jR call ro as (Az ps (gE y H nx).1 tm,(gE y H nx).2.1,(gE y H nx).2.2) with
 | some s1=>match f s1 with
   | some (e,_,H',nx')=>some (e,H',nx')
   | none=>none
 | none=>none
noncomputable def exec:CC->St->Option (Ex×St)
 | .skip,s=>some (.normal,s)
 | .region ops,s=>match jR call ro ops s with
   | some s=>some (.normal,s)
   | none=>none
 | .seq a b,s=>match exec a s with
   | some (.normal,s)=>exec b s
   | r=>r
 | .cond c a b,s=>match aT s.1 c with
   | .bool true=>exec a s
   | .bool false=>exec b s
   | _=>none
 | .block id b,s=>match exec b s with
   | some (.exit i,s)=>bif i.beq id then some (.normal,s) else some (.exit i,s)
   | r=>r
 | .loop b,s=>iter (exec b) fuel s
 | .rangeF x its ps as b,s=>match aT s.1 x with
   | .fn (.func f) [] free=>match Ef its f with
     | some it=>match it free s.2.1 with
       | some ys=>bif ys.1.all (λy=>y.length.beq ps.length) then(match nR ro ys.1 s.2.1 with
         | some H0=>(match kI (λH=>it free H=some ys\/boxed ys.1=true) (Us call ro ps as (exec b) s.1) ys.1 H0 s.2.2 with
           | some (e,H',nx')=>some (e,s.1,H',nx')
           | none=>none)
         | none=>none) else none
       | none=>none
     | none=>none
   | _=>none
 | .exit id,s=>some (.exit id,s)
 | .ret,s=>some (.ret,s)
 | .bad,_=>none
def Gj (tm:Tr AV) (H:Tr Blk):CRes->Option AV
 | .t n=>some ((tm.get n).getD (.tup []))
 | .cell a agg size=>match tm.get a with
   | some (.ptr b o)=>match H.get b with
     | some (.cells c m)=>bif(o+size).ble m then(match take c o size with
       | some l=>nG agg l
       | none=>none) else none
     | _=>none
   | _=>none
def sX (tm:Tr AV) (H:Tr Blk):List CRes->Option (List AV)
 | []=>some []
 | r::l=>match Gj tm H r with
   | none=>none
   | some v=>match sX tm H l with
     | none=>none
     | some vs=>some (v::vs)
noncomputable def tL (c:CFn) (as:List AV) (H:Tr Blk) (nx:Nat):bN:=
 bif as.length.ble c.nt then qZ as 0 .e λtm=>match exec call ro c.body (tm,H,nx) with
  | some (.exit _,_)=>none
  | some (_,(tm,H,nx))=>match sX tm H c.res with
    | some [v]=>some (v,H,nx)
    | some vs=>some (.tup vs,H,nx)
    | none=>none
  | none=>none
 else none
end
noncomputable def run (prog:Tr CFn):Nat->FuncId->List AV->Tr Blk->Nat->Nat->bN
 | 0,_,_,_,_,_=>none
 | n+1,f,as,H,nx,ro=>match prog.get f with
   | none=>none
   | some c=>tL (run prog n) ro c as H nx
section compile
variable (P:Program) (gl:List Nat)
def yC:Option Opd->List Opd
 | none=>[]
 | some x=>[x]
def I.opds:I->List Opd
 | .mov x | .nilck x | .neg x | .cpl x | .not x | .cvi _ x | .cvs x | .mkif _ x | .fad _ x | .fld _ _ _ x | .ext _ x | .len x | .lenS x | .cap x
 | .box x | .load _ _ x | .b2s x | .s2b x | .range x | .next x=>[x]
 | .pick c a b=>[c,a,b]
 | .build _ ps=>ps.map (·.2.2)
 | .bin _ x y | .eqf _ _ _ x y | .eqn _ _ x y | .iadA _ _ x y | .iadS _ x y | .idxA _ _ _ x y | .idxS x y | .store _ x y | .app _ _ x y | .copy _ x y | .mksl _ _ _ x y=>[x,y]
 | .mkfn _ a b=>a++b
 | .slS _ x lo hi mx | .slA _ _ x lo hi mx=>x::(yC lo++yC hi++yC mx)
 | .slT x lo hi=>x::(yC lo++yC hi)
 | .lenc _ | .alloc _ | .bad=>[]
 | .mins x xs | .maxs x xs=>x::xs
 | .bsl _ _ _ ps=>ps.map (·.2.2)
 | .call _ as | .xrow _ as=>as
 | .mkmap r=>yC r
 | .mlook _ _ _ _ x k=>[x,k]
 | .mset _ _ x k v=>[x,k,v]
 | .calld f as=>f::as
def J.i:J->I
 | .p i | .h i=>i
def Opd.tmp?:Opd->Option Nat
 | .t n=>some n
 | .c _=>none
def COp.uses (o:COp):List Nat:=(o.j.i.opds.filterMap Opd.tmp?)++(match o.guard with | some (t,_)=>[t] | none=>[])
def COp.isP (o:COp):Bool:=match o.j with | .p _=>true | .h _=>false
def COp.isLoad (o:COp):Bool:=match o.j with | .h (.load ..)=>true | _=>false
def COp.loadAt (o:COp):Option Opd:=match o.j with | .h (.load _ _ x)=>some x | _=>none
def COp.lays (o:COp):Bool:=match o.j with
 | .h (.box _) | .h (.alloc _) | .h (.bsl ..) | .h (.mksl ..) | .h (.s2b _)=>true
 | _=>false
def COp.isApp (o:COp):Bool:=match o.j with | .h (.app ..)=>true | _=>false
def Mi (a b:Opd):Bool:=match a,b with | .t m,.t n=>m==n | _,_=>false
def Ju (d:Option Nat) (nt:Nat):Bool:=match d with | some d=>d.blt nt | none=>true
def tO (nt:Nat) (ops:Array Oper) (o:Oper):Option COp:=
 match (uS P gl o.op).getD (.h .bad) with
 | j=>
   if Ju o.dst nt then
    match o.guard with
    | none=>some ⟨o.dst,none,j,false,[]⟩
    | some (k,want)=>match (ops[k]?).bind (·.dst) with
      | some t=>if t<nt then some ⟨o.dst,some (t,want),j,false,[]⟩ else none
      | none=>none
   else none
def Ph (x y:COp):Bool:=
 (match x.dst with | some d=> !(y.uses.contains d)&&(match y.dst with | some d'=> !(d.beq d') | none=>true) | none=>true)&&
 (match y.dst with | some d=> !(x.uses.contains d) | none=>true)
def qM (o:Oper):List Nat:=o.after.toList.filterMap λe=>if Region.binds .any e then some e.on else none
def Il (es:List (List Nat)) (an:List Nat):Bool:=
 (List.range es.length).all λj=>(List.range es.length).all λi=> !((an.getD j 0).testBit i)||(es.getD j []).any λk=>k==i||(an.getD k 0).testBit i
def Do (es:List (List Nat)):Bool:=(List.range es.length).all λj=>(es.getD j []).all λk=>k<j
def sL (x y:COp):Bool:=
 Ph x y&&(x.isP||y.isP||(x.q&&y.q)||(match x.loadAt with
  | some a=>(match y.j with | .h (.store ..) | .h (.app ..) | .h (.call ..)=>y.ex.any (Mi a) | _=>false)
  | none=>y.isApp&&x.lays&&x.q&&(match x.dst with | some d=>y.ex.any (Mi (.t d)) | none=>false)))
def jnu (an:List Nat) (ops:List COp):Bool:=
 (List.range ops.length).all λj=>(List.range j).all λi=>
   (an.getD j 0).testBit i||match ops[i]?,ops[j]? with
     | some x,some y=>sL x y
     | _,_=>false
def Kl (an:List Nat) (ops:List COp) (j:Nat) (y:COp):COp:=
 let n:=ops.length
 let loose (k:Nat):Bool:=if k<j then !((an.getD j 0).testBit k) else if j<k then !((an.getD k 0).testBit j) else false
 let lo:=(List.range n).filter λk=>loose k&& !((ops[k]?).any COp.isP)
 match y.j with
 | .p _=>y
 | .h (.store ..)=>{ y with ex:=lo.filterMap λk=>(ops[k]?).bind COp.loadAt }
 | .h (.app ..)=>if lo.isEmpty then y else
     if lo.all (λk=>k.blt j&&(ops[k]?).any λz=>z.isLoad||z.lays) then { y with ex:=lo.filterMap λk=>(ops[k]?).bind λz=>match z.loadAt with | some a=>some a | none=>z.dst.map Opd.t }
     else { y with q:=true }
 | .h (.call ..)=>if lo.isEmpty then y else
     if lo.all (λk=>k.blt j&&(ops[k]?).any λz=>z.isLoad&&(match z.dst with
         | some d=>ops.any λu=>match u.j with | .h (.calld (.t d') _)=>d.beq d' | _=>false
         | none=>false)) then { y with ex:=lo.filterMap λk=>(ops[k]?).bind COp.loadAt }
     else { y with q:=true }
 | .h _=>
   if y.isLoad then { y with q:=true } else if lo.isEmpty then y else { y with q:=true }
def Zy (ops:List COp):Bool:=
 (List.range ops.length).all λj=>match ops[j]? with
   | some y=>y.ex.all λa=>match a with
     | .t m=>(List.range j).all λk=>match ops[k]? with
       | some z=>(match z.loadAt with
         | some (.t m')=> !(m'==m)||(List.range j).all λk'=>k'<k||(match ops[k']? with | some u=>u.dst != some m | none=>false)
         | _=>true)&&(!(z.lays&&z.dst==some m)||(List.range j).all λk'=>k'.ble k||(match ops[k']? with | some u=>u.dst != some m | none=>false))
       | none=>false
     | .c _=>false
   | none=>false
def zY (ops:Array Oper) (cs:List COp):Option (List COp):=
 let es:=ops.toList.map qM
 let an:=(Region.before ops).toList
 let ms:=(cs.zipIdx.map fun(y,j)=>Kl an cs j y)
 if Do es&&Il es an&&jnu an ms&&Zy ms then some ms else none
def j0c (ops:Array Oper) (cs:List COp):Bool:=cs.any COp.isApp&&
 let an:=(Region.before ops).toList
 (List.range cs.length).any λj=>(cs[j]?).any COp.isApp&&(List.range cs.length).any λk=>j.blt k&& !((an.getD k 0).testBit j)&&(cs[k]?).any λz=>z.isLoad||z.lays
def jc9 (es:List (List Nat)) (late:Nat->Bool):Nat->List Nat->List Nat->List Nat
 | 0,rest,acc=>acc.reverse++rest
 | f+1,rest,acc=>
   let ready:=rest.filter λi=>(es.getD i []).all λk=>acc.contains k
   match ready.find? (λi=> !(late i)) with
   | some i=>jc9 es late f (rest.filter λk=> !(k.beq i)) (i::acc)
   | none=>match ready.head? with
     | some i=>jc9 es late f (rest.filter λk=> !(k.beq i)) (i::acc)
     | none=>acc.reverse++rest
def j92 (ops:Array Oper) (cs:List COp):List Nat:=
 if j0c ops cs then jc9 (ops.toList.map qM) (λi=>(cs[i]?).any λz=> !(z.isP||z.isLoad||z.lays)) ops.size (List.range ops.size) [] else []
def La (π:List Nat) (ops:Array Oper):Bool:=
 π.length.beq ops.size&&π.all (λi=>i.blt ops.size)&&(List.range ops.size).all (λk=>π.contains k)&&(List.range π.length).all (λp=>(π.idxOf (π.getD p 0)).beq p)&&ops.toList.all λo=>o.after.toList.all λe=>e.on.blt ops.size
def Fb:CC->Bool
 | .seq a b | .cond _ a b=>Fb a&&Fb b
 | .block _ b | .loop b=>Fb b
 | .rangeF .. =>false
 | _=>true
def Ku:Op->Bool
 | .defer _=>false
 | _=>true
def Pw (ops:Array Oper):Bool:=ops.toList.all λo=>Ku o.op
def cc (its:nV) (nt:Nat):Code->Option CC
 | .skip=>some .skip
 | .label _=>some .skip
 | .scope c=>match cc its nt c with
   | some c=>some c
   | none=>none
 | .rangeFunc g ps (.region _ ops false) b=>match its with
   | []=>some .bad
   | _::_=>match bT gl g,ops.toList.mapM (tO P gl nt ops),cc its nt b with
     | some x,some as,some b=>if Fb b&&Pw ops&&ps.toList.all (λp=>p.blt nt) then some (.rangeF x its ps.toList as b) else none
     | _,_,_=>none
 | .region _ ops d=>if !(Pw ops) then none else match ops.toList.mapM (tO P gl nt ops) with
   | some cs=>if d then(match j92 ops cs with
      | []=>(zY ops cs).map .region
      | i::π=>if La (i::π) ops then(match (kV (i::π) ops).toList.mapM (tO P gl nt (kV (i::π) ops)) with
        | some cs'=>(zY (kV (i::π) ops) cs').map .region
        | none=>none) else none) else some (.region cs)
   | none=>none
 | .seq a b=>match cc its nt a,cc its nt b with
   | some a,some b=>some (.seq a b)
   | _,_=>none
 | .cond c a b=>match bT gl c,cc its nt a,cc its nt b with
   | some c,some a,some b=>some (.cond c a b)
   | _,_,_=>none
 | .block id b=>(cc its nt b).map (.block id)
 | .loop b=>(cc its nt b).map .loop
 | .exit id=>some (.exit id)
 | .ret=>some .ret
 | _=>some .bad
def Jd:ResultVar->Option CRes
 | .tmp t=>some (.t t)
 | .cell a t=>(lay P t).map λs=>.cell a s.2 s.1
def cfn (fn:Func) (its:nV:=[]):Option CFn:=
 match fn.body with
 | none=>none
 | some b=>match cc P gl its fn.ntmps b,fn.results.toList.mapM (Jd P) with
   | some c,some rs=>if fn.name== "runtime.NumGoroutine" then none else some ⟨fn.ntmps,rs,c⟩
   | _,_=>none
end compile
end Go.Vm
