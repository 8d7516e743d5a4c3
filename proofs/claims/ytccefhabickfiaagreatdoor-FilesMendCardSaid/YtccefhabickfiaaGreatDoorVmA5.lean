/- Parts of the proof. -/
import Derived.Test.YtccefhabickfiaaGreatDoorVmA3
import Derived.Lib.Bytealg
import Derived.Laws.RangeString
import Derived.Laws.IdiomStrings
set_option linter.unusedSimpArgs false
set_option linter.defProp false
set_option linter.unusedVariables false
namespace Go.Vm
def qZ {β:Type}:List AV->Nat->Tr AV->(Tr AV->β)->β
 | [],_,t,k=>k t
 | a::l,i,t,k=>Jp a λa=>Tr.setK a (i+1) t i λt=>qZ l (i+1) t k
def put (l:List AV) (i:Nat) (t:Tr AV):Tr AV:=qZ l i t id
def jP:∀(l:List AV) (i:Nat) (t:Tr AV) (β:Type) (k:Tr AV->β),qZ l i t k=k (put l i t)
 | [],_,_,_,_=>rfl
 | a::l,i,t,β,k=>by
   unfold put qZ;simp only[Dv,Tr.setK_eq];rw[jP l,jP l];rfl
def j5d (i:Nat) (t:Tr AV):put [] i t=t:=rfl
def j5b (a:AV) (l:List AV) (i:Nat) (t:Tr AV):put (a::l) i t=put l (i+1) (t.set i a):=by
 unfold put;rw[qZ,Dv,Tr.setK_eq];rfl
def mP:∀(l:List AV) (i:Nat) (t:Tr AV) (j:Nat),(put l i t).get j=if i<=j/\j<i+l.length then l[j-i]? else t.get j
 | [],i,t,j=>by rw[j5d,aD (by simp only[iT];omega)]
 | a::l,i,t,j=>by
   rw[j5b,mP l (i+1),Tr.get_set];simp only[dG];by_cases h1:j=i
   ·subst h1;rw[aD (by omega),aK rfl,aK (by omega),Tv];rfl
   ·by_cases h2:i<=j/\j<i+ (l.length+1)
    ·rw[aK (by omega),aK h2,show j-i=j-(i+1)+1 by omega];rfl
    ·rw[aD (by omega),aD h1,aD h2]
def take:Tr AV->Nat->Nat->Option (List AV)
 | _,_,0=>some []
 | t,i,n+1=>match t.get i with
   | none=>none
   | some a=>match take t (i+1) n with
     | none=>none
     | some l=>some (a::l)
def Cm:∀(n:Nat) (t:Tr AV) (i:Nat) (l:List AV),take t i n=some l->l.length=n/\∀j,j<n->t.get (i+j)=l[j]?
 | 0,t,i,l,h=>by
   simp only[take,aG] at h;subst h;exact⟨rfl,λj hj=>by omega⟩
 | n+1,t,i,l,h=>by
   simp only[take] at h;split at h
   ·cases h
   ·rename_i a ha;split at h
    ·cases h
    ·rename_i m hm;cases h;obtain⟨h1,h2⟩:=Cm n t (i+1) m hm;refine⟨by simp[h1],λj hj=>?_⟩;cases j with
     | zero=>simpa using ha
     | succ j=>rw[show i+ (j+1)=i+1+j by omega,h2 j (by omega)];rfl
def iO (z:Nat) (H:Tr Blk) (n:Nat):AV->Option (List AV)
 | .nils=>bif n.beq 0 then some [] else none
 | .str s=>bif z.beq 1&&n.ble s.length then some ((s.take n).map λc=>.int .u8 (.ofNat c)) else none
 | .sl b o len _ z'=>bif z'.beq z&&n.ble len then(match H.get b with
   | some (.cells c m)=>bif(o+n*z).ble m then take c o (n*z) else none
   | _=>none) else none
 | _=>none
def jJ:AV->Option Nat
 | .nils=>some 0
 | .str s=>some s.length
 | .sl _ _ len _ _=>some len
 | _=>none
def yY:List AV->Option (List Nat)
 | []=>some []
 | .int .u8 (.ofNat n)::l=>bif n.ble 255 then(match yY l with
   | some r=>some (n::r)
   | none=>none) else none
 | _=>none
abbrev bE:=Tr Blk×Nat
abbrev bN:=Option (AV×Tr Blk×Nat)
def Fa (k:Blk) (v:Nat->AV) (H:Tr Blk) (nx:Nat):bN:=
 Tr.setK k (nx+1) H nx λH=>pD (nx+1) λnx'=>some (v nx,H,nx')
def Bu (b:Nat) (k:Blk) (v:AV) (H:Tr Blk) (nx:Nat):bN:=
 Tr.setK k (b+1) H b λH=>some (v,H,nx)
def pN (l:List AV) (v:Nat->AV) (H:Tr Blk) (nx:Nat):bN:=
 qZ l 0 .e λc=>pD l.length λn=>Fa (.cells c n) v H nx
def jM (z:Nat) (ro:Nat) (H:Tr Blk) (nx:Nat) (x:AV) (k:Nat) (new:List AV):bN:=
 match x with
 | .nils=>bif k.beq 0 then some (.nils,H,nx) else pN new (λb=>.sl b 0 k none z) H nx
 | .sl b o len cap z'=>
   bif !(z'.beq z) then none else
   bif k.beq 0 then some (x,H,nx) else
   match H.get b with
   | some (.cells c m)=>
     let need:=len+k
     bif(match cap with | some cp=>need.ble cp | none=>(o+need*z).ble m) then
      (bif(rx ro).ble b&&(o+need*z).ble m then qZ new (o+len*z) c λc=>Bu b (.cells c m) (.sl b o need cap z) H nx else none)
     else match iO z H len x with
      | none=>none
      | some old=>match cap with
        | some _=>pN (old++new) (λb=>.sl b 0 need none z) H nx
        | none=>bif(rx ro).ble b then Tr.delK H b λH=>pN (old++new) (λb=>.sl b 0 need none z) H nx else none
   | _=>none
 | _=>none
section
variable (call:FuncId->List AV->Tr Blk->Nat->Nat->bN) (ro:Nat) (g:Opd->AV) (H:Tr Blk) (nx:Nat)
def Jc (c:Nat):List Nat->Nat->Nat
 | [],n=>n
 | x::l,n=>bif x.beq c then Jc c l (n+1) else Jc c l n
def Qy (c:Nat):List Nat->Int
 | []=> -1
 | x::l=>bif x.beq c then 0 else match Qy c l with
   | .ofNat n=>.ofNat (n+1)
   | .negSucc _=> -1
def xrow (name:Nat) (args:List AV):Option AV:=
 match args with
 | [.str s,.int .u8 (.ofNat c)]=>bif c.ble 255 then(match name with
   | 0=>some (.int .i64 (Qy c s))
   | 1=>some (.int .i64 (.ofNat (Jc c s 0)))
   | _=>none) else none
 | _=>none
def vF (agg:Bool) (ks:List Nat) (k:AV):List (AV×AV)->Nat->Option (Option (Nat×AV))
 | [],_=>some none
 | (a,v)::m,i=>match jV agg ks k a with
   | some true=>some (some (i,v))
   | some false=>vF agg ks k m (i+1)
   | none=>none
def xU (ok:Bool) (v:AV) (b:Bool):AV:=bif ok then .tup [v,.bool b] else v
def pM (k v:AV) (m:List (AV×AV)):Option (Nat×AV)->List (AV×AV)
 | some (i,_)=>m.set i (k,v)
 | none=>m++[(k,v)]
def hop:I->bN
 | .mkmap r=>match r.map g with
   | none | some (.int _ _)=>Fa (.mp []) (λb=>.mp b) H nx
   | _=>none
 | .mlook agg ks z ok x k=>bif(jV agg ks (g k) (g k)).isSome then match g x with
   | .nilm=>some (xU ok z false,H,nx)
   | .mp b=>match H.get b with
     | some (.mp m)=>match vF agg ks (g k) m 0 with
       | some (some (_,v))=>some (xU ok v true,H,nx)
       | some none=>some (xU ok z false,H,nx)
       | none=>none
     | _=>none
   | _=>none
   else none
 | .mset agg ks x k v=>match g x with
   | .mp b=>match H.get b with
     | some (.mp m)=>match vF agg ks (g k) m 0 with
       | some r=>bif(rx ro).ble b&&(jV agg ks (g k) (g k)).isSome then Bu b (.mp (pM (g k) (g v) m r)) (.tup []) H nx else none
       | none=>none
     | _=>none
   | _=>none
 | .box x=>pN (gD (g x)) (λb=>.ptr b 0) H nx
 | .alloc z=>pN z (λb=>.ptr b 0) H nx
 | .bsl z n zs ps=>bif z.beq 0|| !((n*z).ble 1000000) then none else match wR zs (ps.map fun(o,s,x)=>(o,s,g x)) with
   | some l=>bif l.length.beq (n*z) then pN l (λb=>.sl b 0 n (some n) z) H nx else none
   | none=>none
 | .load agg n x=>match g x with
   | .ptr b o=>match H.get b with
     | some (.cells c m)=>bif(o+n).ble m then(match take c o n with
       | some l=>match nG agg l with
         | some v=>some (v,H,nx)
         | none=>none
       | none=>none) else none
     | _=>none
   | _=>none
 | .store n x v=>match g x with
   | .ptr b o=>match H.get b with
     | some (.cells c m)=>bif(rx ro).ble b&&(o+n).ble m&&(gD (g v)).length.beq n&&(gD (g v)).all hZ then
        qZ (gD (g v)) o c λc=>Bu b (.cells c m) (.tup []) H nx else none
     | _=>none
   | _=>none
 | .slA n z x lo hi mx=>match g x with
   | .ptr b o=>match H.get b with
     | some (.cells _ m)=>bif z.beq 0|| !((o+n*z).ble m) then none else match mZ n n (lo.map g) (hi.map g) (mx.map g) with
       | some (l,h,m)=>some (.sl b (o+l*z) (h-l) (some (m-l)) z,H,nx)
       | none=>none
     | _=>none
   | _=>none
 | .app z bytes x y=>match jJ (g y),jJ (g x) with
   | some k,some len=>bif(len+k).ble 10000000&&bytes.ble 1000&& !(z.beq 0) then(match iO z H k (g y) with
     | some new=>bif new.all hZ then jM z ro H nx (g x) k new else none
     | none=>none) else none
   | _,_=>none
 | .copy z x y=>match jJ (g y),g x with
   | some k,.sl b o len _ z'=>
     let n:=bif k.ble len then k else len
     match iO z H n (g y) with
     | some new=>bif n.beq 0 then some (.int .i64 0,H,nx) else match H.get b with
       | some (.cells c m)=>bif(rx ro).ble b&&z'.beq z&&(o+n*z).ble m&&new.all hZ then
          qZ new o c λc=>Bu b (.cells c m) (.int .i64 n) H nx else none
       | _=>none
     | none=>none
   | some _,.nils=>match iO z H 0 (g y) with
     | some _=>some (.int .i64 0,H,nx)
     | none=>none
   | _,_=>none
 | .mksl z bytes zs l c=>match g l,g c with
   | .int _ (.ofNat l),.int _ (.ofNat c)=>bif l.ble c&&c.ble 1000000&&bytes.ble 1000&& !(z.beq 0)&&zs.length.beq z then
       pN (List.replicate c zs).flatten (λb=>.sl b 0 l (some c) z) H nx else none
   | _,_=>none
 | .b2s x=>match g x with
   | .nils=>some (.str [],H,nx)
   | .sl b o len _ z=>match H.get b with
     | some (.cells c m)=>bif z.beq 1&&(o+len).ble m then(match take c o len with
       | some l=>match yY l with
         | some s=>Jr s λs=>some (.str s,H,nx)
         | none=>none
       | none=>none) else none
     | _=>none
   | _=>none
 | .s2b _=>none
 | .range x=>match g x with
   | .str s=>Fa (.iter s 0) (λb=>.ptr b 0) H nx
   | _=>none
 | .next x=>match g x with
   | .ptr b 0=>match H.get b with
     | some (.iter s pos)=>match s[pos]? with
       | some c=>bif(rx ro).ble b&&c.ble 127 then pD (pos+1) λp=>Bu b (.iter s p) (.tup [.bool true,.int .i64 (.ofNat pos),.int .i32 (.ofNat c)]) H nx else none
       | none=>some (.tup [.bool false],H,nx)
     | _=>none
   | _=>none
 | .call f args=>Jq (args.map g) λas=>call f as H nx ro
 | .calld f args=>match g f with
   | .fn (.func f) a b=>Jq (a++args.map g++b) λas=>call f as H nx ro
   | _=>none
 | .xrow name args=>match xrow name (args.map g) with
   | some v=>some (v,H,nx)
   | none=>none
 | _=>none
end
section compile
variable (P:Program) (gl:List Nat)
def j42 (s:Nat) (ps:List (Nat×Operand)):Option (List (Nat×Nat×Opd)):=Au gl (λi=>some (i*s,s)) ps
def jmr:String:=match Extern.BytealgIndexByte.rows with | [_,x]=>x.1 | _=> ""
def jmq:String:=match Extern.BytealgCount.rows with | [_,x]=>x.1 | _=> ""
def Ag (k:TypeId):Option (Bool×List Nat):=match P.underlying k with
 | some (.struct _) | some (.array _ _)=>(flat P 20 k).map λks=>(true,ks)
 | some (.int _)=>some (false,[1])
 | _=>none
def jfg (t:TypeId):Option AV:=match P.info? t with
 | some i=>match i.zero with
   | some (.agg cs)=>(cs.toList.mapM xZ).map .agg
   | some v=>xZ v
   | none=>none
 | none=>none
def jX:Op->Option I
 | .makeMap t r=>match P.underlying t with
   | some (.map _ _)=>match r with
     | none=>some (.mkmap none)
     | some x=>(bT gl x).map λy=>.mkmap (some y)
   | _=>none
 | .lookup t x k ok=>match P.underlying t with
   | some (.map kt e)=>do
     let s <-Ag P kt
     some (.mlook s.1 s.2 (<-jfg P e) ok (<-bT gl x) (<-bT gl k))
   | _=>none
 | .mapUpdate t x k v=>match P.underlying t with
   | some (.map kt _)=>do
     let s <-Ag P kt
     some (.mset s.1 s.2 (<-bT gl x) (<-bT gl k) (<-bT gl v))
   | _=>none
 | .box t x=>(bT gl x).map .box
 | .alloc t=>(wK P t).map .alloc
 | .buildSlice t len ps=>match P.underlying t with
   | some (.slice e)=>do
     let s <-lay P e
     let z <-wK P e
     if z.length=s.1 then some (.bsl s.1 len (List.replicate len z).flatten (<-j42 gl s.1 ps.toList)) else none
   | _=>none
 | .load t x=>do
   let s <-lay P t
   (bT gl x).map (.load s.2 s.1)
 | .store t x v=>do
   let s <-lay P t
   some (.store s.1 (<-bT gl x) (<-bT gl v))
 | .slice t x lo hi mx=>match P.underlying t with
   | some (.array n e)=>if 1000000<n then none else do
     let s <-lay P e
     some (.slA n s.1 (<-bT gl x) (<-sK gl lo) (<-sK gl hi) (<-sK gl mx))
   | _=>none
 | .call { callee:=.builtin .append,args,argTypes }=>match args.toList,argTypes.toList with
   | [x,y],t::u::_=>match P.underlying t with
     | some (.slice e)=>match P.info? e,P.underlying u,wK P e with
       | some i,some (.slice _),some zs | some i,some .string,some zs=>if zs.length==i.size then do some (.app i.size i.bytes (<-bT gl x) (<-bT gl y)) else none
       | _,_,_=>none
     | _=>none
   | _,_=>none
 | .call { callee:=.builtin .copy,args,argTypes }=>match args.toList,argTypes.toList with
   | [x,y],t::_=>match P.underlying t with
     | some (.slice e)=>do
       let s <-lay P e
       some (.copy s.1 (<-bT gl x) (<-bT gl y))
     | _=>none
   | _,_=>none
 | .makeSlice t l c=>match P.underlying t with
   | some (.slice e)=>match P.info? e with
     | some i=>do some (.mksl i.size i.bytes (<-wK P e) (<-bT gl l) (<-bT gl c))
     | none=>none
   | _=>none
 | .convert s t x=>match P.underlying s,P.underlying t with
   | some (.slice e),some .string=>match P.underlying e with
     | some (.int .u8)=>(bT gl x).map .b2s
     | _=>none
   | some .string,some (.slice e)=>match P.underlying e with
     | some (.int .u8)=>(bT gl x).map .s2b
     | _=>none
   | _,_=>none
 | .range t x=>match P.underlying t with
   | some .string=>(bT gl x).map .range
   | _=>none
 | .next x true=>(bT gl x).map .next
 | .call { callee:=.value (.func f),args, .. }=>match P.funcs[f]? with
   | some fn=>match fn.body with
     | some _=>if fn.name== "runtime.NumGoroutine" then none else(opds gl args).map (.call f)
     | none=>if(Extern.findNext fn).isSome then none
       else if fn.name=jmr then(opds gl args).map (.xrow 0)
       else if fn.name=jmq then(opds gl args).map (.xrow 1) else none
   | none=>none
 | .call { callee:=.value x,args, .. }=>do some (.calld (<-bT gl x) (<-opds gl args))
 | _=>none
inductive J where
 | p (i:I)
 | h (i:I)
def uS (o:Op):Option J:=match iF P gl o with
 | some c=>some (.p c)
 | none=>(jX P gl o).map .h
end compile
end Go.Vm
namespace Go.Vm
section
variable {P:Program} {ρ:RM}
def xW {k:Blk} {v:Nat->AV} {H:Tr Blk} {nx:Nat}:Fa k v H nx=some (v nx,H.set nx k,nx+1):=by
 unfold Fa;rw[Tr.setK_eq,xD];rfl
def kJ {b:Nat} {k:Blk} {v:AV} {H:Tr Blk} {nx:Nat}:Bu b k v H nx=some (v,H.set b k,nx):=by
 unfold Bu;rw[Tr.setK_eq];rfl
def iA {l:List AV} {v:Nat->AV} {H:Tr Blk} {nx:Nat}:pN l v H nx=some (v nx,H.set nx (.cells (put l 0 .e) l.length),nx+1):=by
 unfold pN;rw[jP,xD,xW]
def Iz {H:Tr Blk} {w:World} {nx ro:Nat} {l:List AV} {cs:Array Value} {elem:TypeId} {fr:Nat×Nat} {lim:Nat} (h:HR ρ H w) (hn:ρ nx=none) (hro:ro<=nx)
  (hl:VRs ρ l (cs.toList.take l.length)) (h1:l.length<=lim) (h2:lim<=cs.size) (h3:∀i,¬(fr.1<=i/\i<fr.2)):
  HR (ρ.upd nx ⟨w.heap.size,0,lim⟩) (H.set nx (.cells (put l 0 .e) l.length)) (w.alloc (.cells cs elem fr))/\
   Step ρ H nx ro w (ρ.upd nx ⟨w.heap.size,0,lim⟩) (H.set nx (.cells (put l 0 .e) l.length)) (nx+1) (w.alloc (.cells cs elem fr)):=by
 refine h.alloc hn _ _ _ rfl ?_ hro;refine⟨cs,elem,fr,?_,by simpa using h1,h2,λi _ _=>h3 i,λi hi=>?_⟩
 ·show(w.heap.push _)[w.heap.size]?=_;simp
 ·obtain⟨a,ha⟩:∃a,l[i]?=some a:=⟨l[i],by simp[hi]⟩
  obtain⟨v,hv,hr⟩:=hl.get ha;refine⟨a,v,?_,?_,VR.mono (RM.le_upd hn) _ _ hr⟩
  ·rw[mP,aK (by omega),nN,ha]
  ·rw[rD,aK hi] at hv;simpa using hv
def zW {H:Tr Blk} {w:World} {b o n m:Nat} {c:Tr AV} {l:List AV} {lc:Loc} (h:HR ρ H w) (hb:H.get b=some (.cells c m)) (hl:ρ b=some lc) (hn:o+n<=m) (ht:take c o n=some l):
  ∃vs:List Value,VRs ρ l vs/\vs.length=n/\(∀j v,vs[j]?=some v->w.cell? ((⟨lc.blk,lc.base+o,none⟩:Addr).add j)=some v)/\(loadCells ⟨lc.blk,lc.base+o,none⟩ n).run P w=.ok vs.toArray w:=by
 obtain⟨cs,elem,fr,h1,h2,h3,h4,h5⟩:=h.blk b _ lc hb hl;obtain⟨t1,t2⟩:=Cm n c o l ht;have hsz:lc.base+m<=cs.size:=by omega
 refine⟨(cs.toList.drop (lc.base+o)).take n,?_,by simp;omega,?_,?_⟩
 ·rw[rW];refine⟨by simp;omega,λi a v ha hv=>?_⟩;have hi:i<n:=by rw[<-t1];exact(jG.1 ha).1
  obtain⟨a',v',h6,h7,h8⟩:=h5 (o+i) (by omega);rw[t2 i hi,ha] at h6;cases h6;rw[rD,aK hi,sM] at hv;have:cs[lc.base+ (o+i)]?=some v:=by rw[<-hv];simp[kG]
  rw[h7] at this;cases this;exact h8
 ·intro j v hv;rw[nZ];rw[rD] at hv;split at hv
  ·rw[sM] at hv;simp only[World.cell?,h1,tX,fX,cO];simpa[kG] using hv
  ·cases hv
 ·have hlen:((cs.toList.drop (lc.base+o)).take n).length=n:=by simp;omega
  have:=run_loadCells_list (P:=P) w ⟨lc.blk,lc.base+o,none⟩ ((cs.toList.drop (lc.base+o)).take n) (λj v hv=>by
   rw[nZ];rw[rD] at hv;split at hv
   ·rw[sM] at hv;simp only[World.cell?,h1,tX,fX,cO];simpa[kG] using hv
   ·cases hv)
  rwa[hlen] at this
def Uy (b:Nat):∀(vs:List Value) (o:Nat) (w:World) (cs:Array Value) (elem:TypeId) (fr:Nat×Nat),w.heap[b]?=some (.cells cs elem fr)->
  (w.setCells b o vs).os=w.os/\(w.setCells b o vs).tape=w.tape/\(w.setCells b o vs).output=w.output/\(w.setCells b o vs).heap.size=w.heap.size/\
    (∀x,x≠b->(w.setCells b o vs).heap[x]?=w.heap[x]?)/\
    ∃cs',(w.setCells b o vs).heap[b]?=some (.cells cs' elem fr)/\cs'.size=cs.size/\∀j,j<cs.size->cs'[j]?=if o<=j/\j<o+vs.length then vs[j-o]? else cs[j]?
 | [],o,w,cs,elem,fr,h=>⟨rfl,rfl,rfl,rfl,λ_ _=>rfl,cs,h,rfl,λj _=>by rw[aD (by simp only[iT];omega)]⟩
 | v::vs,o,w,cs,elem,fr,h=>by
   have h0:(w.setCell ⟨b,o,none⟩ v).heap[b]?=some (.cells (cs.setIfInBounds o v) elem fr):=by
    simp only[World.setCell,sQ,bR,h];simp
   obtain⟨a1,a2,a3,a4,a5,cs',a6,a7,a8⟩:=Uy b vs (o+1) (w.setCell ⟨b,o,none⟩ v) _ elem fr h0;refine⟨a1,a2,a3,by rw[World.setCells,a4];simp[World.setCell],λx hx=>?_,cs',a6,by simpa using a7,λj hj=>?_⟩
   ·rw[World.setCells,a5 x hx];exact Go.RowKit.Below.heap_setCell w ⟨b,o,none⟩ v x hx
   ·rw[a8 j (by simpa using hj)];simp only[dG,vN];by_cases h1:j=o
    ·subst h1;rw[aD (by omega),aK rfl,aK hj,aK (by omega),Tv];rfl
    ·by_cases h2:o<=j/\j<o+ (vs.length+1)
     ·rw[aK (by omega),aK h2,show j-o=j-(o+1)+1 by omega];rfl
     ·rw[aD (by omega),aD (by omega),aD h2]
def Yv {H:Tr Blk} {w:World} {nx ro b o m:Nat} {c:Tr AV} {l:List AV} {vs:List Value} {lc:Loc} (h:HR ρ H w) (hb:H.get b=some (.cells c m)) (hl:ρ b=some lc) (hro:rx ro<=b)
  (hv:VRs ρ l vs) (hn:o+l.length<=m) (h1:l.all hZ=true):
  ∃w',(storeCells ⟨lc.blk,lc.base+o,none⟩ vs).run P w=.ok () w'/\HR ρ (H.set b (.cells (put l o c) m)) w'/\Step ρ H nx ro w ρ (H.set b (.cells (put l o c) m)) nx w':=by
 obtain⟨cs,elem,fr,k1,k2,k3,k4,k5⟩:=h.blk b _ lc hb hl;have hlen:=hv.length;obtain⟨a1,a2,a3,a4,a5,cs',a6,a7,a8⟩:=Uy lc.blk vs (lc.base+o) w cs elem fr k1;refine⟨w.setCells lc.blk (lc.base+o) vs,?_,?_⟩
 ·have:=run_storeCells_cells (P:=P) lc.blk (lc.base+o) vs 0 w (λj hj=>?_) (λj hj=>?_) (λv hv'=>?_)
  ·simpa using this
  ·simp only[World.cell?,k1,tX,fX,cO,iV];rw[mA (by omega)];rfl
  ·have:=k4 (lc.base+o+j) (by omega) (λ_=>by omega);simp only[World.frozen?,k1,iV];simp only[vM,eH];omega
  ·obtain⟨j,hj⟩:=Li hv';have hjl:j<l.length:=by rw[hlen];exact(jG.1 hj).1
   obtain⟨v2,h2,h3⟩:=hv.get (i:=j) (a:=l[j]) (by simp[hjl]);rw[hj] at h2;cases h2;rw[h3.one];exact bS.1 h1 _ (dU hjl)
 ·refine h.write _ lc (by rw[hb];rfl) hl hro a1 a2 a3 a4 a5 ?_;refine⟨cs',elem,fr,a6,k2,by omega,k4,λi hi=>?_⟩;rw[mP,a8 _ (by omega)];by_cases hc:o<=i/\i<o+l.length
  ·rw[aK hc,aK (by omega)];obtain⟨v2,h2,h3⟩:=hv.get (i:=i-o) (a:=l[i-o]) (by rw[dK]);refine⟨l[i-o],v2,by rw[dK],?_,h3⟩;rw[show lc.base+i-(lc.base+o)=i-o by omega];exact h2
  ·rw[aD hc,aD (by omega)];exact k5 i hi
end
end Go.Vm
namespace Go.Vm
section
variable {P:Program} {ρ:RM}
def jdq {a:AV} {v:Value} {n:Nat} (w:World) (h:jJ a=some n) (hv:VR ρ a v):(Builtin.lenOf v).run P w=.ok n w:=by
 unfold jJ at h;split at h<;>try (cases h;done)
 all_goals cases h
 all_goals simp only[VR] at hv
 ·subst hv;rfl
 ·obtain⟨bs,rfl,rfl⟩:=hv;simp[Builtin.lenOf]
 ·obtain⟨l,c,off,_,rfl,_⟩:=hv;rfl
def Mw {z n:Nat} {H:Tr Blk} {a:AV} {v:Value} {l:List AV} {w:World} (h:iO z H n a=some l) (hv:VR ρ a v) (hr:HR ρ H w):
  ∃vs:List Value,VRs ρ l vs/\vs.length=n*z/\∀d,(Builtin.firstCells z n v).run P { w with drawn:=d }=.ok vs.toArray { w with drawn:=d }:=by
 unfold iO at h;split at h
 ·simp only[VR] at hv;subst hv;rw[aL] at h;by_cases hn:n=0
  ·simp only[hn,bA,aB,aG] at h;subst h;exact⟨[],rfl,by simp[hn],λd=>rfl⟩
  ·simp[hn] at h
 ·rename_i s;simp only[VR] at hv;obtain⟨bs,rfl,rfl⟩:=hv;rw[aL,aP] at h;by_cases hn:z=1/\n<=bs.size
  ·have hn2:n<=(bs.data.toList.map UInt8.toNat).length:=by simpa using hn.2
   simp only[hn.1,hn2,bA,kH,aB,aG] at h;subst h;refine⟨(bs.data.toList.take n).map λb=>.int .u8 (b.toNat:Int),?_,?_,λd=>?_⟩
   ·rw[rW];refine⟨by simp,λi a v ha hv=>?_⟩;rw[jH] at ha hv;rw[<-Lp,jH] at ha;cases hq:(bs.data.toList.take n)[i]? with
    | none=>rw[hq] at hv;cases hv
    | some b=>
      rw[hq] at ha hv;simp only[eX,aG] at ha hv;subst ha;subst hv;simp[VR]
   ·have:=hn.2;simp[hn.1];omega
   ·simp only[Builtin.firstCells,dI]
    congr 1
    apply uA;simp[Lp]
  ·have:(decide (z=1)&&decide (n<=(bs.data.toList.map UInt8.toNat).length))=false:=by
    rw[vM];simp;omega
   simp only[this,aF,reduceCtorEq] at h
 ·rename_i b o len cap z';simp only[VR] at hv;obtain⟨lc,c,off,k1,rfl,k3,k4,k5,k6⟩:=hv;rw[aL,aP] at h;by_cases hn:z'=z/\n<=len
  ·simp only[hn.1,hn.2,bA,kH,aB] at h;split at h
   ·rename_i ct m hb;rw[aP] at h;by_cases hm:o+n*z<=m
    ·simp only[hm,bA,aB] at h;obtain⟨vs,r1,r2,r3,r4⟩:=zW (P:=P) hr hb k1 hm h;refine⟨vs,r1,r2,λd=>?_⟩;simp only[Builtin.firstCells];by_cases hn0:n=0
     ·subst hn0;have:vs=[]:=yF.1 (by simpa using r2);subst this;simp[loadCells,loadCellsFrom]
     ·have:off=lc.base+o:=by omega
      subst this;have:=run_loadCells_list (P:=P) { w with drawn:=d } ⟨lc.blk,lc.base+o,none⟩ vs (λj v hv=>r3 j v hv);rwa[r2] at this
    ·simp[hm] at h
   ·cases h
  ·have:(decide (z'=z)&&decide (n<=len))=false:=by
    rw[vM];simp;omega
   simp[this] at h
 ·cases h
def jj7 (newLen:Nat):∀(r c:Nat),c<=2*newLen+400->Builtin.growBy newLen r c<=2*newLen+400
 | 0,c,h=>h
 | r+1,c,h=>by
   simp only[Builtin.growBy];split
   ·exact h
   ·exact jj7 newLen r _ (by omega)
def j09 {newLen oldCap:Nat} (h:oldCap<newLen):Builtin.nextslicecap newLen oldCap<=2*newLen+400:=by
 unfold Builtin.nextslicecap;split
 ·omega
 ·split
  ·omega
  ·exact jj7 _ _ _ (by omega)
def kaw (zero:Array Value) (n:Nat):(Builtin.zeroCells zero n).size=n*zero.size:=by simp[Builtin.zeroCells]
def Ends (ρ:RM) (H:Tr Blk) (nx ro:Nat) (w:World) (v:AV) (H':Tr Blk) (nx':Nat) (v':Value) (w':World):Prop:=
 ∃ρ',Step ρ H nx ro w ρ' H' nx' w'/\HR ρ' H' w'/\VR ρ' v v'
def jvc {t u e:TypeId} {i:TypeInfo} {zv:Value} {ty:TypeId} {z ro k len:Nat} {H H':Tr Blk} {nx nx':Nat} {x y r:AV} {new:List AV} {X Y:Value} {w:World}
  (hu:P.underlying t=some (.slice e)) (hi:P.info? e=some i) (hz:i.zero=some zv) (hzs:zv.cells.size=i.size) (huu:(∃e2,P.underlying u=some (.slice e2))\/P.underlying u=some .string)
  (hsz:z=i.size) (hz0:0<z) (hby:i.bytes<=1000) (hlen:jJ x=some len) (hlim:len+k<=10000000) (hk:jJ y=some k)
  (hs:iO z H k y=some new) (h1:new.all hZ=true) (h:jM z ro H nx x k new=some (r,H',nx')) (hx:VR ρ x X) (hy:VR ρ y Y) (hr:HR ρ H w) (hn:Free ρ nx nx') (hro:ro<=nx):
  ∃v' w',(Builtin.append_ #[t,u] ty #[X,Y]).run P w=.ok v' w'/\Ends ρ H nx ro w r H' nx' v' w':=by
 subst hsz;obtain⟨vs,v1,v2,v3⟩:=Mw (P:=P) hs hy hr;have hlenY:=jdq (P:=P) w hk hy;have hnl:=v1.length
 have hzer:∀w:World,((do match (some u:Option TypeId) with
  | some xType=>do pure ((<-underlying xType) matches .int _)
  | none=>pure false:Sem Bool)).run P w=.ok false w:=by
  intro w;rcases huu with⟨e2,huu⟩ | huu<;>simp[run_underlying huu]
 have v3':(Builtin.firstCells i.size k Y).run P w=.ok vs.toArray w:=v3 w.drawn
 have grow:∀(s base sLen sCap) (old:List AV) (olds:List Value),X=.slice base sLen sCap->s=X->sLen=len->sCap<len+k->VRs ρ old olds->olds.length=sLen*i.size->
   (∀d,(Builtin.firstCells i.size sLen X).run P { w with drawn:=d }=.ok olds.toArray { w with drawn:=d })->
   ∃(newCap:Nat) (cs:Array Value) (d:Nat),(len+k<=newCap/\newCap<9223372036854775808)/\cs.size=newCap*i.size/\VRs ρ (old++new) (cs.toList.take (old++new).length)/\
    (Builtin.append_ #[t,u] ty #[X,Y]).run P w=.ok (.slice (some ⟨w.heap.size,0,none⟩) (len+k) newCap) (World.alloc { w with drawn:=d } (.cells cs e)):=by
  rintro s base sLen sCap old olds rfl _ rfl hcap ho hol hf;have hol':=ho.length;refine⟨(Question.appendCap (sLen+k) sCap e).cut (w.tape w.drawn (.appendCap (sLen+k) sCap e)),(olds++vs++(Builtin.zeroCells zv.cells ((Question.appendCap (sLen+k) sCap e).cut (w.tape w.drawn (.appendCap (sLen+k) sCap e))-(sLen+k))).toList).toArray,w.drawn+1,?_,?_,?_,?_⟩
  ·have:=Nat.mod_lt (w.tape w.drawn (.appendCap (sLen+k) sCap e)) (show 0<2^63-(sLen+k) by omega);simp only[Question.cut];omega
  ·have h9:sLen+k<=(Question.appendCap (sLen+k) sCap e).cut (w.tape w.drawn (.appendCap (sLen+k) sCap e)):=by simp only[Question.cut];omega
   generalize (Question.appendCap (sLen+k) sCap e).cut (w.tape w.drawn (.appendCap (sLen+k) sCap e))=N at *;simp only[Tm,dS,gS,kaw,hzs,hol,v2,<-fU]
   congr 1
   omega
  ·have:(old++new).length=(olds++vs).length:=(ho.append v1).length;rw[this];rw[List.take_left' (by simp)];exact ho.append v1
  ·have hneed:¬(sLen+k<=sCap):=by omega
   have hnc:¬(Builtin.nextslicecap (sLen+k) sCap*i.bytes > 2^48):=by
    have h5:=j09 hcap;have h6:Builtin.nextslicecap (sLen+k) sCap*i.bytes<=(2* (sLen+k)+400)*1000:=pU h5 hby;omega
   have hmx:¬(((sLen+k:Nat):Int) > IntKind.i64.max):=by
    simp[IntKind.max,IntKind.signed,IntKind.bits];omega
   have hf':=hf (w.drawn+1);have v3'':=v3 (w.drawn+1);rcases huu with⟨e2,huu⟩ | huu
   all_goals
    simp only[Builtin.append_,Fv,pR,vO,cQ,run_underlying hu,run_underlying huu,cJ,iM hi,dI,fX,cO,hlenY,hneed,Gc,Uw hi,hnc,hmx,false_and,run_choose,Question.forced,run_askRoom,hf',yM,bR,v3'',yR hi hz,newRow,run_newObj]
    congr 4
    apply uA;simp
 have room:∀(base sLen sCap) (w':World),X=.slice base sLen sCap->sLen=len->len+k<=sCap->
   (match base with | some a=>(storeCells (a.add (len*i.size)) vs).run P w=.ok () w' | none=>w'=w)->
   (Builtin.append_ #[t,u] ty #[X,Y]).run P w=.ok (.slice base (len+k) sCap) w':=by
  rintro base sLen sCap w' rfl rfl hcap hst;rcases huu with⟨e2,huu⟩ | huu
  all_goals
   simp only[Builtin.append_,Fv,pR,vO,cQ,run_underlying hu,run_underlying huu,cJ,iM hi,dI,fX,cO,hlenY,hcap,Gc,bR,yM,v3'];cases base with
   | none=>simp only at hst;subst hst;simp
   | some a=>simp only at hst;simp[hst]
 have grown:∀(base sLen sCap) (old:List AV) (olds:List Value),X=.slice base sLen sCap->sLen=len->sCap<len+k->VRs ρ old olds->olds.length=sLen*i.size->
   (∀d,(Builtin.firstCells i.size sLen X).run P { w with drawn:=d }=.ok olds.toArray { w with drawn:=d })->ρ nx=none->
   ∀(H2:Tr Blk),(∀b,(H2.get b).isSome->H2.get b=H.get b)->(∀b,b<ro->b<nx->H2.get b=H.get b)->
   ∃v' w',(Builtin.append_ #[t,u] ty #[X,Y]).run P w=.ok v' w'/\
    Ends ρ H nx ro w (.sl nx 0 (len+k) none i.size) (H2.set nx (.cells (put (old++new) 0 .e) (old++new).length)) (nx+1) v' w':=by
  intro base sLen sCap old olds e1 e2 hcap ho hol hf hnn H2 hH2 hH2o;obtain⟨N,cs,d,g1,g2,g3,g4⟩:=grow X base sLen sCap old olds e1 rfl e2 hcap ho hol hf;refine⟨_,_,g4,?_⟩;have hr2:HR ρ H2 { w with drawn:=d }:=by
   refine⟨λb k l hb hl=>?_,λb b' l l' hb hb'=>?_⟩
   ·exact(hr.drew d).blk b k l (by rw[<-hH2 b (by rw[hb];rfl)];exact hb) hl
   ·exact hr.inj b b' l l' (by rw[<-hH2 b hb];exact hb) (by rw[<-hH2 b' hb'];exact hb')
  have st:Step ρ H nx ro w ρ H2 nx { w with drawn:=d }:=
   ⟨rfl,rfl,rfl,aU _,aU _,λ_ _=>rfl,λ_ _ _=>rfl,λb l h h'=>by omega,λb hb=>.inr (by rw[<-hH2 b hb];exact hb),hH2o⟩
  have hll:(old++new).length=(len+k)*i.size:=by
   rw[(ho.append v1).length,dS,hol,v2,e2,fU]
  have hle:(len+k)*i.size<=N*i.size:=iB _ g1.1;have:=Iz (elem:=e) (fr:=(0,0)) (lim:=N*i.size) hr2 hnn hro g3 (by omega) (by omega) (λj=>by omega);refine⟨_,st.trans this.2,this.1,?_⟩;simp only[VR];exact⟨⟨w.heap.size,0,N*i.size⟩,N,0,by simp[RM.upd],rfl,g1.1,hz0,.inl rfl,.inr ⟨trivial,by simp,g1.2⟩⟩
 cases x
 case nils=>
  simp only[VR] at hx;simp only[jJ,aG] at hlen;subst hlen;simp only[jM,aL] at h;by_cases hk0:k=0
  ·simp only[hk0,bA,aB,aG,aM] at h;obtain⟨rfl,rfl,rfl⟩:=h;refine⟨_,w,room none 0 0 w hx rfl (by omega) rfl,ρ,Step.refl _ _ _ _ _,hr,?_⟩;simp[VR,hk0]
  ·simp only[hk0,bM,aF,iA,aG,aM] at h;obtain⟨rfl,rfl,rfl⟩:=h;have:=grown none 0 0 [] [] hx rfl (by omega) rfl (by simp) (λd=>by rw[hx];rfl) (hn nx (aU _) (by omega)) H (λ_ _=>rfl) (λ_ _ _=>rfl);simpa using this
 case sl b o sl0 cap z'=>
  have hx0:=hx;simp only[VR] at hx;obtain⟨lc,c,off,k1,rfl,k3,k4,k5,k6⟩:=hx;simp only[jJ,aG] at hlen;subst hlen;simp only[jM,aL] at h;by_cases hzz:z'=i.size
  ·subst hzz;simp only[bA,fC,aF] at h;by_cases hk0:k=0
   ·simp only[hk0,bA,aB,aG,aM] at h;obtain⟨rfl,rfl,rfl⟩:=h;have hvs:vs=[]:=yF.1 (by rw[v2,hk0];simp);refine⟨_,w,room _ sl0 c w rfl rfl (by omega) (by simp[hvs,storeCells]),ρ,Step.refl _ _ _ _ _,hr,?_⟩;simpa[hk0] using hx0
   ·simp only[hk0,bM,aF] at h;split at h
    ·rename_i ct m hb;have hlm:=hr.blk b _ lc hb k1;have hnm:lc.base+m<=lc.lim:=by obtain⟨_,_,_,_,q,_⟩:=hlm;exact q
     have hlenl:new.length=k*i.size:=hnl.trans v2;have hadd:sl0*i.size+k*i.size=(sl0+k)*i.size:=(fU _ _ _).symm
     have inplace:o+ (sl0+k)*i.size<=m->sl0+k<=c->rx ro<=b->∃v' w',(Builtin.append_ #[t,u] ty #[.slice (some ⟨lc.blk,off,none⟩) sl0 c,Y]).run P w=.ok v' w'/\
       Ends ρ H nx ro w (.sl b o (sl0+k) cap i.size) (H.set b (.cells (put new (o+sl0*i.size) ct) m)) nx v' w':=by
      intro q1 q2 q3;have hoff:off=lc.base+o:=by omega
      subst hoff;obtain⟨w',s1,s2,s3⟩:=Yv (P:=P) (nx:=nx) (o:=o+sl0*i.size) hr hb k1 q3 v1 (by omega) h1;refine⟨_,w',room _ sl0 c w' rfl rfl q2 ?_,ρ,s3,s2,?_⟩
      ·simp only[nZ];rw[kG];exact s1
      ·simp only[VR];exact⟨lc,c,_,k1,rfl,q2,k4,.inl rfl,k6⟩
     cases cap with
     | some cp=>
       have hcp:cp=c:=by
        rcases k6 with⟨q,_⟩ | ⟨q,_⟩
        ·exact kF q
        ·cases q
       subst hcp;simp only[aP] at h;by_cases hfit:sl0+k<=cp
       ·simp only[hfit,bA,aB] at h;by_cases hc2:rx ro<=b/\o+ (sl0+k)*i.size<=m
        ·simp only[hc2.1,hc2.2,bA,kH,aB,jP,kJ,aG,aM] at h;obtain⟨rfl,rfl,rfl⟩:=h;exact inplace hc2.2 hfit hc2.1
        ·have:(decide (rx ro<=b)&&decide (o+ (sl0+k)*i.size<=m))=false:=by
          rw[vM];simp;omega
         simp only[this,aF,reduceCtorEq] at h
       ·simp only[hfit,bM,aF] at h;split at h
        ·cases h
        ·rename_i old hold;simp only[iA,aG,aM] at h;obtain⟨rfl,rfl,rfl⟩:=h;obtain⟨olds,o1,o2,o3⟩:=Mw (P:=P) hold hx0 hr;exact grown _ sl0 cp old olds rfl rfl (by omega) o1 o2 o3 (hn nx (aU _) (by omega)) H (λ_ _=>rfl) (λ_ _ _=>rfl)
     | none=>
       have hcl2:lc.base+o+c*i.size=lc.lim/\c<9223372036854775808:=by
        rcases k6 with⟨q,_⟩ | ⟨_,q⟩
        ·cases q
        ·exact q
       have hcl:=hcl2.1;simp only[aP] at h;by_cases hfit:o+ (sl0+k)*i.size<=m
       ·simp only[hfit,bA,aB] at h;by_cases hc2:rx ro<=b
        ·simp only[hc2,bA,kH,aB,jP,kJ,aG,aM] at h;obtain⟨rfl,rfl,rfl⟩:=h;refine inplace hfit ?_ hc2;have:(sl0+k)*i.size<=c*i.size:=by omega
         exact Nat.le_of_mul_le_mul_right this hz0
        ·simp[hc2] at h
       ·simp only[hfit,bM,aF] at h;split at h
        ·cases h
        ·rename_i old hold;by_cases hc2:rx ro<=b
         ·simp only[hc2,bA,aB,Tr.delK_eq,iA,aG,aM] at h;obtain⟨rfl,rfl,rfl⟩:=h;obtain⟨hrb,hRO⟩:=jC hc2;have inj1:∀b' l',(H.get b').isSome->ρ b'=some l'->l'.blk=lc.blk->b'=b:=λb' l' h1 h2 h3=>by
           rcases hr.inj b' b l' lc h1 (by rw[hb];rfl) h2 k1 h3 with h4 | h4
           ·exact h4
           ·omega
          obtain⟨olds,o1,o2,o3⟩:=Mw (P:=P) hold hx0 hr;have hnn:=hn nx (aU _) (by omega);have hdel:∀b',((H.del b).get b').isSome->(H.del b).get b'=H.get b':=λb' hb'=>by
           rw[Tr.get_del] at hb' ⊢;split at hb'
           ·cases hb'
           ·rename_i hne;rw[aD hne]
          have hdelo:∀b',b'<ro->b'<nx->(H.del b).get b'=H.get b':=λb' h1 _=>by
           rw[Tr.get_del,aD (by omega)]
          by_cases hcap:sl0+k<=c
          ·
           have hoff:off=lc.base+o:=by omega
           subst hoff;obtain⟨cs,elem,fr,q1,q2,q3,q4,q5⟩:=hlm;have hmul:(sl0+k)*i.size<=c*i.size:=iB _ hcap;obtain⟨a1,a2,a3,a4,a5,cs',a6,a7,a8⟩:=Uy lc.blk vs (lc.base+o+sl0*i.size) w cs elem fr q1;have hst:(storeCells ⟨lc.blk,lc.base+o+sl0*i.size,none⟩ vs).run P w=.ok () (w.setCells lc.blk (lc.base+o+sl0*i.size) vs):=by
            have:=run_storeCells_cells (P:=P) lc.blk (lc.base+o+sl0*i.size) vs 0 w (λj hj=>?_) (λj hj=>?_) (λv hv'=>?_)
            ·simpa using this
            ·simp only[World.cell?,q1,tX,fX,cO,iV];rw[mA (by omega)];rfl
            ·have:=q4 (lc.base+o+sl0*i.size+j) (by omega) (λ_=>by omega);simp only[World.frozen?,q1,iV];simp only[vM,eH];omega
            ·obtain⟨j,hj⟩:=Li hv';have hjl:j<new.length:=by rw[hnl];exact(jG.1 hj).1
             obtain⟨v2',h2,h3⟩:=v1.get (i:=j) (a:=new[j]) (by simp[hjl]);rw[hj] at h2;cases h2;rw[h3.one];exact bS.1 h1 _ (dU hjl)
           have hrun:=room (some ⟨lc.blk,lc.base+o,none⟩) sl0 c _ rfl rfl hcap (by simp only[nZ];exact hst);refine⟨_,_,hrun,ρ.upd nx ⟨lc.blk,lc.base+o,lc.lim⟩,?_,?_,?_⟩
           ·refine⟨a1,a2,a3,by omega,by omega,λb' hb'=>?_,λx hx hk'=>?_,λb' l' g1 g2 g3=>?_,λb' hb'=>?_,λb' g1 g2=>?_⟩
            ·unfold RM.upd;rw[aD (by omega)]
            ·refine a5 x λe'=>?_
             have:=hk' b lc k1 e'.symm (by rw[hb];rfl);omega
            ·have:b'=nx:=by omega
             subst this;simp only[RM.upd,bR] at g3;cases g3;exact .inr ⟨b,lc,hrb,by rw[hb];rfl,k1,rfl⟩
            ·rw[Tr.get_set] at hb';by_cases e':b'=nx
             ·exact .inl (by omega)
             ·rw[aD e'] at hb';exact .inr (by rw[<-hdel b' hb'];exact hb')
            ·rw[Tr.get_set,aD (by omega)];exact hdelo b' g1 g2
           ·have hle:=RM.le_upd (l:=⟨lc.blk,lc.base+o,lc.lim⟩) hnn;have hsrc:take ct o (sl0*i.size)=some old/\o+sl0*i.size<=m:=by
             simp only[iO,aL,aP,bA,aU,kH,aB,hb] at hold;by_cases hm2:o+sl0*i.size<=m
             ·simp only[hm2,bA,aB] at hold;exact⟨hold,hm2⟩
             ·simp[hm2] at hold
            obtain⟨t1,t2⟩:=Cm _ _ _ _ hsrc.1;have hll:(old++new).length=(sl0+k)*i.size:=by
             rw[dS,t1,hlenl,hadd]
            refine⟨λb' k' l' g1 g2=>?_,λb1 b2 l1 l2 g1 g2 g3 g4 g5=>?_⟩
            ·rw[Tr.get_set] at g1;by_cases e':b'=nx
             ·subst e';simp only[RM.upd,bR] at g1 g2;cases g1;cases g2;refine⟨cs',elem,fr,a6,by simp only[hll];omega,by simp only;omega,λj j1 j2=>q4 j (by simp only at j1;omega) (λhf=>by
               have h64:=(jC (show rx ro<=b by assumption)).2;rw[aP,eH] at hf;omega),λj hj=>?_⟩
              rw[hll] at hj;simp only;rw[mP,aK (by rw[hll];omega),nN,a8 _ (by omega)];by_cases hjo:j<sl0*i.size
              ·rw[aD (by omega)];obtain⟨a',v',h6,h7,h8⟩:=q5 (o+j) (by omega);rw[t2 j hjo] at h6;refine⟨a',v',?_,by rw[<-h7,kG],VR.mono hle _ _ h8⟩;rw[Ld (by omega)];exact h6
              ·rw[aK (by omega)];have hjn:j-sl0*i.size<new.length:=by omega
               obtain⟨v2',h2,h3⟩:=v1.get (i:=j-sl0*i.size) (a:=new[j-sl0*i.size]) (by simp[hjn]);refine⟨_,v2',?_,?_,VR.mono hle _ _ h3⟩
               ·rw[Bc (by omega),t1,dK hjn]
               ·rw[<-h2]
                congr 1
                omega
             ·rw[aD e',Tr.get_del] at g1;simp only[RM.upd,aD e'] at g2;by_cases e2:b'=b
              ·rw[aK e2] at g1;cases g1
              ·rw[aD e2] at g1;refine(hr.blk b' k' l' g1 g2).mono hle (a5 _ λe3=>e2 ?_);exact inj1 b' l' (by rw[g1];rfl) g2 e3
            ·rw[Tr.get_set] at g1 g2;have noother:∀b' l',b'≠nx->((H.del b).get b').isSome->ρ b'=some l'->l'.blk≠lc.blk:=λb' l' h1 h2 h3 h4=>by
              rw[Tr.get_del] at h2;by_cases e2:b'=b
              ·rw[aK e2] at h2;cases h2
              ·rw[aD e2] at h2;exact e2 (inj1 b' l' h2 h3 h4)
             by_cases e1:b1=nx
             ·by_cases e2:b2=nx
              ·exact .inl (by rw[e1,e2])
              ·rw[aD e2] at g2;simp only[RM.upd,e1,bR,aD e2] at g3 g4;cases g3;exact absurd g5.symm (noother b2 l2 e2 g2 g4)
             ·rw[aD e1] at g1;simp only[RM.upd,aD e1] at g3;by_cases e2:b2=nx
              ·simp only[RM.upd,e2,bR] at g4;cases g4;exact absurd g5 (noother b1 l1 e1 g1 g3)
              ·rw[aD e2] at g2;simp only[RM.upd,aD e2] at g4;have h1:(H.get b1).isSome:=by rw[<-hdel b1 g1];exact g1
               have h2:(H.get b2).isSome:=by rw[<-hdel b2 g2];exact g2
               exact hr.inj b1 b2 l1 l2 h1 h2 g3 g4 g5
           ·simp only[VR];exact⟨⟨lc.blk,lc.base+o,lc.lim⟩,c,_,by simp[RM.upd],rfl,hcap,hz0,.inl rfl,.inr ⟨trivial,hcl,hcl2.2⟩⟩
          ·exact grown _ sl0 c old olds rfl rfl (by omega) o1 o2 o3 hnn (H.del b) hdel hdelo
         ·simp[hc2] at h
    ·cases h
  ·simp[hzz] at h
 all_goals (simp[jM] at h)
end
end Go.Vm
namespace Go.Vm
section
variable {P:Program} {ρ:RM}
def jch {α:Type} {c:Bool} {x:Option α} {y:α} (h:(bif c then x else none)=some y):c=true/\x=some y:=by
 cases c
 ·cases h
 ·exact⟨rfl,h⟩
def jxj (em:Bool):∀(d:Nat) (t:TypeId) (D:Nat) (i:TypeInfo) (dd:TypeDesc) (ks:List Nat) (vs:List Value) (w:World),flat P d t=some ks->d<=D->
  P.info? t=some i->P.underlying t=some dd->vs.length=i.size->(Instr.checkKey em D t (mW dd vs)).run P w=.ok () w:=by
 intro d;induction d with
 | zero=>intro t D i dd ks vs w h;simp[flat] at h
 | succ d ih=>
   intro t D i dd ks vs w h hD hi hu hl;obtain⟨D,rfl⟩:∃D',D=D'+1:=⟨D-1,by omega⟩
   unfold flat at h;split at h
   ·rename_i j h1 h2;rw[hu] at h2;cases h2;simp[Instr.checkKey,run_underlying hu]
   ·rename_i j k h1 h2;rw[hu] at h2;cases h2;simp[Instr.checkKey,run_underlying hu]
   ·rename_i j h1 h2;rw[hu] at h2;cases h2;simp[Instr.checkKey,run_underlying hu]
   ·rename_i j fs h1 h2;rw[hi] at h1;cases h1;rw[hu] at h2;cases h2;split at h
    ·cases h
    have mono:∀(fl:List Field) (o:Nat) (m:List Nat),mO P (flat P d) fl o i.size=some m->o<=i.size:=by
     intro fl;induction fl with
     | nil=>intro o m ho;simp only[mO] at ho;split at ho<;>simp_all
     | cons f fl ih3=>
       intro o m ho;simp only[mO] at ho;split at ho
       ·split at ho
        ·rename_i h5 h6;have:=ih3 _ _ h6;omega
        ·cases ho
       ·cases ho
    simp only[mW,lI,bR];rw[Instr.checkKey];simp only[cQ,run_underlying hu,cJ];rw[<-Array.forIn_toList];generalize hfs:fs.toList=fl at h;clear hfs
    have key:∀(fl:List Field) (off:Nat) (m:List Nat),mO P (flat P d) fl off i.size=some m->
      (forIn fl PUnit.unit fun(f:Field) (_:PUnit)=>(do
        if f.name≠ "_" then do
         Instr.checkKey em D f.type (<-part f.type vs.toArray f.offset)
         pure (ForInStep.yield PUnit.unit)
        else pure (ForInStep.yield PUnit.unit):Sem (ForInStep PUnit))).run P w=.ok PUnit.unit w:=by
     intro fl;induction fl with
     | nil=>intro off m hg;simp
     | cons f fl ih2=>
       intro off m hg;simp only[mO] at hg;split at hg
       ·rename_i hno;simp only[aN,bne_iff_ne,beq_iff_eq] at hno;obtain⟨hn,hoff⟩:=hno;split at hg
        ·rename_i l m' hfl hgo;obtain⟨j,jd,k1,k2,k3⟩:=Dt hfl;have hsz:P.cellsOf f.type=j.size:=by simp[Program.cellsOf,k1]
         rw[hsz] at hgo;have hle:off+j.size<=i.size:=mono _ _ _ hgo;have e1:=Fj (P:=P) w k1 k2 vs.toArray f.offset (by simp;omega) k3;rw[hoff] at e1;have e2:=ih f.type D j jd l ((vs.drop off).take j.size) w hfl (by omega) k1 k2 (by simp;omega);simp only[List.forIn_cons,cQ,hn,ne_eq,sS,bR,hoff,e1,cJ,e2,dI];exact ih2 (off+j.size) _ hgo
        ·cases hg
       ·cases hg
    have:=key fl 0 ks h;simp at this ⊢;rw[this];rfl
   ·rename_i j n e h1 h2;rw[hi] at h1;cases h1;rw[hu] at h2;cases h2;split at h
    ·rename_i l hfl;split at h
     ·rename_i hsz;simp only[aN,beq_iff_eq] at hsz;obtain⟨hsz1,hll⟩:=hsz;obtain⟨j,jd,k1,k2,k3⟩:=Dt hfl;have hsz:P.cellsOf e=j.size:=by simp[Program.cellsOf,k1]
      rw[hsz] at hsz1;simp only[mW,lI,bR];rw[Instr.checkKey];simp only[cQ,run_underlying hu,cJ];simp only[Std.Legacy.Range.forIn_eq_forIn_range',Std.Legacy.Range.size,nN,Nat.add_one_sub_one,Nat.div_one]
      have key:∀(m k:Nat),k+m<=n->
        (forIn (List.range' k m) PUnit.unit fun(a:Nat) (_:PUnit)=>(do
          Instr.checkKey em D e (<-part e vs.toArray (a* (<-sizeOf e)))
          pure (ForInStep.yield PUnit.unit):Sem (ForInStep PUnit))).run P w=.ok PUnit.unit w:=by
       intro m;induction m with
       | zero=>intro k hk;simp
       | succ m ih2=>
         intro k hk;have hle:k*j.size+j.size<=i.size:=by
          rw[hsz1,<-Lr];exact iB _ (by omega)
         have e1:=Fj (P:=P) w k1 k2 vs.toArray (k*j.size) (by simp;omega) k3;have e2:=ih e D j jd l ((vs.drop (k*j.size)).take j.size) w hfl (by omega) k1 k2 (by simp;omega);rw[qgr];simp only[List.forIn_cons,cQ,iM k1,cJ,e1,e2,dI];exact ih2 (k+1) (by omega)
      have:=key n 0 (by omega);simp at this ⊢;rw[this];rfl
     ·cases h
    ·cases h
   ·cases h
def jxi {k:Nat} {a b:AV} {v u:Value} (h:kP k a b=some true) (ha:VR ρ a v) (hb:VR ρ b u):v=u/\∀n,Instr.sameBits n v v=true:=by
 unfold kP at h;split at h<;>try (cases h;done)
 ·rename_i k1 x k2 y;simp only[VR] at ha hb;subst ha;subst hb;cases hk:jO k1 k2<;>simp only[hk,aB,aF] at h
  ·cases h
  ·have:=pH.1 hk;subst this;have:x=y:=by simpa[xG] using h
   subst this;exact⟨rfl,λn=>by cases n<;>simp[Instr.sameBits]⟩
 ·rename_i p q;simp only[VR] at ha hb;subst ha;subst hb;obtain rfl:p=q:=by simpa using h
  exact⟨rfl,λn=>by cases n<;>simp[Instr.sameBits]⟩
 ·simp only[VR] at ha hb;obtain⟨x,rfl,rfl⟩:=ha;obtain⟨y,rfl,rfl⟩:=hb;rw[jbg] at h;have:x=y:=by
   simp only[aG,beq_iff_eq] at h;first
   | exact h
   | exact ByteArray.ext (uA h)
  subst this;exact⟨rfl,λn=>by cases n<;>simp[Instr.sameBits,Go.MapKept.bytes_beq]⟩
def jig:∀ {ks:List Nat} {la lb:List AV} {vs us:List Value},fJ ks la lb=some true->VRs ρ la vs->VRs ρ lb us->vs=us/\∀n,∀v∈vs,Instr.sameBits n v v=true
 | [],[],[],vs,us,_,ha,hb=>by
   simp only[VRs] at ha hb;subst ha;subst hb;exact⟨rfl,λn v hv=>by cases hv⟩
 | k::ks,a::la,b::lb,vs,us,h,ha,hb=>by
   simp only[VRs] at ha hb;obtain⟨v,vs',rfl,h1,h2⟩:=ha;obtain⟨u,us',rfl,h3,h4⟩:=hb;simp only[fJ] at h;split at h
   ·rename_i hc;obtain⟨e1,e2⟩:=jxi hc h1 h3;obtain⟨e3,e4⟩:=jig h h2 h4;subst e1;subst e3;refine⟨rfl,λn x hx=>?_⟩;rcases bL.1 hx with rfl | hx
    ·exact e2 n
    ·exact e4 n x hx
   ·cases h
   ·cases h
 | [],_::_,_,_,_,h,_,_=>by simp[fJ] at h
 | [],[],_::_,_,_,h,_,_=>by simp[fJ] at h
 | _::_,[],_,_,_,h,_,_=>by simp[fJ] at h
 | _::_,_::_,[],_,_,h,_,_=>by simp[fJ] at h
def Rj {kt:TypeId} {s:Bool×List Nat} (h:Ag P kt=some s) {a:AV} {v:Value} (hs:(jV s.1 s.2 a a).isSome=true) (ha:VR ρ a v) (w:World):
  (∀em,(Instr.checkKey em 10000 kt v).run P w=.ok () w)/\
  ∀(b:AV) (u:Value) (r:Bool),VR ρ b u->jV s.1 s.2 a b=some r->(Op.equal kt v u).run P w=.ok r w/\(r=true->v=u/\Instr.sameBits 10000 u v=true)/\
   (s.1=false->∃k x y,v=.int k x/\u=.int k y/\r=(x==y)/\∃q,P.underlying kt=some (.int q)):=by
 have agg:∀ks,flat P 20 kt=some ks->s=(true,ks)->(∃d,P.underlying kt=some d/\lI d=true)->(∀em,(Instr.checkKey em 10000 kt v).run P w=.ok () w)/\
   ∀(b:AV) (u:Value) (r:Bool),VR ρ b u->jV s.1 s.2 a b=some r->(Op.equal kt v u).run P w=.ok r w/\(r=true->v=u/\Instr.sameBits 10000 u v=true)/\
   (s.1=false->∃k x y,v=.int k x/\u=.int k y/\r=(x==y)/\∃q,P.underlying kt=some (.int q)):=by
  rintro ks hf rfl ⟨d,hd,hda⟩;obtain⟨i,dd,k1,k2,k3⟩:=Dt hf;obtain rfl:dd=d:=kF (k2.symm.trans hd);have hlen:=jjx 20 kt ks i hf k1;obtain⟨r0,h0⟩:=lN.1 hs;simp only[jV,aB] at h0;split at h0
  ·rename_i l;cases hll:(l.length.beq ks.length&&l.length.beq ks.length)<;>simp only[hll,aB,aF] at h0
   ·cases h0
   simp only[aN,aL,aH] at hll;simp only[VR] at ha;obtain⟨cs,rfl,va⟩:=ha;have lv:=va.length;have ev:(Value.agg cs)=mW dd cs.toList:=by simp[mW,hda]
   refine⟨λem=>?_,λb u r hb hr=>?_⟩
   ·rw[ev];exact jxj em 20 kt 10000 i dd ks cs.toList w hf (by omega) k1 k2 (by omega)
   ·cases b<;>simp only[jV,aB] at hr<;>try (cases hr;done)
    rename_i m';simp only[VR] at hb;obtain⟨ds,rfl,vb⟩:=hb;obtain⟨hl2,hr⟩:=jch hr;simp only[aN,aL,aH] at hl2;have h3:=jjz 20 kt 10000 i dd ks l m' cs.toList ds.toList r w hf (by omega) k1 k2 va vb (by omega) (by omega) hr;simp only[mW,hda,bR] at h3;refine⟨h3,λhrt=>?_,λhx=>by cases hx⟩;subst hrt;obtain⟨e1,e2⟩:=jig hr va vb;have e3:cs=ds:=uA e1;subst e3;refine⟨rfl,?_⟩;simp only[Instr.sameBits,beq_self_eq_true,sV,bS];rintro ⟨x,y⟩ hxy;have hz:=List.of_mem_zip hxy;obtain⟨j,hj⟩:=Li hxy;rw[List.getElem?_zip_eq_some] at hj;have:x=y:=by
     have:=hj.1.symm.trans hj.2;simpa using this
    subst this;exact e2 9999 x hz.1
  ·cases h0
 unfold Ag at h;split at h
 ·rename_i hu;simp only[cX] at h;obtain⟨ks,hf,rfl⟩:=h;exact agg ks hf rfl ⟨_,hu,rfl⟩
 ·rename_i hu;simp only[cX] at h;obtain⟨ks,hf,rfl⟩:=h;exact agg ks hf rfl ⟨_,hu,rfl⟩
 ·rename_i q hu;cases h;refine⟨λem=>by rw[show(10000:Nat)=9999+1 from rfl,Instr.checkKey];simp[run_underlying hu],λb u r hb hr=>?_⟩;simp only[jV,aF,fJ] at hr;have hc:kP 1 a b=some r:=by
   cases hq:kP 1 a b with
   | none=>rw[hq] at hr;cases hr
   | some z=>cases z<;>rw[hq] at hr<;>simpa using hr
  unfold kP at hc;split at hc<;>try (first | (cases hc;done) | omega)
  rename_i k1 x k2 y _;simp only[VR] at ha hb;subst ha;subst hb;cases hk:jO k1 k2<;>simp only[hk,aB,aF] at hc
  ·cases hc
  ·have:=pH.1 hk;subst this;have hr2:r=(x==y):=by simpa[xG] using hc.symm
   refine⟨?_,λhrt=>?_,λ_=>⟨k1,x,y,rfl,rfl,hr2,q,hu⟩⟩
   ·rw[hr2];have:∀D,(Op.equalIn (D+1) kt (.int k1 x) (.int k1 y)).run P w=.ok (x==y) w:=λD=>by simp[Op.equalIn,run_underlying hu]
    exact this 9999
   ·rw[hrt] at hr2;have:x=y:=by simpa using hr2.symm
    subst this;exact⟨rfl,by simp[Instr.sameBits]⟩
 ·cases h
def jjr {kt:TypeId} {s:Bool×List Nat} (h:Ag P kt=some s) {a:AV} {v:Value} (hs:(jV s.1 s.2 a a).isSome=true) (ha:VR ρ a v) (w:World):
  ∀(m:List (AV×AV)) (es:List MapEntry) (i:Nat) (r:Option (Nat×AV)),VRs ρ (m.map (·.1)) (es.map (·.key))->VRs ρ (m.map (·.2)) (es.map (·.val))->vF s.1 s.2 a m i=some r->
   ∃r',(Instr.findAsking kt v es i).run P w=.ok r' w/\(s.1=false->∀q,P.underlying kt=some (.int q)->Instr.findNow (.int q) v es i=some r')/\
    ((r=none/\r'=none)\/∃j x y,r=some (i+j,x)/\r'=some (i+j,y)/\VR ρ x y/\∃e,es[j]?=some e/\e.key=v/\Instr.sameBits 10000 e.key v=true/\j<m.length)
 | [],es,i,r,h1,h2,hm=>by
   simp only[nO,VRs] at h1;have:es=[]:=by cases es<;>simp_all
   subst this;cases hm;exact⟨none,by simp[Instr.findAsking],λ_ _ _=>by simp[Instr.findNow],.inl ⟨rfl,rfl⟩⟩
 | (b,x)::m,es,i,r,h1,h2,hm=>by
   cases es with
   | nil=>simp only[dA,nO,VRs] at h1;obtain⟨_,_,h,_⟩:=h1;cases h
   | cons e es=>
     simp only[dA,VRs] at h1 h2;obtain⟨u,us,eu,hb,h1⟩:=h1;obtain⟨y,ys,ey,hx,h2⟩:=h2;cases eu;cases ey;simp only[vF] at hm;split at hm
     ·rename_i hc;cases hm;obtain⟨e1,e2,e3⟩:=(Rj h hs ha w).2 b e.key true hb hc;obtain⟨e4,e5⟩:=e2 rfl;refine⟨some (i,e.val),by simp[Instr.findAsking,e1],λhf q hq=>?_,.inr ⟨0,x,e.val,by simp,by simp,hx,e,rfl,e4.symm,e5,by simp⟩⟩;obtain⟨k,p,p',rfl,q1,q2, -⟩:=e3 hf;simp only[Instr.findNow,q1,Instr.sameNow,bR,<-q2]
     ·rename_i hc;obtain⟨e1,e2,e3⟩:=(Rj h hs ha w).2 b e.key false hb hc;obtain⟨r',a1,a2,a3⟩:=jjr h hs ha w m es (i+1) r h1 h2 hm;refine⟨r',by simp[Instr.findAsking,e1,a1],λhf q hq=>?_,?_⟩
      ·obtain⟨k,p,p',rfl,q1,q2, -⟩:=e3 hf;simp only[Instr.findNow,q1,Instr.sameNow,bR,<-q2];exact a2 hf q hq
      ·rcases a3 with a3 | ⟨j,x,y,g1,g2,g3,e,g4,g5,g6,g7⟩
       ·exact .inl a3
       ·exact .inr ⟨j+1,x,y,by rw[g1,kG,Ue 1 j],by rw[g2,kG,Ue 1 j],g3,e,by simpa using g4,g5,g6,by simpa using g7⟩
     ·cases hm
def Qq {kt:TypeId} {s:Bool×List Nat} (h:Ag P kt=some s) {a:AV} {v:Value} (hs:(jV s.1 s.2 a a).isSome=true) (ha:VR ρ a v) (w:World)
  {m:List (AV×AV)} {es:List MapEntry} {r:Option (Nat×AV)} (h1:VRs ρ (m.map (·.1)) (es.map (·.key))) (h2:VRs ρ (m.map (·.2)) (es.map (·.val))) (hm:vF s.1 s.2 a m 0=some r):
    ∃r',(Instr.findKey kt v es).run P w=.ok r' w/\
     ((r=none/\r'=none)\/∃j x y,r=some (j,x)/\r'=some (j,y)/\VR ρ x y/\∃e,es[j]?=some e/\e.key=v/\Instr.sameBits 10000 e.key v=true/\j<m.length):=by
 obtain⟨r',a1,a2,a3⟩:=jjr h hs ha w m es 0 r h1 h2 hm;refine⟨r',?_,by simpa using a3⟩;have hk:=h;unfold Ag at hk;split at hk
 ·rename_i hu;cases es with
  | nil=>simpa[Instr.findKey,run_underlying hu,Instr.findNow,Instr.findAsking] using a1
  | cons e es=>simpa[Instr.findKey,run_underlying hu,Instr.findNow,Instr.sameNow] using a1
 ·rename_i hu;cases es with
  | nil=>simpa[Instr.findKey,run_underlying hu,Instr.findNow,Instr.findAsking] using a1
  | cons e es=>simpa[Instr.findKey,run_underlying hu,Instr.findNow,Instr.sameNow] using a1
 ·rename_i q hu;cases hk;simp[Instr.findKey,run_underlying hu,a2 rfl q hu]
 ·cases hk
end
end Go.Vm
namespace Go.Vm
section
variable {P:Program} {gl:List Nat} {ρ:RM} {g:Opd->AV} {e:Operand->Value}
def jy0 {fn:Func} (h:fn.name=jmr):Extern.find fn=some Extern.BytealgIndexByte.indexByte:=by
 unfold Extern.find;rw[h];kernel_rfl
def jyz {fn:Func} (h:fn.name=jmq):Extern.find fn=some Extern.BytealgCount.count:=by
 unfold Extern.find;rw[h];kernel_rfl
def jkr (c:UInt8):∀(l:List UInt8),Qy c.toNat (l.map UInt8.toNat)=Lib.indexByte l c
 | []=>rfl
 | b::l=>by
   simp only[dA,Qy,Lib.indexByte,jkr c l,aL];by_cases h:b=c
   ·subst h;simp
   ·have h1:b.toNat≠c.toNat:=λe=>h (Bl.1 e)
    have h2:(b==c)=false:=by simp[h]
    simp only[h1,bM,aF,h2,fX,cO];have hge:=Lib.indexByte_ge l c;cases hq:Lib.indexByte l c with
    | ofNat n=>simp
    | negSucc n=>
      rw[hq] at hge;have:n=0:=by omega
      subst this;rfl
def jil (c:UInt8):∀(l:List UInt8) (n:Nat),Jc c.toNat (l.map UInt8.toNat) n=n+Lib.countByte l c
 | [],n=>rfl
 | b::l,n=>by
   simp only[dA,Jc,jil c l,aL,Lib.countByte,qg3];by_cases h:b=c
   ·subst h;simp;omega
   ·have h1:b.toNat≠c.toNat:=λe=>h (Bl.1 e)
    simp[h,h1]
def kat {n:Nat} {as:List AV} {v:AV} {args:Array Value} {w:World} (h:xrow n as=some v) (ha:VRs ρ as args.toList):
  ∃v',VR ρ v v'/\(n=0->(Extern.BytealgIndexByte.indexByte args).run P w=.ok v' w)/\(n=1->(Extern.BytealgCount.count args).run P w=.ok v' w)/\(n=0\/n=1):=by
 unfold xrow at h;split at h
 ·rename_i s c;simp only[VRs,VR] at ha;obtain⟨v1,r1,e1,⟨bs,rfl,rfl⟩,v2,r2,rfl,rfl,rfl⟩:=ha;have hargs:args=#[.string bs,.int .u8 (.ofNat c)]:=by
   apply uA;simpa using e1
  subst hargs;rw[aP] at h;by_cases hc:c<=255
  ·simp only[hc,bA,aB] at h;have hcu:c=(c.toUInt8).toNat:=by simp;omega
   split at h
   ·cases h;refine⟨_,by simp only[VR];rfl,λ_=>?_,λh=>(by cases h),.inl rfl⟩;have e2:=jkr c.toUInt8 bs.data.toList;rw[<-hcu] at e2;rw[show(Int.ofNat c)=((c:Nat):Int) from rfl,Lib.run_indexByteString,e2,fF]
   ·cases h;refine⟨_,by simp only[VR];rfl,λh=>(by cases h),λ_=>?_,.inr rfl⟩;have e2:=jil c.toUInt8 bs.data.toList 0;rw[<-hcu] at e2;rw[show(Int.ofNat c)=((c:Nat):Int) from rfl,Lib.run_countString,e2,fF,iC];rfl
   ·cases h
  ·simp[hc] at h
 ·cases h
def GLok (gl:List Nat) (ρ:RM):Prop:=∀g,gl.contains g=true->∃l,ρ g=some l/\l.blk=g/\l.base=0
def GLok.mono {ρ ρ':RM} (h:ρ.Le ρ') (g:GLok gl ρ):GLok gl ρ':=λx hx=>let ⟨l,h1,h2⟩:=g x hx;⟨l,h _ _ h1,h2⟩
def WF (H:Tr Blk) (nx:Nat):Prop:=∀b,(H.get b).isSome->b<nx
def lS (P:Program) (gl:List Nat) (call:FuncId->List AV->Tr Blk->Nat->Nat->bN):Prop:=
 ∀f as H nx ro v H' nx',call f as H nx ro=some (v,H',nx')->nx<=nx'/\∀(ρ:RM) (w:World) (args:Array Value),HR ρ H w->Free ρ nx nx'->ro<=nx->GLok gl ρ->WF H nx->VRs ρ as args.toList->
  (∃fn,P.funcs[f]?=some fn/\(fn.name== "runtime.NumGoroutine")=false/\fn.body.isSome=true)/\
  Calls P f args w (λen w'=>∃v',en=.returned v'/\Ends ρ H nx ro w v H' nx' v' w')
def OpEnds (P:Program) (e:Operand->Value) (o:Oper) (ρ:RM) (H:Tr Blk) (nx ro:Nat) (w:World) (v:AV) (H':Tr Blk) (nx':Nat):Prop:=
 (∃v' w',(execOp e o).run P w=.ok (.value v') w'/\Ends ρ H nx ro w v H' nx' v' w')\/
 (∃w',(execOp e o).run P w=.ok .skip w'/\Ends ρ H nx ro w v H' nx' undef w')\/
 (∃f args,(execOp e o).run P w=.ok (.enter f args) w/\Calls P f args w (λen w'=>∃v',en=.returned v'/\Ends ρ H nx ro w v H' nx' v' w'))
def OpEnds.wp {o:Oper} {H H':Tr Blk} {nx nx' ro:Nat} {w:World} {v:AV} {a:Act} {K:Act->World->Prop} {Q:Exit->Act->World->Prop}
  (h:OpEnds P a.eval o ρ H nx ro w v H' nx') (hK:∀v' w',Ends ρ H nx ro w v H' nx' v' w'->K (a.put o.dst v') w'):o.wp P a w K Q:=by
 unfold Oper.wp;rcases h with⟨v',w',h1,h2⟩ | ⟨w',h1,h2⟩ | ⟨f,args,h1,h2⟩
 ·rw[h1];exact hK _ _ h2
 ·rw[h1];exact hK _ _ h2
 ·rw[h1];refine h2.mono ?_;rintro en w' ⟨v',rfl,h3⟩;exact hK _ _ h3
def Ends.same {H:Tr Blk} {nx ro:Nat} {w:World} {v:AV} {v':Value} (hr:HR ρ H w) (hv:VR ρ v v'):Ends ρ H nx ro w v H nx v' w:=
 ⟨ρ,Step.refl _ _ _ _ _,hr,hv⟩
def Ut {f:FuncId} {fn:Func} (hf:P.funcs[f]?=some fn) (h1:(fn.name== "runtime.NumGoroutine")=false) (h2:fn.body.isSome=true) (args:Array Value) (w:World):
  (callFunc f args).run P w=.ok (.enter f args) w:=by
 have h3:fn.name≠ "runtime.NumGoroutine" :=by simpa using h1
 obtain⟨b,hb⟩:=lN.1 h2;simp[callFunc,hf,h3,hb]
def jpb {s:Sem Unit} {w w':World} (h:s.run P w=.ok () w'):(do s;pure .skip:Sem Next).run P w=.ok .skip w':=by
 simp[h]
def kO {a b:Bool} (h:(a&&b)=true):a=true/\b=true:=by simpa using h
def jj0 {α:Type} (l:List α) (hl:0<l.length):∀(n j:Nat),j<n*l.length->(List.replicate n l).flatten[j]?=l[j%l.length]?
 | 0,j,h=>by omega
 | n+1,j,h=>by
   rw[Ta,sN,qfs];split
   ·rename_i hj;rw[Tq hj]
   ·rename_i hj;rw[jj0 l hl n (j-l.length) (by rw[Lr] at h;omega)]
    congr 1
    rw[<-Nat.mod_eq_sub_mod (by omega)]
def joy {z:List AV} {Z:Array Value} {n s:Nat} (hz:n*s≠0->VRs ρ z Z.toList) (hs:z.length=s) (hs0:0<s):
  VRs ρ (List.replicate n z).flatten ((Array.range (n*s)).map (λj=>Z[j%Z.size]!)).toList:=by
 rw[rW];refine⟨by simp[hs],λj a v ha hv=>?_⟩;have hj:j<n*s:=by
  have:=(jG.1 ha).1;simpa[hs] using this
 have hzr:=hz (by omega);have hzl:=hzr.length;simp only[gS] at hzl;rw[jj0 z (by omega) n j (by rw[hs];exact hj),hs] at ha;obtain⟨v',h1,h2⟩:=hzr.get ha;have hv':((Array.range (n*s)).map (λj=>Z[j%Z.size]!)).toList[j]?=some (Z[j%Z.size]!):=by
  simp[hj]
 rw[hv'] at hv;cases hv;rw[<-hzl,hs];have h3:Z[j%s]?=some v':=by simpa using h1
 have:Z[j%s]! =v':=by
  rw[getElem!_def,h3]
 rw[this];exact h2
def jq9:∀(l:List AV) (s:List Nat),yY l=some s->∀(vs:List Value),VRs ρ l vs->vs=(s.map Int.ofNat).map (Value.int .u8)/\∀x∈s,x<=255
 | [],s,h,vs,hv=>by
   simp only[yY,aG] at h;simp only[VRs] at hv;subst h;subst hv;exact⟨rfl,λx hx=>by cases hx⟩
 | a::l,s,h,vs,hv=>by
   unfold yY at h;split at h
   ·rename_i heq;cases heq
   ·rename_i n l' heq;cases heq;rw[aP] at h;by_cases hn:n<=255
    ·simp only[hn,bA,aB] at h;split at h
     ·rename_i r hr;cases h;simp only[VRs,VR] at hv;obtain⟨v,vs',rfl,rfl,h2⟩:=hv;obtain⟨h3,h4⟩:=jq9 l r hr vs' h2;subst h3;refine⟨rfl,λx hx=>?_⟩;rcases bL.1 hx with rfl | hx
      ·exact hn
      ·exact h4 x hx
     ·cases h
    ·simp[hn] at h
   ·cases h
def jj1:∀(s:List Nat) (r:ByteArray),((s.map Int.ofNat).foldl (λr n=>r.push (UInt8.ofNat n.toNat)) r).data.toList=r.data.toList++s.map UInt8.ofNat
 | [],r=>by simp
 | x::s,r=>by
   simp only[dA,Ll];rw[jj1 s];simp[ByteArray.push]
def kax {t:TypeId} {z:AV} (h:jfg P t=some z):∃v,VR ρ z v/\∀w,(zeroValue t).run P w=.ok v w:=by
 unfold jfg at h;split at h
 ·rename_i i hi;split at h
  ·rename_i cs hz;simp only[cX] at h;obtain⟨l,hl,rfl⟩:=h;exact⟨.agg cs,by simp only[VR];exact⟨cs,rfl,Rw ρ _ _ hl⟩,λw=>yR hi hz w⟩
  ·rename_i v _ hz;exact⟨v,jcg ρ h,λw=>yR hi hz w⟩
  ·cases h
 ·cases h
def jrh {l:List AV} {vs vs':List Value} {j:Nat} {a:AV} {v:Value} (h:VRs ρ l vs) (hj:j<l.length) (ha:VR ρ a v) (hl:vs'.length=vs.length) (hv:∀i,vs'[i]?=if i=j then some v else vs[i]?):VRs ρ (l.set j a) vs':=by
 rw[rW] at h ⊢;refine⟨by rw[yI,hl];exact h.1,λi x y hx hy=>?_⟩;rw[hv] at hy;rw[Fz] at hx;by_cases e:i=j
 ·subst e;rw[aK rfl] at hy;simp only[bR,hj] at hx;cases hx;cases hy;exact ha
 ·rw[aD e] at hy;rw[aD (λe'=>e e'.symm)] at hx;exact h.2 i x y hx hy
def jb0 {ok b:Bool} {a:AV} {v:Value} (h:VR ρ a v):VR ρ (xU ok a b) (if ok then .tuple #[v,.bool b] else v):=by
 cases ok
 ·exact h
 ·simp only[xU,aB,bR,VR];exact⟨_,rfl,_,_,rfl,h,_,_,rfl,by simp[VR],rfl⟩
def jkg {call:FuncId->List AV->Tr Blk->Nat->Nat->bN} (hcall:lS P gl call) {o:Oper} {c:I} {v:AV} {H H':Tr Blk} {nx nx' ro:Nat} {w:World}
  (hg:∀x y,bT gl x=some y->VR ρ (g y) (e x)) (hef:∀f,e (.func f)=.func (.func f) #[] #[]) (hc:jX P gl o.op=some c) (h:hop call ro g H nx c=some (v,H',nx')) (hr:HR ρ H w) (hf:Free ρ nx nx') (hro:ro<=nx) (hgl:GLok gl ρ) (hwf:WF H nx):
  OpEnds P e o ρ H nx ro w v H' nx':=by
 obtain⟨dst,op,ty,pos,after,guard⟩:=o;simp only at hc
 have boxed:∀(l:List AV) (cs:Array Value) (elem:TypeId),VRs ρ l cs.toList->pN l (λb=>.ptr b 0) H nx=some (v,H',nx')->
   Ends ρ H nx ro w v H' nx' (.pointer (some ⟨w.heap.size,0,none⟩)) (w.alloc (.cells cs elem)):=by
  intro l cs elem hl hn;simp only[iA,aG,aM] at hn;obtain⟨rfl,rfl,rfl⟩:=hn;have hll:=hl.length;obtain⟨a1,a2⟩:=Iz (elem:=elem) (fr:=(0,0)) (lim:=cs.size) (ro:=ro) hr (hf nx (aU _) (by omega)) hro (by rw[hll,mC];exact hl) (by simp at hll;omega) (aU _) (λj=>by omega);refine⟨_,a2,a1,?_⟩;simp only[VR];exact⟨⟨w.heap.size,0,cs.size⟩,by simp[RM.upd],rfl⟩
 cases op
 case box t x=>
  simp only[jX,cX] at hc;obtain⟨x',hx,rfl⟩:=hc;simp only[hop] at h;refine .inl ⟨_,_,lQ ?_,boxed _ _ t (hg _ _ hx).cells h⟩;rfl
 case alloc t=>
  simp only[jX,cX] at hc;obtain⟨z,hz,rfl⟩:=hc;simp only[hop] at h;obtain⟨i,zv,h1,h2,h3⟩:=Hs (ρ:=ρ) hz;refine .inl ⟨_,_,lQ ?_,boxed _ _ t h3 h⟩;simp only[Instr.alloc,cQ,yR h1 h2,cJ];rfl
 case load t x=>
  simp only[jX,fS,dN,cX] at hc;obtain⟨s,hs,x',hx,rfl⟩:=hc;obtain⟨i,d,k1,k2,rfl⟩:=qV hs;have kx:=hg _ _ hx;simp only[hop] at h;split at h
  ·rename_i b o hq;rw[hq] at kx;simp only[VR] at kx;obtain⟨lc,l1,l2⟩:=kx;split at h
   ·rename_i ct m hb;rw[aP] at h;by_cases hm:o+i.size<=m
    ·simp only[hm,bA,aB] at h;split at h
     ·rename_i l hl;split at h
      ·rename_i v0 hv0;simp only[aG,aM] at h;obtain⟨rfl,rfl,rfl⟩:=h;obtain⟨vs,r1,r2,r3,r4⟩:=zW (P:=P) hr hb l1 hm hl;rcases jby hv0 r1 with⟨q1,q2⟩ | ⟨q1,u,q2,q3⟩
       ·refine .inl ⟨_,w,lQ ?_,Ends.same hr q2⟩;simp only[Instr.loadAt,l2,Instr.sureAddr,cQ,dI,cJ,loadVar,Gm k2,q1,bR,iM k1,r4]
       ·subst q2;refine .inl ⟨u,w,lQ ?_,Ends.same hr q3⟩;have r5:=r3 0 u rfl;rw[nZ,iV] at r5;simp only[Instr.loadAt,l2,Instr.sureAddr,cQ,dI,cJ,loadVar,Gm k2,q1,fX,cO,run_load,r5]
      ·cases h
     ·cases h
    ·simp[hm] at h
   ·cases h
  ·cases h
 case store t x y=>
  simp only[jX,fS,dN,aG] at hc;obtain⟨s,hs,x',hx,y',hy,rfl⟩:=hc;obtain⟨i,d,k1,k2,rfl⟩:=qV hs;have kx:=hg _ _ hx;have ky:=hg _ _ hy;simp only[hop] at h;split at h
  ·rename_i b o hq;rw[hq] at kx;simp only[VR] at kx;obtain⟨lc,l1,l2⟩:=kx;split at h
   ·rename_i ct m hb;cases hcnd:((rx ro).ble b&&(o+i.size).ble m&&(gD (g y')).length.beq i.size&&(gD (g y')).all hZ)<;>simp only[hcnd,aB,aF] at h
    ·cases h
    ·obtain⟨hcnd,c4⟩:=kO hcnd;obtain⟨hcnd,c3⟩:=kO hcnd;obtain⟨c1,c2⟩:=kO hcnd;simp only[aP,aL,aH] at c1 c2 c3;simp only[jP,kJ,aG,aM] at h;obtain⟨rfl,rfl,rfl⟩:=h;have hv:=ky.cells;have hl:=hv.length;simp only[gS] at hl;obtain⟨w',s1,s2,s3⟩:=Yv (P:=P) (nx:=nx) (o:=o) hr hb l1 c1 hv (by omega) c4;refine .inr (.inl ⟨w',jpb ?_,ρ,s3,s2,by simp[VR,undef,VRs]⟩);have hsz:¬((e y).cells.size≠i.size):=by omega
     simp only[Instr.storeAt,l2,Instr.sureAddr,cQ,dI,cJ,storeVar,iM k1,hsz,Gc,cO,s1]
   ·cases h
  ·cases h
 case buildSlice t len ps=>
  simp only[jX] at hc;split at hc
  ·rename_i el hu;simp only[fS,dN] at hc;obtain⟨s,hs,z,hz,hc⟩:=hc;split at hc
   ·rename_i hzl;simp only[dN,aG] at hc;obtain⟨l,hl,rfl⟩:=hc;obtain⟨i,d,k1,k2,rfl⟩:=qV hs;obtain⟨i',zv,h1,h2,h3⟩:=Hs (ρ:=ρ) hz;rw[k1] at h1;cases h1;simp only[hop] at h;cases hcnd:(i.size.beq 0|| !((len*i.size).ble 1000000))<;>simp only[hcnd,aB,aF] at h
    ·simp only[nK,qf9,aL,aP,eH,aH] at hcnd;obtain⟨c1,c2⟩:=hcnd;split at h
     ·rename_i zl hfill;rw[aL] at h;by_cases hlen:zl.length=len*i.size
      ·simp only[hlen,bA,aB] at h;have hz0:=joy (ρ:=ρ) (z:=z) (Z:=if len*i.size=0 then #[] else zv.cells) (n:=len) (s:=i.size) (λhne=>by rw[aD hne];exact h3) hzl (by omega);obtain⟨cells',f1,f2⟩:=Qm (place:=λj=>some (j*i.size,i.size)) hg ps.toList l _ zl _ hl hfill hz0;have hcl:=f2.length;simp only[gS] at hcl;simp only[iA,aG,aM] at h;obtain⟨rfl,rfl,rfl⟩:=h;obtain⟨a1,a2⟩:=Iz (elem:=el) (fr:=(0,0)) (lim:=len*i.size) (ro:=ro) hr (hf nx (aU _) (by omega)) hro (l:=zl) (cs:=cells') (by rw[hcl,iU (by simp)];exact f2) (by omega) (by omega) (λj=>by omega);refine .inl ⟨.slice (some ⟨w.heap.size,0,none⟩) len len,w.alloc (.cells cells' el),lQ ?_,_,a2,a1,?_⟩
       ·have hlim:¬(len*i.size > 2^24):=by omega
        have hmap:(ps.map fun(x:Nat×Operand)=>(x.1,e x.2)).toList=ps.toList.map fun(x:Nat×Operand)=>(x.1,e x.2):=by simp
        simp only[Instr.buildSlice,cQ,run_underlying hu,cJ,iM k1,hlim,Gc,cO,dI];by_cases hz00:len*i.size=0
        ·simp only[hz00,bR,List.range_zero] at f1 ⊢;have f1':Instr.fill (λj=>some (j*i.size,i.size)) (Array.map (λx=>#[][x % #[].size]!) (Array.range 0)) (ps.toList.map fun(x:Nat×Operand)=>(x.1,e x.2))=some cells':=f1;rw[hmap,f1'];rfl
        ·simp only[hz00,cO,yR k1 h2,cJ] at f1 ⊢;have f1':Instr.fill (λj=>some (j*i.size,i.size)) (Array.map (λx=>zv.cells[x%zv.cells.size]!) (Array.range (len*i.size))) (ps.toList.map fun(x:Nat×Operand)=>(x.1,e x.2))=some cells':=f1;rw[hmap,f1'];rfl
       ·simp only[VR];exact⟨⟨w.heap.size,0,len*i.size⟩,len,0,by simp[RM.upd],rfl,aU _,by omega,.inl rfl,.inl ⟨rfl,by simp,λ_=>by have:len<=len*i.size:=Nat.le_mul_of_pos_right _ (by omega);omega⟩⟩
      ·simp[hlen] at h
     ·cases h
    ·cases h
   ·cases hc
  ·cases hc
 case slice t x lo hi mx=>
  simp only[jX] at hc;split at hc
  ·rename_i n el hu;split at hc
   ·cases hc
   rename_i hnbig;simp only[fS,dN,aG] at hc;obtain⟨s,hs,x',hx,lo',h1,hi',h2,mx',h3,rfl⟩:=hc;obtain⟨i,d,k1,k2,rfl⟩:=qV hs;have kx:=hg _ _ hx;simp only[hop] at h;split at h
   ·rename_i b o hq;rw[hq] at kx;simp only[VR] at kx;obtain⟨lc,l1,l2⟩:=kx;split at h
    ·rename_i ct m hb;obtain⟨_,_,_,_,hnm,_⟩:=hr.blk b _ lc hb l1;cases hcnd:(i.size.beq 0|| !((o+n*i.size).ble m))<;>simp only[hcnd,aB,aF] at h
     ·simp only[nK,qf9,aL,aP,eH,aH] at hcnd;obtain⟨c1,c2⟩:=hcnd;split at h
      ·rename_i l0 h0 m0 hbd;simp only[aG,aM] at h;obtain⟨rfl,rfl,rfl⟩:=h;obtain⟨b1,b2,b3,b5,b4⟩:=Iu (P:=P) (ρ:=ρ) (cap':=n) false w hbd (yA hg h1) (yA hg h2) (yA hg h3) (aU _) (aU _);have hmm:(if(Option.map g mx').isSome=true then m0 else n)=m0:=by
        cases hmx:Option.map g mx' with
        | none=>simp[b5 hmx]
        | some _=>simp
       rw[hmm] at b4;refine .inl ⟨.slice (some (if m0=l0 then⟨lc.blk,lc.base+o,none⟩ else(⟨lc.blk,lc.base+o,none⟩:Addr).add (l0*i.size))) (h0-l0) (m0-l0),w,lQ ?_,Ends.same hr ?_⟩
       ·simp only[Instr.sliceAt,cQ,run_underlying hu,cJ,l2,Instr.sureAddr,dI,b4,iM k1]
       ·simp only[VR];have hmul:l0*i.size+ (m0-l0)*i.size=m0*i.size:=by rw[<-fU];congr 1;omega
        have hle:m0*i.size<=n*i.size:=iB _ b3;refine⟨lc,m0-l0,if m0=l0 then lc.base+o else lc.base+o+l0*i.size,l1,?_,by omega,by omega,?_,.inl ⟨rfl,by omega,λ_=>by omega⟩⟩
        ·split
         ·rfl
         ·rw[nZ]
        ·split
         ·right;omega
         ·left;omega
      ·cases h
     ·cases h
    ·cases h
   ·cases h
  ·cases hc
 case makeSlice t lx cx=>
  simp only[jX] at hc;split at hc
  ·rename_i el hu;split at hc
   ·rename_i i hi;simp only[fS,dN,aG] at hc;obtain⟨z,hz,l',hl,c',hcx,rfl⟩:=hc;obtain⟨i',zv,h1,h2,h3⟩:=Hs (ρ:=ρ) hz;rw[hi] at h1;cases h1;have kl:=hg _ _ hl;have kc:=hg _ _ hcx;simp only[hop] at h;split at h
    ·rename_i kd1 l0 kd2 c0 hq1 hq2;rw[hq1] at kl;rw[hq2] at kc;have kl:=Ec kl;have kc:=Ec kc;cases hcnd:(l0.ble c0&&c0.ble 1000000&&i.bytes.ble 1000&& !(i.size.beq 0)&&z.length.beq i.size)<;>simp only[hcnd,aB,aF] at h
     ·cases h
     ·simp only[aN,fB,aL,aP,eH,aH] at hcnd;obtain⟨⟨⟨⟨c1,c2⟩,c3⟩,c4⟩,c5⟩:=hcnd;have hz0:=joy (ρ:=ρ) (z:=z) (Z:=if c0*i.size=0 then #[] else zv.cells) (n:=c0) (s:=i.size) (λhne=>by rw[aD hne];exact h3) c5 (by omega);have hcl:=hz0.length;simp only[gS] at hcl;simp only[iA,aG,aM] at h;obtain⟨rfl,rfl,rfl⟩:=h;have hfl:(List.replicate c0 z).flatten.length=c0*i.size:=by simp[c5]
      obtain⟨a1,a2⟩:=Iz (elem:=el) (fr:=(0,0)) (lim:=c0*i.size) (ro:=ro) hr (hf nx (aU _) (by omega)) hro (l:=(List.replicate c0 z).flatten) (cs:=(Array.range (c0*i.size)).map (λj=>(if c0*i.size=0 then #[] else zv.cells)[j% (if c0*i.size=0 then #[] else zv.cells).size]!)) (by rw[hcl,iU (by simp)];exact hz0) (by omega) (by simp) (λj=>by omega);refine .inl ⟨.slice (some ⟨w.heap.size,0,none⟩) l0 c0,w.alloc (.cells _ el),lQ ?_,_,a2,a1,?_⟩
      ·have w1:IntKind.i64.wrap (l0:Int)=l0:=Ww .i64 _ (by omega) (by simp[qU];omega);have w2:IntKind.i64.wrap (c0:Int)=c0:=Ww .i64 _ (by omega) (by simp[qU];omega);have hb:c0*i.bytes<=1000000*1000:=pU c2 c3;have hb':((i.bytes:Int)* (c0:Int))=((c0*i.bytes:Nat):Int):=by rw[Tu];rfl
       have n1:¬((c0:Int)<0):=by omega
       have n2:¬(((c0*i.bytes:Nat):Int) > 2^48):=by omega
       have n3:¬((l0:Int)<0):=by omega
       have n4:¬((l0:Int) > (c0:Int)):=by omega
       simp only[Instr.makeSlice,cQ,run_underlying hu,cJ,kl,kc,asInt,asIntOf,dI,Uw hi,w1,w2,hb',n1,n2,n3,n4,bM,Tw,fX,cO,Gc,run_askRoom,fF,iM hi];by_cases hz00:c0*i.size=0
       ·simp only[hz00,bR];rfl
       ·simp only[hz00,cO,yR hi h2,cJ];rfl
      ·simp only[VR];exact⟨⟨w.heap.size,0,c0*i.size⟩,c0,0,by simp[RM.upd],rfl,c1,by omega,.inl rfl,.inl ⟨rfl,by simp,λ_=>by omega⟩⟩
    ·cases h
   ·cases hc
  ·cases hc
 case convert s t x=>
  simp only[jX] at hc;split at hc
  ·rename_i el hs ht;split at hc
   ·rename_i he;simp only[cX] at hc;obtain⟨x',hx,rfl⟩:=hc;have kx:=hg _ _ hx;simp only[hop] at h;split at h
    ·rename_i hq;rw[hq] at kx;simp only[VR] at kx;simp only[aG,aM] at h;obtain⟨rfl,rfl,rfl⟩:=h;refine .inl ⟨.string .empty,w,lQ ?_,Ends.same hr (by simp[VR])⟩;simp[convert,run_underlying hs,run_underlying ht,run_underlying he,kx,Conv.bytesToString]
    ·rename_i b o len cap z hq;rw[hq] at kx;have kx0:=kx;simp only[VR] at kx;obtain⟨lc,c,off,l1,l2,l3,l4,l5,l6⟩:=kx;split at h
     ·rename_i ct m hb;cases hcnd:(z.beq 1&&(o+len).ble m)<;>simp only[hcnd,aB,aF] at h
      ·cases h
      ·simp only[aN,aL,aP,aH] at hcnd;obtain⟨c1,c2⟩:=hcnd;split at h
       ·rename_i l hl;split at h
        ·rename_i s0 hs0;simp only[Dw,aG,aM] at h;obtain⟨rfl,rfl,rfl⟩:=h;obtain⟨vs,r1,r2,r3,r4⟩:=zW (P:=P) hr hb l1 c2 hl;obtain⟨b1,b2⟩:=jq9 _ _ hs0 _ r1;refine .inl ⟨.string ((s0.map Int.ofNat).foldl (λr n=>r.push (UInt8.ofNat n.toNat)) ByteArray.empty),w,lQ ?_,Ends.same hr ?_⟩
         rotate_left
         ·simp only[VR];refine⟨_,rfl,?_⟩;rw[jj1];have:∀l:List Nat,(∀x∈l,x<=255)->(l.map UInt8.ofNat).map UInt8.toNat=l:=by
           intro l hl;induction l with
           | nil=>rfl
           | cons x l ih=>
             have h1:=hl x (by simp);simp only[dA,ih λy hy=>hl y (by simp[hy])]
             congr 1
             simp;omega
          exact this s0 b2
         have hload:(loadCells ⟨lc.blk,off,none⟩ len).run P w=.ok vs.toArray w:=by
          by_cases h0:len=0
          ·subst h0;have:vs=[]:=yF.1 r2;subst this;rfl
          ·have:off=lc.base+o:=by omega
           rw[this];exact r4
         rw[l2,run_convert_bytes_string w _ _ _ _ _ _ hs he ht];exact run_bytesToString w _ _ _ _ (by rw[hload,b1])
        ·cases h
       ·cases h
     ·cases h
    ·cases h
   ·cases hc
  ·rename_i el hs ht;split at hc
   ·rename_i he;simp only[cX] at hc;obtain⟨x',hx,rfl⟩:=hc;have kx:=hg _ _ hx;simp only[hop] at h;cases h
   ·cases hc
  ·cases hc
 case makeMap t r=>
  simp only[jX] at hc;split at hc
  ·rename_i kt et hu
   have fin:∀rv:Option Value,(∀y,rv=some y->∃k n,y=.int k n)->Fa (.mp []) (λb=>.mp b) H nx=some (v,H',nx')->
     ∃v' w',(Instr.makeMap t rv).run P w=.ok v' w'/\Ends ρ H nx ro w v H' nx' v' w':=by
    intro rv hrv hn;simp only[xW,aG,aM] at hn;obtain⟨rfl,rfl,rfl⟩:=hn;have hnn:=hf nx (aU _) (by omega);have:=hr.alloc (ro:=ro) hnn (.map #[] 0) (.mp []) ⟨w.heap.size,0,0⟩ rfl ⟨#[],0,by show(w.heap.push _)[w.heap.size]?=_;simp,rfl,rfl⟩ hro;refine⟨.map (some w.heap.size),w.alloc (.map #[] 0),?_,_,this.2,this.1,?_⟩
    ·cases rv with
     | none=>simp only[Instr.makeMap,cQ,dI,cJ,run_newObj];rfl
     | some y=>
       obtain⟨k,n,rfl⟩:=hrv y rfl;simp only[Instr.makeMap,cQ,dI,cJ,run_underlying hu,asInt,asIntOf,run_newObj];rfl
    ·simp only[VR];exact⟨⟨w.heap.size,0,0⟩,by simp[RM.upd],rfl⟩
   split at hc
   ·cases hc;simp only[hop,kE] at h;obtain⟨v',w',a1,a2⟩:=fin none (λy hy=>by cases hy) h;exact .inl ⟨v',w',lQ a1,a2⟩
   ·rename_i x;simp only[cX] at hc;obtain⟨x',hx,rfl⟩:=hc;have kx:=hg _ _ hx;simp only[hop,eX] at h;split at h
    ·rename_i heq;cases heq
    ·rename_i k n heq;have heq:g x'=.int k n:=by simpa using heq
     rw[heq] at kx;simp only[VR] at kx;obtain⟨v',w',a1,a2⟩:=fin (some (e x)) (λy hy=>by cases hy;exact⟨k,n,kx⟩) h;exact .inl ⟨v',w',lQ a1,a2⟩
    ·cases h
  ·cases hc
 case lookup t x k ok=>
  simp only[jX] at hc;split at hc
  ·rename_i kt et hu;simp only[fS,dN,aG] at hc;obtain⟨s,hs,z,hz,x',hx,k',hk,rfl⟩:=hc;have kx:=hg _ _ hx;have kk:=hg _ _ hk;obtain⟨zv,z1,z2⟩:=kax (ρ:=ρ) hz;simp only[hop] at h;obtain⟨hsm,h⟩:=jch h;have ck:=(Rj hs hsm kk w).1;split at h
   ·rename_i hq;rw[hq] at kx;simp only[VR] at kx;simp only[aG,aM] at h;obtain⟨rfl,rfl,rfl⟩:=h;obtain⟨r',f1,f2⟩:=Qq hs hsm kk w (m:=[]) (es:=[]) (r:=none) rfl rfl rfl;rcases f2 with⟨-,rfl⟩ | ⟨_,_,_,f3,_⟩
    ·refine .inl ⟨_,w,lQ ?_,Ends.same hr (jb0 (ok:=ok) (b:=false) z1)⟩;simp only[Instr.lookup,kx,cQ,run_underlying hu,cJ,dI,ck,f1,z2]
    ·cases f3
   ·rename_i b hq;rw[hq] at kx;simp only[VR] at kx;obtain⟨lc,l1,l2⟩:=kx;split at h
    ·rename_i m hb;obtain⟨es,clock,b1,b2,b3⟩:=hr.blk b _ lc hb l1;split at h
     ·rename_i i0 v0 hmf;simp only[aG,aM] at h;obtain⟨rfl,rfl,rfl⟩:=h;obtain⟨r',f1,f2⟩:=Qq hs hsm kk w b2 b3 hmf;rcases f2 with⟨f3, -⟩ | ⟨j,p,q,f3,rfl,f5, -⟩
      ·cases f3
      ·cases f3;refine .inl ⟨_,w,lQ ?_,Ends.same hr (jb0 (ok:=ok) (b:=true) f5)⟩;simp only[Instr.lookup,l2,cQ,run_underlying hu,cJ,dI,Tf b1,ck,f1]
     ·rename_i hmf;simp only[aG,aM] at h;obtain⟨rfl,rfl,rfl⟩:=h;obtain⟨r',f1,f2⟩:=Qq hs hsm kk w b2 b3 hmf;rcases f2 with⟨-,rfl⟩ | ⟨_,_,_,f3,_⟩
      ·refine .inl ⟨_,w,lQ ?_,Ends.same hr (jb0 (ok:=ok) (b:=false) z1)⟩;simp only[Instr.lookup,l2,cQ,run_underlying hu,cJ,dI,Tf b1,ck,f1,z2]
      ·cases f3
     ·cases h
    ·cases h
   ·cases h
  ·cases hc
 case mapUpdate t x k y=>
  simp only[jX] at hc;split at hc
  ·rename_i kt et hu;simp only[fS,dN,aG] at hc;obtain⟨s,hs,x',hx,k',hk,y',hy,rfl⟩:=hc;have kx:=hg _ _ hx;have kk:=hg _ _ hk;have ky:=hg _ _ hy;simp only[hop] at h;split at h
   ·rename_i b hq;rw[hq] at kx;simp only[VR] at kx;obtain⟨lc,l1,l2⟩:=kx;split at h
    ·rename_i m hb;obtain⟨es,clock,b1,b2,b3⟩:=hr.blk b _ lc hb l1;have hlt:=(eJ.1 b1).1;split at h
     ·rename_i r hmf;obtain⟨hcnd,h⟩:=jch h;obtain⟨c1,hsm⟩:=kO hcnd;rw[aP,aH] at c1;have ck:=(Rj hs hsm kk w).1;simp only[kJ,aG,aM] at h;obtain⟨rfl,rfl,rfl⟩:=h;obtain⟨r',f1,f2⟩:=Qq hs hsm kk w b2 b3 hmf
      have fin:∀(es':Array MapEntry) (clock':Nat),VRs ρ ((pM (g k') (g y') m r).map (·.1)) (es'.toList.map (·.key))->VRs ρ ((pM (g k') (g y') m r).map (·.2)) (es'.toList.map (·.val))->
        (Instr.mapUpdate t (e x) (e k) (e y)).run P w=.ok () { w with heap:=w.heap.setIfInBounds lc.blk (.map es' clock') }->
        OpEnds P e ⟨dst,.mapUpdate t x k y,ty,pos,after,guard⟩ ρ H nx ro w (.tup []) (H.set b (.mp (pM (g k') (g y') m r))) nx:=by
       intro es' clock' g1 g2 g3
       have hws:=HR.write (nx:=nx) (w':={ w with heap:=w.heap.setIfInBounds lc.blk (.map es' clock') }) hr (.mp (pM (g k') (g y') m r)) lc (by rw[hb];rfl) l1 c1 rfl rfl rfl (by simp)
        (λx hx=>by simp[vN,vT hx]) ⟨es',clock',by simp[vN,hlt],g1,g2⟩
       exact .inr (.inl ⟨_,jpb g3,ρ,hws.2,hws.1,by simp[VR,undef,VRs]⟩)
      rcases f2 with⟨rfl,rfl⟩ | ⟨j,p,q,rfl,rfl,f5,e0,g1,g2,g3,g4⟩
      ·refine fin (es.push { key:=e k,val:=e y,born:=clock }) (clock+1) ?_ ?_ ?_
       ·simp only[pM,fY,dA,nO,Array.toList_push];exact b2.append ⟨_,_,rfl,kk,rfl⟩
       ·simp only[pM,fY,dA,nO,Array.toList_push];exact b3.append ⟨_,_,rfl,ky,rfl⟩
       ·simp only[Instr.mapUpdate,l2,cQ,run_underlying hu,cJ,Tf b1,ck,f1,qgi _ b1]
      ·have ej:es[j]?=some e0:=by simpa using g1
       refine fin (es.modify j λe1=>{ e1 with key:=e k,val:=e y }) clock ?_ ?_ ?_
       ·simp only[pM,List.map_set];refine jrh b2 (by simpa using g4) kk (by simp) λi=>?_
        simp only[jH,lZ,sQ];by_cases hji:j=i
        ·subst hji;simp[ej]
        ·simp[hji,vT hji]
       ·simp only[pM,List.map_set];refine jrh b3 (by simpa using g4) ky (by simp) λi=>?_
        simp only[jH,lZ,sQ];by_cases hji:j=i
        ·subst hji;simp[ej]
        ·simp[hji,vT hji]
       ·have st:(Instr.keyThatStays e0.key (e k)).run P w=.ok (e k) w:=by
         simp[Instr.keyThatStays,g3]
        simp only[Instr.mapUpdate,l2,cQ,run_underlying hu,cJ,Tf b1,ck,f1,ej,eX,nL,st,qgi _ b1]
     ·cases h
    ·cases h
   ·cases h
  ·cases hc
 case range t x=>
  simp only[jX] at hc;split at hc
  ·rename_i hu;simp only[cX] at hc;obtain⟨x',hx,rfl⟩:=hc;have kx:=hg _ _ hx;simp only[hop] at h;split at h
   ·rename_i s0 hq;rw[hq] at kx;simp only[VR] at kx;obtain⟨bs,k1,rfl⟩:=kx;simp only[xW,aG,aM] at h;obtain⟨rfl,rfl,rfl⟩:=h;have hnn:=hf nx (aU _) (by omega);have:=hr.alloc (ro:=ro) hnn (.stringIter bs 0) (.iter (bs.data.toList.map UInt8.toNat) 0) ⟨w.heap.size,0,0⟩ rfl ⟨bs,by show(w.heap.push _)[w.heap.size]?=_;simp,rfl,rfl⟩ hro;refine .inl ⟨.pointer (some ⟨w.heap.size,0,none⟩),w.alloc (.stringIter bs 0),lQ ?_,_,this.2,this.1,?_⟩
    ·simp only[Instr.range,cQ,run_underlying hu,cJ,k1,dI,run_newObj];rfl
    ·simp only[VR];exact⟨⟨w.heap.size,0,0⟩,by simp[RM.upd],rfl⟩
   ·cases h
  ·cases hc
 case next x b=>
  cases b
  ·simp[jX] at hc
  simp only[jX,cX] at hc;obtain⟨x',hx,rfl⟩:=hc;have kx:=hg _ _ hx;simp only[hop] at h;split at h
  ·rename_i b hq;rw[hq] at kx;simp only[VR] at kx;obtain⟨lc,l1,l2⟩:=kx;split at h
   ·rename_i s0 p0 hb;obtain⟨bs,b1,b2,b3⟩:=hr.blk b _ lc hb l1;subst b2;rw[b3] at l2;split at h
    ·rename_i c hcp;cases hcnd:((rx ro).ble b&&c.ble 127)<;>simp only[hcnd,aB,aF] at h
     ·cases h
     ·simp only[aN,aP,aH] at hcnd;obtain⟨c1,c2⟩:=hcnd;simp only[xD,kJ,aG,aM] at h;obtain⟨rfl,rfl,rfl⟩:=h;have hps:p0<bs.size:=by
       have:=(jG.1 hcp).1;simpa using this
      have hch:(bs[p0]'hps).toNat=c:=by
       obtain⟨u,h1,h2⟩:=jqa hcp;rw[getElem?_pos bs p0 hps] at h1;cases h1;exact h2
      have hws:=HR.write (nx:=nx) (w':={ w with heap:=w.heap.setIfInBounds lc.blk (.stringIter bs (p0+1)) }) hr (.iter (bs.data.toList.map UInt8.toNat) (p0+1)) lc (by rw[hb];rfl) l1 c1 rfl rfl rfl (by simp)
       (λx hx=>by simp[vN,vT hx]) ⟨bs,by
         have:=(eJ.1 b1).1;simp[vN,this],rfl,b3⟩
      refine .inl ⟨.tuple #[.bool true,.int .i64 p0,.int .i32 (bs[p0]'hps).toNat],_,lQ ?_,ρ,hws.2,hws.1,?_⟩
      ·rw[l2];simp only[Instr.next,getObj,setObj,cQ,Sem.run,b1,Result.andThen,hps,bR,decode_ascii bs p0 hps (by omega)];simp[goInt,Sem.run,b1]
      ·simp only[VR];exact⟨_,rfl,_,_,rfl,by simp[VR],_,_,rfl,by simp[VR],_,_,rfl,by simp[VR,hch],rfl⟩
    ·rename_i hcp;simp only[aG,aM] at h;obtain⟨rfl,rfl,rfl⟩:=h;have hps:¬p0<bs.size:=by
      have:=List.getElem?_eq_none_iff.1 hcp;simpa using this
     refine .inl ⟨.tuple #[.bool false],w,lQ ?_,Ends.same hr ?_⟩
     ·rw[l2];simp[Instr.next,getObj,Sem.run,b1,hps]
     ·simp only[VR];exact⟨_,rfl,_,_,rfl,by simp[VR],rfl⟩
   ·cases h
  ·cases h
 case call cl=>
  obtain⟨callee,args,argTypes⟩:=cl
  have bgo:∀(b:Builtin) (F:Array TypeId->TypeId->Array Value->Sem Value) (v':Value) (w':World),(∀T cs a,builtin b argTypes T cs a=(do pure (.value (<-F argTypes T a)):Sem Next))->callee=.builtin b->
    (F argTypes ty (args.map e)).run P w=.ok v' w'->(execOp e ⟨dst,.call ⟨callee,args,argTypes⟩,ty,pos,after,guard⟩).run P w=.ok (.value v') w':=by
   rintro b F v' w' hF rfl h1;simp only[execOp,resolve,cQ,dI,cJ,invoke,hF,h1]
  unfold jX at hc;split at hc<;>try (rename_i heq;cases heq;done)
  all_goals try (cases hc;done)
  ·
   rename_i a0 t0 heq;cases heq;split at hc
   ·rename_i x y t u us ha ht;split at hc
    ·rename_i el hu
     have key:∀(i:TypeInfo) (zs:List AV),P.info? el=some i->wK P el=some zs->((∃e2,P.underlying u=some (.slice e2))\/P.underlying u=some .string)->zs.length=i.size->
       (∃x' y',bT gl x=some x'/\bT gl y=some y'/\c=.app i.size i.bytes x' y')->OpEnds P e ⟨dst,.call ⟨.builtin .append,args,argTypes⟩,ty,pos,after,guard⟩ ρ H nx ro w v H' nx':=by
      rintro i zs hi hz huu hzl ⟨x',y',hx,hy,rfl⟩;obtain⟨i',zv,h1,h2,h3⟩:=Hs (ρ:=ρ) hz;rw[hi] at h1;cases h1;have hzc:zv.cells.size=i.size:=by have:=h3.length;simp at this;omega
      simp only[hop] at h;split at h
      ·rename_i k0 len0 hk0 hl0;cases hcnd:((len0+k0).ble 10000000&&i.bytes.ble 1000&& !(i.size.beq 0))<;>simp only[hcnd,aB,aF] at h
       ·cases h
       ·simp only[aN,fB,aL,aP,eH,aH] at hcnd;obtain⟨⟨c1,c2⟩,c3⟩:=hcnd;split at h
        ·rename_i new hnew;cases hone:new.all hZ<;>simp only[hone,aB,aF] at h
         ·cases h
         ·obtain⟨v',w',r1,r2⟩:=jvc (P:=P) (ty:=ty) hu hi h2 hzc huu rfl (by omega) c2 hl0 c1 hk0 hnew hone h (hg _ _ hx) (hg _ _ hy) hr hf hro;refine .inl ⟨v',w',bgo .append Builtin.append_ v' w' (λ_ _ _=>rfl) rfl ?_,r2⟩;have e1:args.map e=#[e x,e y]:=by
           apply uA;simp[ha]
          rw[e1];have e2:argTypes[0]?=some t:=by rw[<-lZ,ht];rfl
          have e3:argTypes[1]?=some u:=by rw[<-lZ,ht];rfl
          rw[<-r1];unfold Builtin.append_;rw[e2,e3];rfl
        ·cases h
      ·cases h
     split at hc
     ·rename_i i e2 zs hi huu hz;split at hc
      ·rename_i hzl;simp only[fS,dN,aG] at hc;obtain⟨x',hx,y',hy,rfl⟩:=hc;exact key i zs hi hz (.inl ⟨e2,huu⟩) (by simpa using hzl) ⟨x',y',hx,hy,rfl⟩
      ·cases hc
     ·rename_i i zs hi huu hz;split at hc
      ·rename_i hzl;simp only[fS,dN,aG] at hc;obtain⟨x',hx,y',hy,rfl⟩:=hc;exact key i zs hi hz (.inr huu) (by simpa using hzl) ⟨x',y',hx,hy,rfl⟩
      ·cases hc
     ·cases hc
    ·cases hc
   ·cases hc
  ·
   rename_i a0 t0 heq;cases heq;split at hc
   ·rename_i x y t us ha ht;split at hc
    ·rename_i el hu;simp only[fS,dN,aG] at hc;obtain⟨s,hs,x',hx,y',hy,rfl⟩:=hc;obtain⟨i,d,k1,k2,rfl⟩:=qV hs;have kx:=hg _ _ hx;have ky:=hg _ _ hy;have e1:args.map e=#[e x,e y]:=by
      apply uA;simp[ha]
     have e2:argTypes[0]?=some t:=by rw[<-lZ,ht];rfl
     simp only[hop] at h;split at h
     ·rename_i k0 b o len cap z hk0 hq;rw[hq] at kx;simp only[VR] at kx;obtain⟨lc,c,off,l1,l2,l3,l4,l5,l6⟩:=kx;have hlY:=jdq (P:=P) w hk0 ky;have hmin:(bif k0.ble len then k0 else len)=Nat.min k0 len:=by
       rw[aP];show _=min k0 len;by_cases hkl:k0<=len
       ·simp[hkl,oL hkl]
       ·simp[hkl];omega
      rw[hmin] at h;split at h
      ·rename_i new hnew;obtain⟨vs,v1,v2,v3⟩:=Mw (P:=P) hnew ky hr;have v3':=v3 w.drawn;have v3'':(Builtin.firstCells i.size (Nat.min k0 len) (e y)).run P w=.ok vs.toArray w:=v3';rw[aL] at h;by_cases hn0:Nat.min k0 len=0
       ·simp only[hn0,bA,aB,aG,aM] at h;obtain⟨rfl,rfl,rfl⟩:=h;have hvs:vs=[]:=yF.1 (by rw[v2,hn0];simp);refine .inl ⟨goInt (0:Nat),w,bgo .copy Builtin.copy_ _ _ (λ_ _ _=>rfl) rfl ?_,Ends.same hr (by simp[VR,goInt])⟩;rw[e1];simp only[Builtin.copy_,e2,Fv,pR,vO,cQ,run_underlying hu,cJ,l2,hlY,iM k1,v3'',hvs];simp[storeCells,hn0]
       ·simp only[hn0,bM,aF] at h;split at h
        ·rename_i ct m hb;cases hcnd:((rx ro).ble b&&z.beq i.size&&(o+Nat.min k0 len*i.size).ble m&&new.all hZ)<;>simp only[hcnd,aB,aF] at h
         ·cases h
         ·simp only[aN,aL,aP,aH] at hcnd;obtain⟨⟨⟨c1,c2⟩,c3⟩,c4⟩:=hcnd;simp only[jP,kJ,aG,aM] at h;obtain⟨rfl,rfl,rfl⟩:=h;have hoff:off=lc.base+o:=by
           have:Nat.min k0 len<=len:=Nat.min_le_right _ _;omega
          obtain⟨w',s1,s2,s3⟩:=Yv (P:=P) (nx:=nx) (o:=o) hr hb l1 c1 v1 (by have:=v1.length;omega) c4;refine .inl ⟨goInt (Nat.min k0 len:Nat),w',bgo .copy Builtin.copy_ _ _ (λ_ _ _=>rfl) rfl ?_,ρ,s3,s2,by simp[VR,goInt]⟩;rw[e1];simp only[Builtin.copy_,e2,Fv,pR,vO,cQ,run_underlying hu,cJ,l2,hlY,iM k1,v3''];rw[hoff];simp only[cQ,s1,cJ,dI]
        ·cases h
      ·cases h
     ·rename_i k0 hk0 hq;rw[hq] at kx;simp only[VR] at kx;have hlY:=jdq (P:=P) w hk0 ky;split at h
      ·rename_i new hnew;obtain⟨vs,v1,v2,v3⟩:=Mw (P:=P) hnew ky hr;have v3'':(Builtin.firstCells i.size 0 (e y)).run P w=.ok vs.toArray w:=v3 w.drawn;simp only[aG,aM] at h;obtain⟨rfl,rfl,rfl⟩:=h;refine .inl ⟨goInt (0:Nat),w,bgo .copy Builtin.copy_ _ _ (λ_ _ _=>rfl) rfl ?_,Ends.same hr (by simp[VR,goInt])⟩;rw[e1];have hm0:Nat.min k0 0=0:=Nat.min_zero k0;simp only[Builtin.copy_,e2,Fv,pR,vO,cQ,run_underlying hu,cJ,kx,hlY,iM k1,hm0,v3'',dI]
      ·cases h
     ·cases h
    ·cases hc
   ·cases hc
  ·
   rename_i f a0 t0 heq;cases heq;have hres:∀(s:Sem Next) (r:Result Next),(callFunc f (args.map e)).run P w=r->(execOp e ⟨dst,.call ⟨.value (.func f),args,argTypes⟩,ty,pos,after,guard⟩).run P w=r:=by
    rintro s r rfl;simp only[execOp,resolve,hef,Deferred.ofValue,cQ,dI,cJ,invoke];simp
   split at hc
   ·rename_i fn hfn;split at hc
    ·rename_i b hb;split at hc
     ·cases hc
     ·rename_i hname;simp only[cX] at hc;obtain⟨as,has,rfl⟩:=hc;simp only[hop,xC] at h;obtain⟨h1,h2⟩:=hcall _ _ _ _ _ _ _ _ h;have hv:=yB hg _ _ has;obtain⟨⟨fn',f1,f2,f3⟩,f4⟩:=h2 ρ w (args.map e) hr hf hro hgl hwf (by simpa using hv);exact .inr (.inr ⟨f,args.map e,hres (pure .skip) _ (Ut f1 f2 f3 _ w),f4⟩)
    ·rename_i hb;split at hc
     ·cases hc
     ·rename_i hnext;have hnext':Extern.findNext fn=none:=by simpa using hnext
      have fin:∀n as,opds gl args=some as->c=.xrow n as->
        ((n=0->Extern.find fn=some Extern.BytealgIndexByte.indexByte)/\(n=1->Extern.find fn=some Extern.BytealgCount.count)/\(fn.name== "runtime.NumGoroutine")=false)->
        OpEnds P e ⟨dst,.call ⟨.value (.func f),args,argTypes⟩,ty,pos,after,guard⟩ ρ H nx ro w v H' nx':=by
       rintro n as has rfl ⟨g0,g1,g2⟩;simp only[hop] at h;split at h
       ·rename_i v0 hv0;simp only[aG,aM] at h;obtain⟨rfl,rfl,rfl⟩:=h;have hv:=yB hg _ _ has;obtain⟨v',x1,x2,x3,x4⟩:=kat (P:=P) (w:=w) (args:=args.map e) hv0 (by simpa using hv);refine .inl ⟨v',w,hres (pure .skip) _ ?_,Ends.same hr x1⟩;rcases x4 with x4 | x4
        ·rw[run_callFunc_extern hfn g2 (by simp[hb]) hnext' (g0 x4),x2 x4];rfl
        ·rw[run_callFunc_extern hfn g2 (by simp[hb]) hnext' (g1 x4),x3 x4];rfl
       ·cases h
      split at hc
      ·rename_i hname;simp only[cX] at hc;obtain⟨as,has,rfl⟩:=hc;exact fin 0 as has rfl ⟨λ_=>jy0 hname,λh=>(by cases h),by rw[hname];decide⟩
      ·split at hc
       ·rename_i hname;simp only[cX] at hc;obtain⟨as,has,rfl⟩:=hc;exact fin 1 as has rfl ⟨λh=>(by cases h),λ_=>jyz hname,by rw[hname];decide⟩
       ·cases hc
   ·cases hc
  ·
   rename_i x a0 t0 hnf heq;cases heq;simp only[fS,dN,aG] at hc;obtain⟨x',hx,as,has,rfl⟩:=hc;have kx:=hg _ _ hx;have hv:=yB hg _ _ has;simp only[hop,xC] at h;split at h
   ·rename_i f a b hq;rw[hq] at kx;simp only[VR] at kx;obtain⟨xs,ys,l1,l2,l3⟩:=kx;obtain⟨h1,h2⟩:=hcall _ _ _ _ _ _ _ _ h;obtain⟨⟨fn',f1,f2,f3⟩,f4⟩:=h2 ρ w (xs++args.map e++ys) hr hf hro hgl hwf (by simpa using (l2.append hv).append l3);refine .inr (.inr ⟨f,xs++args.map e++ys,?_,f4⟩);simp only[execOp,resolve,l1,Deferred.ofValue,cQ,dI,cJ,invoke];exact Ut f1 f2 f3 _ w
   ·cases h
 all_goals (simp[jX] at hc)
end
end Go.Vm
