/-
  The machine's operations on memory, and calls: how they run.
  The machine's memory operations against the model's: new blocks, cells read and written.
  append, copy and their kin.
  The machine's operations on memory, and calls: the model does the same.
-/
import Derived.Test.YtldgdgacdcenkaaGreatDoorVmA3
import Derived.Lib.Bytealg
import Derived.Laws.RangeString
import Derived.Laws.IdiomStrings
set_option linter.unusedSimpArgs false
set_option linter.unusedVariables false
namespace Go.Vm
def j19 {β:Type}:List AV→Nat→Tr AV→(Tr AV→β)→β
 | [],_,t,k=>k t
 | a::l,i,t,k=>jvc a fun a=>Tr.setK a (i+1) t i fun t=>j19 l (i+1) t k
def put (l:List AV) (i:Nat) (t:Tr AV):Tr AV:=j19 l i t id
theorem jcm:∀(l:List AV) (i:Nat) (t:Tr AV) (β:Type) (k:Tr AV→β),j19 l i t k=k (put l i t)
 | [],_,_,_,_=>rfl
 | a::l,i,t,β,k=>by
   unfold put j19
   simp only[jgx,Tr.setK_eq]
   rw[jcm l,jcm l]
   rfl
theorem j9v (i:Nat) (t:Tr AV):put [] i t=t:=rfl
theorem j6r (a:AV) (l:List AV) (i:Nat) (t:Tr AV):put (a::l) i t=put l (i+1) (t.set i a):=by
 unfold put
 rw[j19,jgx,Tr.setK_eq]
 rfl
theorem jex:∀(l:List AV) (i:Nat) (t:Tr AV) (j:Nat),(put l i t).get j=if i≤j∧j<i+l.length then l[j-i]? else t.get j
 | [],i,t,j=>by rw[j9v,if_neg (by simp only[List.length_nil];omega)]
 | a::l,i,t,j=>by
   rw[j6r,jex l (i+1),Tr.get_set]
   simp only[List.length_cons]
   by_cases h1:j=i
   ·subst h1
    rw[if_neg (by omega),if_pos rfl,if_pos (by omega),Nat.sub_self]
    rfl
   ·by_cases h2:i≤j∧j<i+ (l.length+1)
    ·rw[if_pos (by omega),if_pos h2,show j-i=j-(i+1)+1 by omega]
     rfl
    ·rw[if_neg (by omega),if_neg h1,if_neg h2]
def take:Tr AV→Nat→Nat→Option (List AV)
 | _,_,0=>some []
 | t,i,n+1=>match t.get i with
   | none=>none
   | some a=>match take t (i+1) n with
     | none=>none
     | some l=>some (a::l)
theorem joa:∀(n:Nat) (t:Tr AV) (i:Nat) (l:List AV),take t i n=some l→l.length=n∧∀j,j<n→t.get (i+j)=l[j]?
 | 0,t,i,l,h=>by
   simp only[take,Option.some.injEq] at h
   subst h
   exact⟨rfl,fun j hj=>by omega⟩
 | n+1,t,i,l,h=>by
   simp only[take] at h
   split at h
   ·cases h
   ·rename_i a ha
    split at h
    ·cases h
    ·rename_i m hm
     cases h
     obtain⟨h1,h2⟩:=joa n t (i+1) m hm
     refine⟨by simp[h1],fun j hj=>?_⟩
     cases j with
     | zero=>simpa using ha
     | succ j=>rw[show i+ (j+1)=i+1+j by omega,h2 j (by omega)];rfl
def src (z:Nat) (H:Tr Blk) (n:Nat):AV→Option (List AV)
 | .nils=>bif n.beq 0 then some [] else none
 | .str s=>bif z.beq 1&&n.ble s.length then some ((s.take n).map fun c=>.int .u8 (.ofNat c)) else none
 | .sl b o len _ z'=>bif z'.beq z&&n.ble len then(match H.get b with
   | some (.cells c m)=>bif(o+n*z).ble m then take c o (n*z) else none
   | _=>none) else none
 | _=>none
def jcs:AV→Option Nat
 | .nils=>some 0
 | .str s=>some s.length
 | .sl _ _ len _ _=>some len
 | _=>none
def u8s:List AV→Option (List Nat)
 | []=>some []
 | .int .u8 (.ofNat n)::l=>bif n.ble 255 then(match u8s l with
   | some r=>some (n::r)
   | none=>none) else none
 | _=>none
abbrev Mem:=Tr Blk×Nat
abbrev Out:=Option (AV×Tr Blk×Nat)
def kfi (k:Blk) (v:Nat→AV) (H:Tr Blk) (nx:Nat):Out:=
 Tr.setK k (nx+1) H nx fun H=>jgw (nx+1) fun nx'=>some (v nx,H,nx')
def kbu (b:Nat) (k:Blk) (v:AV) (H:Tr Blk) (nx:Nat):Out:=
 Tr.setK k (b+1) H b fun H=>some (v,H,nx)
def jda (l:List AV) (v:Nat→AV) (H:Tr Blk) (nx:Nat):Out:=
 j19 l 0 .e fun c=>jgw l.length fun n=>kfi (.cells c n) v H nx
def jbn (z:Nat) (ro:Nat) (H:Tr Blk) (nx:Nat) (x:AV) (k:Nat) (new:List AV):Out:=
 match x with
 | .nils=>bif k.beq 0 then some (.nils,H,nx) else jda new (fun b=>.sl b 0 k none z) H nx
 | .sl b o len cap z'=>
   bif !(z'.beq z) then none else
   bif k.beq 0 then some (x,H,nx) else
   match H.get b with
   | some (.cells c m)=>
     let need:=len+k
     bif(match cap with | some cp=>need.ble cp | none=>(o+need*z).ble m) then
      (bif(rx ro).ble b&&(o+need*z).ble m then j19 new (o+len*z) c fun c=>kbu b (.cells c m) (.sl b o need cap z) H nx else none)
     else match src z H len x with
      | none=>none
      | some old=>match cap with
        | some _=>jda (old++new) (fun b=>.sl b 0 need none z) H nx
        | none=>bif(rx ro).ble b then Tr.delK H b fun H=>jda (old++new) (fun b=>.sl b 0 need none z) H nx else none
   | _=>none
 | _=>none
section
variable (call:FuncId→List AV→Tr Blk→Nat→Nat→Out) (ro:Nat) (g:Opd→AV) (H:Tr Blk) (nx:Nat)
def jvn (c:Nat):List Nat→Nat→Nat
 | [],n=>n
 | x::l,n=>bif x.beq c then jvn c l (n+1) else jvn c l n
def jzj (c:Nat):List Nat→Int
 | []=> -1
 | x::l=>bif x.beq c then 0 else match jzj c l with
   | .ofNat n=>.ofNat (n+1)
   | .negSucc _=> -1
def xrow (name:Nat) (args:List AV):Option AV:=
 match args with
 | [.str s,.int .u8 (.ofNat c)]=>bif c.ble 255 then(match name with
   | 0=>some (.int .i64 (jzj c s))
   | 1=>some (.int .i64 (.ofNat (jvn c s 0)))
   | _=>none) else none
 | _=>none
def hop:I→Out
 | .box x=>jda (jbz (g x)) (fun b=>.ptr b 0) H nx
 | .alloc z=>jda z (fun b=>.ptr b 0) H nx
 | .bsl z n zs ps=>bif z.beq 0|| !((n*z).ble 1000000) then none else match jv9 zs (ps.map fun(o,s,x)=>(o,s,g x)) with
   | some l=>bif l.length.beq (n*z) then jda l (fun b=>.sl b 0 n (some n) z) H nx else none
   | none=>none
 | .load agg n x=>match g x with
   | .ptr b o=>match H.get b with
     | some (.cells c m)=>bif(o+n).ble m then(match take c o n with
       | some l=>match mkv agg l with
         | some v=>some (v,H,nx)
         | none=>none
       | none=>none) else none
     | _=>none
   | _=>none
 | .store n x v=>match g x with
   | .ptr b o=>match H.get b with
     | some (.cells c m)=>bif(rx ro).ble b&&(o+n).ble m&&(jbz (g v)).length.beq n&&(jbz (g v)).all jnz then
        j19 (jbz (g v)) o c fun c=>kbu b (.cells c m) (.tup []) H nx else none
     | _=>none
   | _=>none
 | .slA n z x lo hi mx=>match g x with
   | .ptr b o=>match H.get b with
     | some (.cells _ m)=>bif z.beq 0|| !((o+n*z).ble m) then none else match jfx n n (lo.map g) (hi.map g) (mx.map g) with
       | some (l,h,m)=>some (.sl b (o+l*z) (h-l) (some (m-l)) z,H,nx)
       | none=>none
     | _=>none
   | _=>none
 | .app z bytes x y=>match jcs (g y),jcs (g x) with
   | some k,some len=>bif(len+k).ble 10000000&&bytes.ble 1000&& !(z.beq 0) then(match src z H k (g y) with
     | some new=>bif new.all jnz then jbn z ro H nx (g x) k new else none
     | none=>none) else none
   | _,_=>none
 | .copy z x y=>match jcs (g y),g x with
   | some k,.sl b o len _ z'=>
     let n:=bif k.ble len then k else len
     match src z H n (g y) with
     | some new=>bif n.beq 0 then some (.int .i64 0,H,nx) else match H.get b with
       | some (.cells c m)=>bif(rx ro).ble b&&z'.beq z&&(o+n*z).ble m&&new.all jnz then
          j19 new o c fun c=>kbu b (.cells c m) (.int .i64 n) H nx else none
       | _=>none
     | none=>none
   | some _,.nils=>match src z H 0 (g y) with
     | some _=>some (.int .i64 0,H,nx)
     | none=>none
   | _,_=>none
 | .mksl z bytes zs l c=>match g l,g c with
   | .int _ (.ofNat l),.int _ (.ofNat c)=>bif l.ble c&&c.ble 1000000&&bytes.ble 1000&& !(z.beq 0)&&zs.length.beq z then
       jda (List.replicate c zs).flatten (fun b=>.sl b 0 l (some c) z) H nx else none
   | _,_=>none
 | .b2s x=>match g x with
   | .nils=>some (.str [],H,nx)
   | .sl b o len _ z=>match H.get b with
     | some (.cells c m)=>bif z.beq 1&&(o+len).ble m then(match take c o len with
       | some l=>match u8s l with
         | some s=>jph s fun s=>some (.str s,H,nx)
         | none=>none
       | none=>none) else none
     | _=>none
   | _=>none
 | .s2b _=>none
 | .range x=>match g x with
   | .str s=>kfi (.iter s 0) (fun b=>.ptr b 0) H nx
   | _=>none
 | .next x=>match g x with
   | .ptr b 0=>match H.get b with
     | some (.iter s pos)=>match s[pos]? with
       | some c=>bif(rx ro).ble b&&c.ble 127 then jgw (pos+1) fun p=>kbu b (.iter s p) (.tup [.bool true,.int .i64 (.ofNat pos),.int .i32 (.ofNat c)]) H nx else none
       | none=>some (.tup [.bool false],H,nx)
     | _=>none
   | _=>none
 | .call f args=>jvb (args.map g) fun as=>call f as H nx ro
 | .calld f args=>match g f with
   | .fn (.func f) a b=>jvb (a++args.map g++b) fun as=>call f as H nx ro
   | _=>none
 | .xrow name args=>match xrow name (args.map g) with
   | some v=>some (v,H,nx)
   | none=>none
 | _=>none
end
section compile
variable (P:Program) (gl:List Nat)
def j6u (s:Nat) (ps:List (Nat×Operand)):Option (List (Nat×Nat×Opd)):=jka gl (fun i=>some (i*s,s)) ps
def j3p:String:=match Extern.BytealgIndexByte.rows with | [_,x]=>x.1 | _=> ""
def j3q:String:=match Extern.BytealgCount.rows with | [_,x]=>x.1 | _=> ""
def jvo:Op→Option I
 | .box t x=>(opd gl x).map .box
 | .alloc t=>(jr3 P t).map .alloc
 | .buildSlice t len ps=>match P.underlying t with
   | some (.slice e)=>do
     let s ←lay P e
     let z ←jr3 P e
     if z.length=s.1 then some (.bsl s.1 len (List.replicate len z).flatten (←j6u gl s.1 ps.toList)) else none
   | _=>none
 | .load t x=>do
   let s ←lay P t
   (opd gl x).map (.load s.2 s.1)
 | .store t x v=>do
   let s ←lay P t
   some (.store s.1 (←opd gl x) (←opd gl v))
 | .slice t x lo hi mx=>match P.underlying t with
   | some (.array n e)=>if 1000000<n then none else do
     let s ←lay P e
     some (.slA n s.1 (←opd gl x) (←j3j gl lo) (←j3j gl hi) (←j3j gl mx))
   | _=>none
 | .call { callee:=.builtin .append,args,argTypes }=>match args.toList,argTypes.toList with
   | [x,y],t::u::_=>match P.underlying t with
     | some (.slice e)=>match P.info? e,P.underlying u,jr3 P e with
       | some i,some (.slice _),some zs | some i,some .string,some zs=>if zs.length==i.size then do some (.app i.size i.bytes (←opd gl x) (←opd gl y)) else none
       | _,_,_=>none
     | _=>none
   | _,_=>none
 | .call { callee:=.builtin .copy,args,argTypes }=>match args.toList,argTypes.toList with
   | [x,y],t::_=>match P.underlying t with
     | some (.slice e)=>do
       let s ←lay P e
       some (.copy s.1 (←opd gl x) (←opd gl y))
     | _=>none
   | _,_=>none
 | .makeSlice t l c=>match P.underlying t with
   | some (.slice e)=>match P.info? e with
     | some i=>do some (.mksl i.size i.bytes (←jr3 P e) (←opd gl l) (←opd gl c))
     | none=>none
   | _=>none
 | .convert s t x=>match P.underlying s,P.underlying t with
   | some (.slice e),some .string=>match P.underlying e with
     | some (.int .u8)=>(opd gl x).map .b2s
     | _=>none
   | some .string,some (.slice e)=>match P.underlying e with
     | some (.int .u8)=>(opd gl x).map .s2b
     | _=>none
   | _,_=>none
 | .range t x=>match P.underlying t with
   | some .string=>(opd gl x).map .range
   | _=>none
 | .next x true=>(opd gl x).map .next
 | .call { callee:=.value (.func f),args, .. }=>match P.funcs[f]? with
   | some fn=>match fn.body with
     | some _=>if fn.name== "runtime.NumGoroutine" then none else(opds gl args).map (.call f)
     | none=>if(Extern.findNext fn).isSome then none
       else if fn.name=j3p then(opds gl args).map (.xrow 0)
       else if fn.name=j3q then(opds gl args).map (.xrow 1) else none
   | none=>none
 | .call { callee:=.value x,args, .. }=>do some (.calld (←opd gl x) (←opds gl args))
 | _=>none
inductive J where
 | p (i:I)
 | h (i:I)
def cop (o:Op):Option J:=match jno P gl o with
 | some c=>some (.p c)
 | none=>(jvo P gl o).map .h
end compile
end Go.Vm
namespace Go.Vm
section
variable {P:Program} {ρ:RM}
theorem jxb {k:Blk} {v:Nat→AV} {H:Tr Blk} {nx:Nat}:kfi k v H nx=some (v nx,H.set nx k,nx+1):=by
 unfold kfi
 rw[Tr.setK_eq,je5]
 rfl
theorem jdr {b:Nat} {k:Blk} {v:AV} {H:Tr Blk} {nx:Nat}:kbu b k v H nx=some (v,H.set b k,nx):=by
 unfold kbu
 rw[Tr.setK_eq]
 rfl
theorem jaq {l:List AV} {v:Nat→AV} {H:Tr Blk} {nx:Nat}:jda l v H nx=some (v nx,H.set nx (.cells (put l 0 .e) l.length),nx+1):=by
 unfold jda
 rw[jcm,je5,jxb]
theorem jip {H:Tr Blk} {w:World} {nx ro:Nat} {l:List AV} {cs:Array Value} {elem:TypeId} {fr:Nat×Nat} {lim:Nat} (h:HR ρ H w) (hn:ρ nx=none) (hro:ro≤nx)
  (hl:VRs ρ l (cs.toList.take l.length)) (h1:l.length≤lim) (h2:lim≤cs.size) (h3:∀i,¬(fr.1≤i∧i<fr.2)):
  HR (ρ.upd nx ⟨w.heap.size,0,lim⟩) (H.set nx (.cells (put l 0 .e) l.length)) (w.alloc (.cells cs elem fr))∧
   Step ρ H nx ro w (ρ.upd nx ⟨w.heap.size,0,lim⟩) (H.set nx (.cells (put l 0 .e) l.length)) (nx+1) (w.alloc (.cells cs elem fr)):=by
 refine h.alloc hn _ _ _ rfl ?_ hro
 refine⟨cs,elem,fr,?_,by simpa using h1,h2,fun i _ _=>h3 i,fun i hi=>?_⟩
 ·show(w.heap.push _)[w.heap.size]?=_
  simp
 ·obtain⟨a,ha⟩:∃a,l[i]?=some a:=⟨l[i],by simp[hi]⟩
  obtain⟨v,hv,hr⟩:=hl.get ha
  refine⟨a,v,?_,?_,VR.mono (RM.le_upd hn) _ _ hr⟩
  ·rw[jex,if_pos (by omega),Nat.sub_zero,ha]
  ·rw[List.getElem?_take,if_pos hi] at hv
   simpa using hv
theorem jgy {H:Tr Blk} {w:World} {b o n m:Nat} {c:Tr AV} {l:List AV} {lc:Loc} (h:HR ρ H w) (hb:H.get b=some (.cells c m)) (hl:ρ b=some lc) (hn:o+n≤m) (ht:take c o n=some l):
  ∃vs:List Value,VRs ρ l vs∧vs.length=n∧(∀j v,vs[j]?=some v→w.cell? ((⟨lc.blk,lc.base+o,none⟩:Addr).add j)=some v)∧(loadCells ⟨lc.blk,lc.base+o,none⟩ n).run P w=.ok vs.toArray w:=by
 obtain⟨cs,elem,fr,h1,h2,h3,h4,h5⟩:=h.blk b _ lc hb hl
 obtain⟨t1,t2⟩:=joa n c o l ht
 have hsz:lc.base+m≤cs.size:=by omega
 refine⟨(cs.toList.drop (lc.base+o)).take n,?_,by simp;omega,?_,?_⟩
 ·rw[jhl]
  refine⟨by simp;omega,fun i a v ha hv=>?_⟩
  have hi:i<n:=by rw[←t1];exact(List.getElem?_eq_some_iff.1 ha).1
  obtain⟨a',v',h6,h7,h8⟩:=h5 (o+i) (by omega)
  rw[t2 i hi,ha] at h6
  cases h6
  rw[List.getElem?_take,if_pos hi,List.getElem?_drop] at hv
  have:cs[lc.base+ (o+i)]?=some v:=by rw[←hv];simp[Nat.add_assoc]
  rw[h7] at this
  cases this
  exact h8
 ·intro j v hv
  rw[jfb]
  rw[List.getElem?_take] at hv
  split at hv
  ·rw[List.getElem?_drop] at hv
   simp only[World.cell?,h1,Option.isSome_none,Bool.false_eq_true,if_false]
   simpa[Nat.add_assoc] using hv
  ·cases hv
 ·have jbj:((cs.toList.drop (lc.base+o)).take n).length=n:=by simp;omega
  have:=run_loadCells_list (P:=P) w ⟨lc.blk,lc.base+o,none⟩ ((cs.toList.drop (lc.base+o)).take n) (fun j v hv=>by
   rw[jfb]
   rw[List.getElem?_take] at hv
   split at hv
   ·rw[List.getElem?_drop] at hv
    simp only[World.cell?,h1,Option.isSome_none,Bool.false_eq_true,if_false]
    simpa[Nat.add_assoc] using hv
   ·cases hv)
  rwa[jbj] at this
theorem setCells_facts (b:Nat):∀(vs:List Value) (o:Nat) (w:World) (cs:Array Value) (elem:TypeId) (fr:Nat×Nat),w.heap[b]?=some (.cells cs elem fr)→
  (w.setCells b o vs).os=w.os∧(w.setCells b o vs).tape=w.tape∧(w.setCells b o vs).output=w.output∧(w.setCells b o vs).heap.size=w.heap.size∧
    (∀x,x≠b→(w.setCells b o vs).heap[x]?=w.heap[x]?)∧
    ∃cs',(w.setCells b o vs).heap[b]?=some (.cells cs' elem fr)∧cs'.size=cs.size∧∀j,j<cs.size→cs'[j]?=if o≤j∧j<o+vs.length then vs[j-o]? else cs[j]?
 | [],o,w,cs,elem,fr,h=>⟨rfl,rfl,rfl,rfl,fun _ _=>rfl,cs,h,rfl,fun j _=>by rw[if_neg (by simp only[List.length_nil];omega)]⟩
 | v::vs,o,w,cs,elem,fr,h=>by
   have h0:(w.setCell ⟨b,o,none⟩ v).heap[b]?=some (.cells (cs.setIfInBounds o v) elem fr):=by
    simp only[World.setCell,Array.getElem?_modify,if_true,h]
    simp
   obtain⟨a1,a2,a3,a4,a5,cs',a6,a7,a8⟩:=setCells_facts b vs (o+1) (w.setCell ⟨b,o,none⟩ v) _ elem fr h0
   refine⟨a1,a2,a3,by rw[World.setCells,a4];simp[World.setCell],fun x hx=>?_,cs',a6,by simpa using a7,fun j hj=>?_⟩
   ·rw[World.setCells,a5 x hx]
    exact Go.RowKit.Below.heap_setCell w ⟨b,o,none⟩ v x hx
   ·rw[a8 j (by simpa using hj)]
    simp only[List.length_cons,Array.getElem?_setIfInBounds]
    by_cases h1:j=o
    ·subst h1
     rw[if_neg (by omega),if_pos rfl,if_pos hj,if_pos (by omega),Nat.sub_self]
     rfl
    ·by_cases h2:o≤j∧j<o+ (vs.length+1)
     ·rw[if_pos (by omega),if_pos h2,show j-o=j-(o+1)+1 by omega]
      rfl
     ·rw[if_neg (by omega),if_neg (by omega),if_neg h2]
theorem jkq {H:Tr Blk} {w:World} {nx ro b o m:Nat} {c:Tr AV} {l:List AV} {vs:List Value} {lc:Loc} (h:HR ρ H w) (hb:H.get b=some (.cells c m)) (hl:ρ b=some lc) (hro:rx ro≤b)
  (hv:VRs ρ l vs) (hn:o+l.length≤m) (h1:l.all jnz=true):
  ∃w',(storeCells ⟨lc.blk,lc.base+o,none⟩ vs).run P w=.ok () w'∧HR ρ (H.set b (.cells (put l o c) m)) w'∧Step ρ H nx ro w ρ (H.set b (.cells (put l o c) m)) nx w':=by
 obtain⟨cs,elem,fr,k1,k2,k3,k4,k5⟩:=h.blk b _ lc hb hl
 have jbj:=hv.length
 obtain⟨a1,a2,a3,a4,a5,cs',a6,a7,a8⟩:=setCells_facts lc.blk vs (lc.base+o) w cs elem fr k1
 refine⟨w.setCells lc.blk (lc.base+o) vs,?_,?_⟩
 ·have:=run_storeCells_cells (P:=P) lc.blk (lc.base+o) vs 0 w (fun j hj=>?_) (fun j hj=>?_) (fun v hv'=>?_)
  ·simpa using this
  ·simp only[World.cell?,k1,Option.isSome_none,Bool.false_eq_true,if_false,Nat.add_zero]
   rw[Array.getElem?_eq_getElem (by omega)]
   rfl
  ·have:=k4 (lc.base+o+j) (by omega) (fun _=>by omega)
   simp only[World.frozen?,k1,Nat.add_zero]
   simp only[Bool.and_eq_false_iff,decide_eq_false_iff_not]
   omega
  ·obtain⟨j,hj⟩:=List.getElem?_of_mem hv'
   have hjl:j<l.length:=by rw[jbj];exact(List.getElem?_eq_some_iff.1 hj).1
   obtain⟨v2,h2,h3⟩:=hv.get (i:=j) (a:=l[j]) (by simp[hjl])
   rw[hj] at h2
   cases h2
   rw[h3.one]
   exact List.all_eq_true.1 h1 _ (List.getElem_mem hjl)
 ·refine h.write _ lc (by rw[hb];rfl) hl hro a1 a2 a3 a4 a5 ?_
  refine⟨cs',elem,fr,a6,k2,by omega,k4,fun i hi=>?_⟩
  rw[jex,a8 _ (by omega)]
  by_cases hc:o≤i∧i<o+l.length
  ·rw[if_pos hc,if_pos (by omega)]
   obtain⟨v2,h2,h3⟩:=hv.get (i:=i-o) (a:=l[i-o]) (by rw[List.getElem?_eq_getElem])
   refine⟨l[i-o],v2,by rw[List.getElem?_eq_getElem],?_,h3⟩
   rw[show lc.base+i-(lc.base+o)=i-o by omega]
   exact h2
  ·rw[if_neg hc,if_neg (by omega)]
   exact k5 i hi
end
end Go.Vm
namespace Go.Vm
section
variable {P:Program} {ρ:RM}
theorem jh5 {a:AV} {v:Value} {n:Nat} (w:World) (h:jcs a=some n) (hv:VR ρ a v):(Builtin.lenOf v).run P w=.ok n w:=by
 unfold jcs at h
 split at h<;>try (cases h;done)
 all_goals cases h
 all_goals simp only[VR] at hv
 ·subst hv;rfl
 ·obtain⟨bs,rfl,rfl⟩:=hv
  simp[Builtin.lenOf]
 ·obtain⟨l,c,off,_,rfl,_⟩:=hv
  rfl
theorem jh4 {z n:Nat} {H:Tr Blk} {a:AV} {v:Value} {l:List AV} {w:World} (h:src z H n a=some l) (hv:VR ρ a v) (hr:HR ρ H w):
  ∃vs:List Value,VRs ρ l vs∧vs.length=n*z∧∀d,(Builtin.firstCells z n v).run P { w with drawn:=d }=.ok vs.toArray { w with drawn:=d }:=by
 unfold src at h
 split at h
 ·simp only[VR] at hv
  subst hv
  rw[jab] at h
  by_cases hn:n=0
  ·simp only[hn,decide_true,cond_true,Option.some.injEq] at h
   subst h
   exact⟨[],rfl,by simp[hn],fun d=>rfl⟩
  ·simp[hn] at h
 ·rename_i s
  simp only[VR] at hv
  obtain⟨bs,rfl,rfl⟩:=hv
  rw[jab,jad] at h
  by_cases hn:z=1∧n≤bs.size
  ·have hn2:n≤(bs.data.toList.map UInt8.toNat).length:=by simpa using hn.2
   simp only[hn.1,hn2,decide_true,Bool.and_self,cond_true,Option.some.injEq] at h
   subst h
   refine⟨(bs.data.toList.take n).map fun b=>.int .u8 (b.toNat:Int),?_,?_,fun d=>?_⟩
   ·rw[jhl]
    refine⟨by simp,fun i a v ha hv=>?_⟩
    rw[List.getElem?_map] at ha hv
    rw[←List.map_take,List.getElem?_map] at ha
    cases hq:(bs.data.toList.take n)[i]? with
    | none=>rw[hq] at hv;cases hv
    | some b=>
      rw[hq] at ha hv
      simp only[Option.map_some,Option.some.injEq] at ha hv
      subst ha;subst hv
      simp[VR]
   ·have:=hn.2;simp[hn.1];omega
   ·simp only[Builtin.firstCells,Sem.run_pure]
    congr 1
    apply Array.ext'
    simp[List.map_take]
  ·have:(decide (z=1)&&decide (n≤(bs.data.toList.map UInt8.toNat).length))=false:=by
    rw[Bool.and_eq_false_iff];simp;omega
   simp only[this,cond_false,reduceCtorEq] at h
 ·rename_i b o len cap z'
  simp only[VR] at hv
  obtain⟨lc,c,off,k1,rfl,k3,k4,k5,k6⟩:=hv
  rw[jab,jad] at h
  by_cases hn:z'=z∧n≤len
  ·simp only[hn.1,hn.2,decide_true,Bool.and_self,cond_true] at h
   split at h
   ·rename_i ct m hb
    rw[jad] at h
    by_cases hm:o+n*z≤m
    ·simp only[hm,decide_true,cond_true] at h
     obtain⟨vs,r1,r2,r3,r4⟩:=jgy (P:=P) hr hb k1 hm h
     refine⟨vs,r1,r2,fun d=>?_⟩
     simp only[Builtin.firstCells]
     by_cases hn0:n=0
     ·subst hn0
      have:vs=[]:=List.length_eq_zero_iff.1 (by simpa using r2)
      subst this
      simp[loadCells,loadCellsFrom]
     ·have:off=lc.base+o:=by omega
      subst this
      have:=run_loadCells_list (P:=P) { w with drawn:=d } ⟨lc.blk,lc.base+o,none⟩ vs (fun j v hv=>r3 j v hv)
      rwa[r2] at this
    ·simp[hm] at h
   ·cases h
  ·have:(decide (z'=z)&&decide (n≤len))=false:=by
    rw[Bool.and_eq_false_iff];simp;omega
   simp[this] at h
 ·cases h
theorem ju8 (newLen:Nat):∀(r c:Nat),c≤2*newLen+400→Builtin.growBy newLen r c≤2*newLen+400
 | 0,c,h=>h
 | r+1,c,h=>by
   simp only[Builtin.growBy]
   split
   ·exact h
   ·exact ju8 newLen r _ (by omega)
theorem j00 {newLen oldCap:Nat} (h:oldCap<newLen):Builtin.nextslicecap newLen oldCap≤2*newLen+400:=by
 unfold Builtin.nextslicecap
 split
 ·omega
 ·split
  ·omega
  ·exact ju8 _ _ _ (by omega)
theorem jp9 (zero:Array Value) (n:Nat):(Builtin.zeroCells zero n).size=n*zero.size:=by simp[Builtin.zeroCells]
def Ends (ρ:RM) (H:Tr Blk) (nx ro:Nat) (w:World) (v:AV) (H':Tr Blk) (nx':Nat) (v':Value) (w':World):Prop:=
 ∃ρ',Step ρ H nx ro w ρ' H' nx' w'∧HR ρ' H' w'∧VR ρ' v v'
theorem jv5 {t u e:TypeId} {i:TypeInfo} {zv:Value} {ty:TypeId} {z ro k len:Nat} {H H':Tr Blk} {nx nx':Nat} {x y r:AV} {new:List AV} {X Y:Value} {w:World}
  (hu:P.underlying t=some (.slice e)) (hi:P.info? e=some i) (hz:i.zero=some zv) (hzs:zv.cells.size=i.size) (huu:(∃e2,P.underlying u=some (.slice e2))∨P.underlying u=some .string)
  (hsz:z=i.size) (hz0:0<z) (hby:i.bytes≤1000) (jbj:jcs x=some len) (hlim:len+k≤10000000) (hk:jcs y=some k)
  (hs:src z H k y=some new) (h1:new.all jnz=true) (h:jbn z ro H nx x k new=some (r,H',nx')) (hx:VR ρ x X) (hy:VR ρ y Y) (hr:HR ρ H w) (hn:Free ρ nx nx') (hro:ro≤nx):
  ∃v' w',(Builtin.append_ #[t,u] ty #[X,Y]).run P w=.ok v' w'∧Ends ρ H nx ro w r H' nx' v' w':=by
 subst hsz
 obtain⟨vs,v1,v2,v3⟩:=jh4 (P:=P) hs hy hr
 have hlenY:=jh5 (P:=P) w hk hy
 have hnl:=v1.length
 have hzer:∀w:World,((do match (some u:Option TypeId) with
  | some xType=>do pure ((←underlying xType) matches .int _)
  | none=>pure false:Sem Bool)).run P w=.ok false w:=by
  intro w
  rcases huu with⟨e2,huu⟩ | huu<;>simp[run_underlying huu]
 have v3':(Builtin.firstCells i.size k Y).run P w=.ok vs.toArray w:=v3 w.drawn
 have grow:∀(s base sLen sCap) (old:List AV) (olds:List Value),X=.slice base sLen sCap→s=X→sLen=len→sCap<len+k→VRs ρ old olds→olds.length=sLen*i.size→
   (∀d,(Builtin.firstCells i.size sLen X).run P { w with drawn:=d }=.ok olds.toArray { w with drawn:=d })→
   ∃(newCap:Nat) (cs:Array Value) (d:Nat),(len+k≤newCap∧newCap<9223372036854775808)∧cs.size=newCap*i.size∧VRs ρ (old++new) (cs.toList.take (old++new).length)∧
    (Builtin.append_ #[t,u] ty #[X,Y]).run P w=.ok (.slice (some ⟨w.heap.size,0,none⟩) (len+k) newCap) (World.alloc { w with drawn:=d } (.cells cs e)):=by
  rintro s base sLen sCap old olds rfl _ rfl hcap ho hol hf
  have hol':=ho.length
  refine⟨(Question.appendCap (sLen+k) sCap e).cut (w.tape w.drawn (.appendCap (sLen+k) sCap e)),(olds++vs++(Builtin.zeroCells zv.cells ((Question.appendCap (sLen+k) sCap e).cut (w.tape w.drawn (.appendCap (sLen+k) sCap e))-(sLen+k))).toList).toArray,w.drawn+1,?_,?_,?_,?_⟩
  ·have:=Nat.mod_lt (w.tape w.drawn (.appendCap (sLen+k) sCap e)) (show 0<2^63-(sLen+k) by omega)
   simp only[Question.cut];omega
  ·have h9:sLen+k≤(Question.appendCap (sLen+k) sCap e).cut (w.tape w.drawn (.appendCap (sLen+k) sCap e)):=by simp only[Question.cut];omega
   generalize (Question.appendCap (sLen+k) sCap e).cut (w.tape w.drawn (.appendCap (sLen+k) sCap e))=N at *
   simp only[List.size_toArray,List.length_append,Array.length_toList,jp9,hzs,hol,v2,←Nat.add_mul]
   congr 1
   omega
  ·have:(old++new).length=(olds++vs).length:=(ho.append v1).length
   rw[this]
   rw[List.take_left' (by simp)]
   exact ho.append v1
  ·have hneed:¬(sLen+k≤sCap):=by omega
   have hnc:¬(Builtin.nextslicecap (sLen+k) sCap*i.bytes > 2^48):=by
    have h5:=j00 hcap
    have h6:Builtin.nextslicecap (sLen+k) sCap*i.bytes≤(2* (sLen+k)+400)*1000:=Nat.mul_le_mul h5 hby
    omega
   have hmx:¬(((sLen+k:Nat):Int) > IntKind.i64.max):=by
    simp[IntKind.max,IntKind.signed,IntKind.bits];omega
   have hf':=hf (w.drawn+1)
   have v3'':=v3 (w.drawn+1)
   rcases huu with⟨e2,huu⟩ | huu
   all_goals
    simp only[Builtin.append_,List.getElem?_toArray,List.getElem?_cons_zero,List.getElem?_cons_succ,Sem.run_bind,run_underlying hu,run_underlying huu,Result.andThen_ok,jbb hi,Sem.run_pure,Bool.false_eq_true,if_false,hlenY,hneed,Sem.run_ite,jnw hi,hnc,hmx,false_and,run_choose,Question.forced,run_askRoom,hf',Bool.not_false,if_true,v3'',ji4 hi hz,newRow,run_newObj]
    congr 4
    apply Array.ext'
    simp
 have room:∀(base sLen sCap) (w':World),X=.slice base sLen sCap→sLen=len→len+k≤sCap→
   (match base with | some a=>(storeCells (a.add (len*i.size)) vs).run P w=.ok () w' | none=>w'=w)→
   (Builtin.append_ #[t,u] ty #[X,Y]).run P w=.ok (.slice base (len+k) sCap) w':=by
  rintro base sLen sCap w' rfl rfl hcap hst
  rcases huu with⟨e2,huu⟩ | huu
  all_goals
   simp only[Builtin.append_,List.getElem?_toArray,List.getElem?_cons_zero,List.getElem?_cons_succ,Sem.run_bind,run_underlying hu,run_underlying huu,Result.andThen_ok,jbb hi,Sem.run_pure,Bool.false_eq_true,if_false,hlenY,hcap,Sem.run_ite,if_true,Bool.not_false,v3']
   cases base with
   | none=>simp only at hst;subst hst;simp
   | some a=>simp only at hst;simp[hst]
 have grown:∀(base sLen sCap) (old:List AV) (olds:List Value),X=.slice base sLen sCap→sLen=len→sCap<len+k→VRs ρ old olds→olds.length=sLen*i.size→
   (∀d,(Builtin.firstCells i.size sLen X).run P { w with drawn:=d }=.ok olds.toArray { w with drawn:=d })→ρ nx=none→
   ∀(H2:Tr Blk),(∀b,(H2.get b).isSome→H2.get b=H.get b)→(∀b,b<ro→b<nx→H2.get b=H.get b)→
   ∃v' w',(Builtin.append_ #[t,u] ty #[X,Y]).run P w=.ok v' w'∧
    Ends ρ H nx ro w (.sl nx 0 (len+k) none i.size) (H2.set nx (.cells (put (old++new) 0 .e) (old++new).length)) (nx+1) v' w':=by
  intro base sLen sCap old olds e1 e2 hcap ho hol hf hnn H2 hH2 hH2o
  obtain⟨N,cs,d,g1,g2,g3,g4⟩:=grow X base sLen sCap old olds e1 rfl e2 hcap ho hol hf
  refine⟨_,_,g4,?_⟩
  have hr2:HR ρ H2 { w with drawn:=d }:=by
   refine⟨fun b k l hb hl=>?_,fun b b' l l' hb hb'=>?_⟩
   ·exact(hr.drew d).blk b k l (by rw[←hH2 b (by rw[hb];rfl)];exact hb) hl
   ·exact hr.inj b b' l l' (by rw[←hH2 b hb];exact hb) (by rw[←hH2 b' hb'];exact hb')
  have st:Step ρ H nx ro w ρ H2 nx { w with drawn:=d }:=
   ⟨rfl,rfl,rfl,Nat.le_refl _,Nat.le_refl _,fun _ _=>rfl,fun _ _ _=>rfl,fun b l h h'=>by omega,fun b hb=>.inr (by rw[←hH2 b hb];exact hb),hH2o⟩
  have hll:(old++new).length=(len+k)*i.size:=by
   rw[(ho.append v1).length,List.length_append,hol,v2,e2,Nat.add_mul]
  have hle:(len+k)*i.size≤N*i.size:=Nat.mul_le_mul_right _ g1.1
  have:=jip (elem:=e) (fr:=(0,0)) (lim:=N*i.size) hr2 hnn hro g3 (by omega) (by omega) (fun j=>by omega)
  refine⟨_,st.trans this.2,this.1,?_⟩
  simp only[VR]
  exact⟨⟨w.heap.size,0,N*i.size⟩,N,0,by simp[RM.upd],rfl,g1.1,hz0,.inl rfl,.inr ⟨trivial,by simp,g1.2⟩⟩
 cases x
 case nils=>
  simp only[VR] at hx
  simp only[jcs,Option.some.injEq] at jbj
  subst jbj
  simp only[jbn,jab] at h
  by_cases hk0:k=0
  ·simp only[hk0,decide_true,cond_true,Option.some.injEq,Prod.mk.injEq] at h
   obtain⟨rfl,rfl,rfl⟩:=h
   refine⟨_,w,room none 0 0 w hx rfl (by omega) rfl,ρ,Step.refl _ _ _ _ _,hr,?_⟩
   simp[VR,hk0]
  ·simp only[hk0,decide_false,cond_false,jaq,Option.some.injEq,Prod.mk.injEq] at h
   obtain⟨rfl,rfl,rfl⟩:=h
   have:=grown none 0 0 [] [] hx rfl (by omega) rfl (by simp) (fun d=>by rw[hx];rfl) (hn nx (Nat.le_refl _) (by omega)) H (fun _ _=>rfl) (fun _ _ _=>rfl)
   simpa using this
 case sl b o sl0 cap z'=>
  have hx0:=hx
  simp only[VR] at hx
  obtain⟨lc,c,off,k1,rfl,k3,k4,k5,k6⟩:=hx
  simp only[jcs,Option.some.injEq] at jbj
  subst jbj
  simp only[jbn,jab] at h
  by_cases hzz:z'=i.size
  ·subst hzz
   simp only[decide_true,Bool.not_true,cond_false] at h
   by_cases hk0:k=0
   ·simp only[hk0,decide_true,cond_true,Option.some.injEq,Prod.mk.injEq] at h
    obtain⟨rfl,rfl,rfl⟩:=h
    have hvs:vs=[]:=List.length_eq_zero_iff.1 (by rw[v2,hk0];simp)
    refine⟨_,w,room _ sl0 c w rfl rfl (by omega) (by simp[hvs,storeCells]),ρ,Step.refl _ _ _ _ _,hr,?_⟩
    simpa[hk0] using hx0
   ·simp only[hk0,decide_false,cond_false] at h
    split at h
    ·rename_i ct m hb
     have hlm:=hr.blk b _ lc hb k1
     have hnm:lc.base+m≤lc.lim:=by obtain⟨_,_,_,_,q,_⟩:=hlm;exact q
     have hlenl:new.length=k*i.size:=hnl.trans v2
     have hadd:sl0*i.size+k*i.size=(sl0+k)*i.size:=(Nat.add_mul _ _ _).symm
     have inplace:o+ (sl0+k)*i.size≤m→sl0+k≤c→rx ro≤b→∃v' w',(Builtin.append_ #[t,u] ty #[.slice (some ⟨lc.blk,off,none⟩) sl0 c,Y]).run P w=.ok v' w'∧
       Ends ρ H nx ro w (.sl b o (sl0+k) cap i.size) (H.set b (.cells (put new (o+sl0*i.size) ct) m)) nx v' w':=by
      intro q1 q2 q3
      have hoff:off=lc.base+o:=by omega
      subst hoff
      obtain⟨w',s1,s2,s3⟩:=jkq (P:=P) (nx:=nx) (o:=o+sl0*i.size) hr hb k1 q3 v1 (by omega) h1
      refine⟨_,w',room _ sl0 c w' rfl rfl q2 ?_,ρ,s3,s2,?_⟩
      ·simp only[jfb]
       rw[Nat.add_assoc]
       exact s1
      ·simp only[VR]
       exact⟨lc,c,_,k1,rfl,q2,k4,.inl rfl,k6⟩
     cases cap with
     | some cp=>
       have hcp:cp=c:=by
        rcases k6 with⟨q,_⟩ | ⟨q,_⟩
        ·exact Option.some.inj q
        ·cases q
       subst hcp
       simp only[jad] at h
       by_cases hfit:sl0+k≤cp
       ·simp only[hfit,decide_true,cond_true] at h
        by_cases hc2:rx ro≤b∧o+ (sl0+k)*i.size≤m
        ·simp only[hc2.1,hc2.2,decide_true,Bool.and_self,cond_true,jcm,jdr,Option.some.injEq,Prod.mk.injEq] at h
         obtain⟨rfl,rfl,rfl⟩:=h
         exact inplace hc2.2 hfit hc2.1
        ·have:(decide (rx ro≤b)&&decide (o+ (sl0+k)*i.size≤m))=false:=by
          rw[Bool.and_eq_false_iff];simp;omega
         simp only[this,cond_false,reduceCtorEq] at h
       ·simp only[hfit,decide_false,cond_false] at h
        split at h
        ·cases h
        ·rename_i old hold
         simp only[jaq,Option.some.injEq,Prod.mk.injEq] at h
         obtain⟨rfl,rfl,rfl⟩:=h
         obtain⟨olds,o1,o2,o3⟩:=jh4 (P:=P) hold hx0 hr
         exact grown _ sl0 cp old olds rfl rfl (by omega) o1 o2 o3 (hn nx (Nat.le_refl _) (by omega)) H (fun _ _=>rfl) (fun _ _ _=>rfl)
     | none=>
       have hcl2:lc.base+o+c*i.size=lc.lim∧c<9223372036854775808:=by
        rcases k6 with⟨q,_⟩ | ⟨_,q⟩
        ·cases q
        ·exact q
       have hcl:=hcl2.1
       simp only[jad] at h
       by_cases hfit:o+ (sl0+k)*i.size≤m
       ·simp only[hfit,decide_true,cond_true] at h
        by_cases hc2:rx ro≤b
        ·simp only[hc2,decide_true,Bool.and_self,cond_true,jcm,jdr,Option.some.injEq,Prod.mk.injEq] at h
         obtain⟨rfl,rfl,rfl⟩:=h
         refine inplace hfit ?_ hc2
         have:(sl0+k)*i.size≤c*i.size:=by omega
         exact Nat.le_of_mul_le_mul_right this hz0
        ·simp[hc2] at h
       ·simp only[hfit,decide_false,cond_false] at h
        split at h
        ·cases h
        ·rename_i old hold
         by_cases hc2:rx ro≤b
         ·simp only[hc2,decide_true,cond_true,Tr.delK_eq,jaq,Option.some.injEq,Prod.mk.injEq] at h
          obtain⟨rfl,rfl,rfl⟩:=h
          obtain⟨hrb,hRO⟩:=jft hc2
          have inj1:∀b' l',(H.get b').isSome→ρ b'=some l'→l'.blk=lc.blk→b'=b:=fun b' l' h1 h2 h3=>by
           rcases hr.inj b' b l' lc h1 (by rw[hb];rfl) h2 k1 h3 with h4 | h4
           ·exact h4
           ·omega
          obtain⟨olds,o1,o2,o3⟩:=jh4 (P:=P) hold hx0 hr
          have hnn:=hn nx (Nat.le_refl _) (by omega)
          have hdel:∀b',((H.del b).get b').isSome→(H.del b).get b'=H.get b':=fun b' hb'=>by
           rw[Tr.get_del] at hb' ⊢
           split at hb'
           ·cases hb'
           ·rename_i hne;rw[if_neg hne]
          have hdelo:∀b',b'<ro→b'<nx→(H.del b).get b'=H.get b':=fun b' h1 _=>by
           rw[Tr.get_del,if_neg (by omega)]
          by_cases hcap:sl0+k≤c
          ·
           have hoff:off=lc.base+o:=by omega
           subst hoff
           obtain⟨cs,elem,fr,q1,q2,q3,q4,q5⟩:=hlm
           have hmul:(sl0+k)*i.size≤c*i.size:=Nat.mul_le_mul_right _ hcap
           obtain⟨a1,a2,a3,a4,a5,cs',a6,a7,a8⟩:=setCells_facts lc.blk vs (lc.base+o+sl0*i.size) w cs elem fr q1
           have hst:(storeCells ⟨lc.blk,lc.base+o+sl0*i.size,none⟩ vs).run P w=.ok () (w.setCells lc.blk (lc.base+o+sl0*i.size) vs):=by
            have:=run_storeCells_cells (P:=P) lc.blk (lc.base+o+sl0*i.size) vs 0 w (fun j hj=>?_) (fun j hj=>?_) (fun v hv'=>?_)
            ·simpa using this
            ·simp only[World.cell?,q1,Option.isSome_none,Bool.false_eq_true,if_false,Nat.add_zero]
             rw[Array.getElem?_eq_getElem (by omega)]
             rfl
            ·have:=q4 (lc.base+o+sl0*i.size+j) (by omega) (fun _=>by omega)
             simp only[World.frozen?,q1,Nat.add_zero]
             simp only[Bool.and_eq_false_iff,decide_eq_false_iff_not]
             omega
            ·obtain⟨j,hj⟩:=List.getElem?_of_mem hv'
             have hjl:j<new.length:=by rw[hnl];exact(List.getElem?_eq_some_iff.1 hj).1
             obtain⟨v2',h2,h3⟩:=v1.get (i:=j) (a:=new[j]) (by simp[hjl])
             rw[hj] at h2
             cases h2
             rw[h3.one]
             exact List.all_eq_true.1 h1 _ (List.getElem_mem hjl)
           have hrun:=room (some ⟨lc.blk,lc.base+o,none⟩) sl0 c _ rfl rfl hcap (by simp only[jfb];exact hst)
           refine⟨_,_,hrun,ρ.upd nx ⟨lc.blk,lc.base+o,lc.lim⟩,?_,?_,?_⟩
           ·refine⟨a1,a2,a3,by omega,by omega,fun b' hb'=>?_,fun x hx hk'=>?_,fun b' l' g1 g2 g3=>?_,fun b' hb'=>?_,fun b' g1 g2=>?_⟩
            ·unfold RM.upd
             rw[if_neg (by omega)]
            ·refine a5 x fun e'=>?_
             have:=hk' b lc k1 e'.symm (by rw[hb];rfl)
             omega
            ·have:b'=nx:=by omega
             subst this
             simp only[RM.upd,if_true] at g3
             cases g3
             exact .inr ⟨b,lc,hrb,by rw[hb];rfl,k1,rfl⟩
            ·rw[Tr.get_set] at hb'
             by_cases e':b'=nx
             ·exact .inl (by omega)
             ·rw[if_neg e'] at hb'
              exact .inr (by rw[←hdel b' hb'];exact hb')
            ·rw[Tr.get_set,if_neg (by omega)]
             exact hdelo b' g1 g2
           ·have hle:=RM.le_upd (l:=⟨lc.blk,lc.base+o,lc.lim⟩) hnn
            have hsrc:take ct o (sl0*i.size)=some old∧o+sl0*i.size≤m:=by
             simp only[src,jab,jad,decide_true,Nat.le_refl,Bool.and_self,cond_true,hb] at hold
             by_cases hm2:o+sl0*i.size≤m
             ·simp only[hm2,decide_true,cond_true] at hold
              exact⟨hold,hm2⟩
             ·simp[hm2] at hold
            obtain⟨t1,t2⟩:=joa _ _ _ _ hsrc.1
            have hll:(old++new).length=(sl0+k)*i.size:=by
             rw[List.length_append,t1,hlenl,hadd]
            refine⟨fun b' k' l' g1 g2=>?_,fun b1 b2 l1 l2 g1 g2 g3 g4 g5=>?_⟩
            ·rw[Tr.get_set] at g1
             by_cases e':b'=nx
             ·subst e'
              simp only[RM.upd,if_true] at g1 g2
              cases g1;cases g2
              refine⟨cs',elem,fr,a6,by simp only[hll];omega,by simp only;omega,fun j j1 j2=>q4 j (by simp only at j1;omega) (fun hf=>by
               have h64:=(jft (show rx ro≤b by assumption)).2
               rw[jad,decide_eq_false_iff_not] at hf
               omega),fun j hj=>?_⟩
              rw[hll] at hj
              simp only
              rw[jex,if_pos (by rw[hll];omega),Nat.sub_zero,a8 _ (by omega)]
              by_cases hjo:j<sl0*i.size
              ·rw[if_neg (by omega)]
               obtain⟨a',v',h6,h7,h8⟩:=q5 (o+j) (by omega)
               rw[t2 j hjo] at h6
               refine⟨a',v',?_,by rw[←h7,Nat.add_assoc],VR.mono hle _ _ h8⟩
               rw[List.getElem?_append_left (by omega)]
               exact h6
              ·rw[if_pos (by omega)]
               have hjn:j-sl0*i.size<new.length:=by omega
               obtain⟨v2',h2,h3⟩:=v1.get (i:=j-sl0*i.size) (a:=new[j-sl0*i.size]) (by simp[hjn])
               refine⟨_,v2',?_,?_,VR.mono hle _ _ h3⟩
               ·rw[List.getElem?_append_right (by omega),t1,List.getElem?_eq_getElem hjn]
               ·rw[←h2]
                congr 1
                omega
             ·rw[if_neg e',Tr.get_del] at g1
              simp only[RM.upd,if_neg e'] at g2
              by_cases e2:b'=b
              ·rw[if_pos e2] at g1;cases g1
              ·rw[if_neg e2] at g1
               refine(hr.blk b' k' l' g1 g2).mono hle (a5 _ fun e3=>e2 ?_)
               exact inj1 b' l' (by rw[g1];rfl) g2 e3
            ·rw[Tr.get_set] at g1 g2
             have noother:∀b' l',b'≠nx→((H.del b).get b').isSome→ρ b'=some l'→l'.blk≠lc.blk:=fun b' l' h1 h2 h3 h4=>by
              rw[Tr.get_del] at h2
              by_cases e2:b'=b
              ·rw[if_pos e2] at h2;cases h2
              ·rw[if_neg e2] at h2
               exact e2 (inj1 b' l' h2 h3 h4)
             by_cases e1:b1=nx
             ·by_cases e2:b2=nx
              ·exact .inl (by rw[e1,e2])
              ·rw[if_neg e2] at g2
               simp only[RM.upd,e1,if_true,if_neg e2] at g3 g4
               cases g3
               exact absurd g5.symm (noother b2 l2 e2 g2 g4)
             ·rw[if_neg e1] at g1
              simp only[RM.upd,if_neg e1] at g3
              by_cases e2:b2=nx
              ·simp only[RM.upd,e2,if_true] at g4
               cases g4
               exact absurd g5 (noother b1 l1 e1 g1 g3)
              ·rw[if_neg e2] at g2
               simp only[RM.upd,if_neg e2] at g4
               have h1:(H.get b1).isSome:=by rw[←hdel b1 g1];exact g1
               have h2:(H.get b2).isSome:=by rw[←hdel b2 g2];exact g2
               exact hr.inj b1 b2 l1 l2 h1 h2 g3 g4 g5
           ·simp only[VR]
            exact⟨⟨lc.blk,lc.base+o,lc.lim⟩,c,_,by simp[RM.upd],rfl,hcap,hz0,.inl rfl,.inr ⟨trivial,hcl,hcl2.2⟩⟩
          ·exact grown _ sl0 c old olds rfl rfl (by omega) o1 o2 o3 hnn (H.del b) hdel hdelo
         ·simp[hc2] at h
    ·cases h
  ·simp[hzz] at h
 all_goals (simp[jbn] at h)
end
end Go.Vm
namespace Go.Vm
section
variable {P:Program} {gl:List Nat} {ρ:RM} {g:Opd→AV} {e:Operand→Value}
theorem j1c {fn:Func} (h:fn.name=j3p):Extern.find fn=some Extern.BytealgIndexByte.indexByte:=by
 unfold Extern.find
 rw[h]
 kernel_rfl
theorem j1d {fn:Func} (h:fn.name=j3q):Extern.find fn=some Extern.BytealgCount.count:=by
 unfold Extern.find
 rw[h]
 kernel_rfl
theorem ju3 (c:UInt8):∀(l:List UInt8),jzj c.toNat (l.map UInt8.toNat)=Lib.indexByte l c
 | []=>rfl
 | b::l=>by
   simp only[List.map_cons,jzj,Lib.indexByte,ju3 c l,jab]
   by_cases h:b=c
   ·subst h;simp
   ·have h1:b.toNat≠c.toNat:=fun e=>h (UInt8.toNat_inj.1 e)
    have h2:(b==c)=false:=by simp[h]
    simp only[h1,decide_false,cond_false,h2,Bool.false_eq_true,if_false]
    have hge:=Lib.indexByte_ge l c
    cases hq:Lib.indexByte l c with
    | ofNat n=>simp
    | negSucc n=>
      rw[hq] at hge
      have:n=0:=by omega
      subst this
      rfl
theorem jvm (c:UInt8):∀(l:List UInt8) (n:Nat),jvn c.toNat (l.map UInt8.toNat) n=n+Lib.countByte l c
 | [],n=>rfl
 | b::l,n=>by
   simp only[List.map_cons,jvn,jvm c l,jab,Lib.countByte,List.count_cons]
   by_cases h:b=c
   ·subst h;simp;omega
   ·have h1:b.toNat≠c.toNat:=fun e=>h (UInt8.toNat_inj.1 e)
    simp[h,h1]
theorem j0l {n:Nat} {as:List AV} {v:AV} {args:Array Value} {w:World} (h:xrow n as=some v) (ha:VRs ρ as args.toList):
  ∃v',VR ρ v v'∧(n=0→(Extern.BytealgIndexByte.indexByte args).run P w=.ok v' w)∧(n=1→(Extern.BytealgCount.count args).run P w=.ok v' w)∧(n=0∨n=1):=by
 unfold xrow at h
 split at h
 ·rename_i s c
  simp only[VRs,VR] at ha
  obtain⟨v1,r1,e1,⟨bs,rfl,rfl⟩,v2,r2,rfl,rfl,rfl⟩:=ha
  have hargs:args=#[.string bs,.int .u8 (.ofNat c)]:=by
   apply Array.ext'
   simpa using e1
  subst hargs
  rw[jad] at h
  by_cases hc:c≤255
  ·simp only[hc,decide_true,cond_true] at h
   have hcu:c=(c.toUInt8).toNat:=by simp;omega
   split at h
   ·cases h
    refine⟨_,by simp only[VR];rfl,fun _=>?_,fun h=>(by cases h),.inl rfl⟩
    have e2:=ju3 c.toUInt8 bs.data.toList
    rw[←hcu] at e2
    rw[show(Int.ofNat c)=((c:Nat):Int) from rfl,Lib.run_indexByteString,e2,Int.toNat_natCast]
   ·cases h
    refine⟨_,by simp only[VR];rfl,fun h=>(by cases h),fun _=>?_,.inr rfl⟩
    have e2:=jvm c.toUInt8 bs.data.toList 0
    rw[←hcu] at e2
    rw[show(Int.ofNat c)=((c:Nat):Int) from rfl,Lib.run_countString,e2,Int.toNat_natCast,Nat.zero_add]
    rfl
   ·cases h
  ·simp[hc] at h
 ·cases h
def GLok (gl:List Nat) (ρ:RM):Prop:=∀g,gl.contains g=true→∃l,ρ g=some l∧l.blk=g∧l.base=0
theorem GLok.mono {ρ ρ':RM} (h:ρ.Le ρ') (g:GLok gl ρ):GLok gl ρ':=fun x hx=>let ⟨l,h1,h2⟩:=g x hx;⟨l,h _ _ h1,h2⟩
def WF (H:Tr Blk) (nx:Nat):Prop:=∀b,(H.get b).isSome→b<nx
def jg4 (P:Program) (gl:List Nat) (call:FuncId→List AV→Tr Blk→Nat→Nat→Out):Prop:=
 ∀f as H nx ro v H' nx',call f as H nx ro=some (v,H',nx')→nx≤nx'∧∀(ρ:RM) (w:World) (args:Array Value),HR ρ H w→Free ρ nx nx'→ro≤nx→GLok gl ρ→WF H nx→VRs ρ as args.toList→
  (∃fn,P.funcs[f]?=some fn∧(fn.name== "runtime.NumGoroutine")=false∧fn.body.isSome=true)∧
  Calls P f args w (fun en w'=>∃v',en=.returned v'∧Ends ρ H nx ro w v H' nx' v' w')
def OpEnds (P:Program) (e:Operand→Value) (o:Oper) (ρ:RM) (H:Tr Blk) (nx ro:Nat) (w:World) (v:AV) (H':Tr Blk) (nx':Nat):Prop:=
 (∃v' w',(execOp e o).run P w=.ok (.value v') w'∧Ends ρ H nx ro w v H' nx' v' w')∨
 (∃w',(execOp e o).run P w=.ok .skip w'∧Ends ρ H nx ro w v H' nx' undef w')∨
 (∃f args,(execOp e o).run P w=.ok (.enter f args) w∧Calls P f args w (fun en w'=>∃v',en=.returned v'∧Ends ρ H nx ro w v H' nx' v' w'))
theorem OpEnds.wp {o:Oper} {H H':Tr Blk} {nx nx' ro:Nat} {w:World} {v:AV} {a:Act} {K:Act→World→Prop} {Q:Exit→Act→World→Prop}
  (h:OpEnds P a.eval o ρ H nx ro w v H' nx') (hK:∀v' w',Ends ρ H nx ro w v H' nx' v' w'→K (a.put o.dst v') w'):o.wp P a w K Q:=by
 unfold Oper.wp
 rcases h with⟨v',w',h1,h2⟩ | ⟨w',h1,h2⟩ | ⟨f,args,h1,h2⟩
 ·rw[h1];exact hK _ _ h2
 ·rw[h1];exact hK _ _ h2
 ·rw[h1]
  refine h2.mono ?_
  rintro en w' ⟨v',rfl,h3⟩
  exact hK _ _ h3
theorem Ends.same {H:Tr Blk} {nx ro:Nat} {w:World} {v:AV} {v':Value} (hr:HR ρ H w) (hv:VR ρ v v'):Ends ρ H nx ro w v H nx v' w:=
 ⟨ρ,Step.refl _ _ _ _ _,hr,hv⟩
theorem jh7 {f:FuncId} {fn:Func} (hf:P.funcs[f]?=some fn) (h1:(fn.name== "runtime.NumGoroutine")=false) (h2:fn.body.isSome=true) (args:Array Value) (w:World):
  (callFunc f args).run P w=.ok (.enter f args) w:=by
 have h3:fn.name≠ "runtime.NumGoroutine" :=by simpa using h1
 obtain⟨b,hb⟩:=Option.isSome_iff_exists.1 h2
 simp[callFunc,hf,h3,hb]
theorem j6p {s:Sem Unit} {w w':World} (h:s.run P w=.ok () w'):(do s;pure .skip:Sem Next).run P w=.ok .skip w':=by
 simp[h]
theorem jbi {a b:Bool} (h:(a&&b)=true):a=true∧b=true:=by simpa using h
theorem jpk {α:Type} (l:List α) (hl:0<l.length):∀(n j:Nat),j<n*l.length→(List.replicate n l).flatten[j]?=l[j%l.length]?
 | 0,j,h=>by omega
 | n+1,j,h=>by
   rw[List.replicate_succ,List.flatten_cons,List.getElem?_append]
   split
   ·rename_i hj;rw[Nat.mod_eq_of_lt hj]
   ·rename_i hj
    rw[jpk l hl n (j-l.length) (by rw[Nat.succ_mul] at h;omega)]
    congr 1
    rw[←Nat.mod_eq_sub_mod (by omega)]
theorem jul {z:List AV} {Z:Array Value} {n s:Nat} (hz:n*s≠0→VRs ρ z Z.toList) (hs:z.length=s) (hs0:0<s):
  VRs ρ (List.replicate n z).flatten ((Array.range (n*s)).map (fun j=>Z[j%Z.size]!)).toList:=by
 rw[jhl]
 refine⟨by simp[hs],fun j a v ha hv=>?_⟩
 have hj:j<n*s:=by
  have:=(List.getElem?_eq_some_iff.1 ha).1
  simpa[hs] using this
 have hzr:=hz (by omega)
 have hzl:=hzr.length
 simp only[Array.length_toList] at hzl
 rw[jpk z (by omega) n j (by rw[hs];exact hj),hs] at ha
 obtain⟨v',h1,h2⟩:=hzr.get ha
 have hv':((Array.range (n*s)).map (fun j=>Z[j%Z.size]!)).toList[j]?=some (Z[j%Z.size]!):=by
  simp[hj]
 rw[hv'] at hv
 cases hv
 rw[←hzl,hs]
 have h3:Z[j%s]?=some v':=by simpa using h1
 have:Z[j%s]! =v':=by
  rw[getElem!_def,h3]
 rw[this]
 exact h2
theorem juc:∀(l:List AV) (s:List Nat),u8s l=some s→∀(vs:List Value),VRs ρ l vs→vs=(s.map Int.ofNat).map (Value.int .u8)∧∀x∈s,x≤255
 | [],s,h,vs,hv=>by
   simp only[u8s,Option.some.injEq] at h
   simp only[VRs] at hv
   subst h;subst hv
   exact⟨rfl,fun x hx=>by cases hx⟩
 | a::l,s,h,vs,hv=>by
   unfold u8s at h
   split at h
   ·rename_i heq;cases heq
   ·rename_i n l' heq
    cases heq
    rw[jad] at h
    by_cases hn:n≤255
    ·simp only[hn,decide_true,cond_true] at h
     split at h
     ·rename_i r hr
      cases h
      simp only[VRs,VR] at hv
      obtain⟨v,vs',rfl,rfl,h2⟩:=hv
      obtain⟨h3,h4⟩:=juc l r hr vs' h2
      subst h3
      refine⟨rfl,fun x hx=>?_⟩
      rcases List.mem_cons.1 hx with rfl | hx
      ·exact hn
      ·exact h4 x hx
     ·cases h
    ·simp[hn] at h
   ·cases h
theorem jvd:∀(s:List Nat) (r:ByteArray),((s.map Int.ofNat).foldl (fun r n=>r.push (UInt8.ofNat n.toNat)) r).data.toList=r.data.toList++s.map UInt8.ofNat
 | [],r=>by simp
 | x::s,r=>by
   simp only[List.map_cons,List.foldl_cons]
   rw[jvd s]
   simp[ByteArray.push]
theorem j4f {call:FuncId→List AV→Tr Blk→Nat→Nat→Out} (hcall:jg4 P gl call) {o:Oper} {c:I} {v:AV} {H H':Tr Blk} {nx nx' ro:Nat} {w:World}
  (hg:∀x y,opd gl x=some y→VR ρ (g y) (e x)) (hef:∀f,e (.func f)=.func (.func f) #[] #[]) (hc:jvo P gl o.op=some c) (h:hop call ro g H nx c=some (v,H',nx')) (hr:HR ρ H w) (hf:Free ρ nx nx') (hro:ro≤nx) (hgl:GLok gl ρ) (hwf:WF H nx):
  OpEnds P e o ρ H nx ro w v H' nx':=by
 obtain⟨dst,op,ty,pos,after,guard⟩:=o
 simp only at hc
 have boxed:∀(l:List AV) (cs:Array Value) (elem:TypeId),VRs ρ l cs.toList→jda l (fun b=>.ptr b 0) H nx=some (v,H',nx')→
   Ends ρ H nx ro w v H' nx' (.pointer (some ⟨w.heap.size,0,none⟩)) (w.alloc (.cells cs elem)):=by
  intro l cs elem hl hn
  simp only[jaq,Option.some.injEq,Prod.mk.injEq] at hn
  obtain⟨rfl,rfl,rfl⟩:=hn
  have hll:=hl.length
  obtain⟨a1,a2⟩:=jip (elem:=elem) (fr:=(0,0)) (lim:=cs.size) (ro:=ro) hr (hf nx (Nat.le_refl _) (by omega)) hro (by rw[hll,List.take_length];exact hl) (by simp at hll;omega) (Nat.le_refl _) (fun j=>by omega)
  refine⟨_,a2,a1,?_⟩
  simp only[VR]
  exact⟨⟨w.heap.size,0,cs.size⟩,by simp[RM.upd],rfl⟩
 cases op
 case box t x=>
  simp only[jvo,Option.map_eq_some_iff] at hc
  obtain⟨x',hx,rfl⟩:=hc
  simp only[hop] at h
  refine .inl ⟨_,_,jc9 ?_,boxed _ _ t (hg _ _ hx).cells h⟩
  rfl
 case alloc t=>
  simp only[jvo,Option.map_eq_some_iff] at hc
  obtain⟨z,hz,rfl⟩:=hc
  simp only[hop] at h
  obtain⟨i,zv,h1,h2,h3⟩:=jfj (ρ:=ρ) hz
  refine .inl ⟨_,_,jc9 ?_,boxed _ _ t h3 h⟩
  simp only[Instr.alloc,Sem.run_bind,ji4 h1 h2,Result.andThen_ok]
  rfl
 case load t x=>
  simp only[jvo,Option.bind_eq_bind,Option.bind_eq_some_iff,Option.map_eq_some_iff] at hc
  obtain⟨s,hs,x',hx,rfl⟩:=hc
  obtain⟨i,d,k1,k2,rfl⟩:=jdn hs
  have kx:=hg _ _ hx
  simp only[hop] at h
  split at h
  ·rename_i b o hq
   rw[hq] at kx
   simp only[VR] at kx
   obtain⟨lc,l1,l2⟩:=kx
   split at h
   ·rename_i ct m hb
    rw[jad] at h
    by_cases hm:o+i.size≤m
    ·simp only[hm,decide_true,cond_true] at h
     split at h
     ·rename_i l hl
      split at h
      ·rename_i v0 hv0
       simp only[Option.some.injEq,Prod.mk.injEq] at h
       obtain⟨rfl,rfl,rfl⟩:=h
       obtain⟨vs,r1,r2,r3,r4⟩:=jgy (P:=P) hr hb l1 hm hl
       rcases jo4 hv0 r1 with⟨q1,q2⟩ | ⟨q1,u,q2,q3⟩
       ·refine .inl ⟨_,w,jc9 ?_,Ends.same hr q2⟩
        simp only[Instr.loadAt,l2,Instr.sureAddr,Sem.run_bind,Sem.run_pure,Result.andThen_ok,loadVar,jfk k2,q1,if_true,jbb k1,r4]
       ·subst q2
        refine .inl ⟨u,w,jc9 ?_,Ends.same hr q3⟩
        have r5:=r3 0 u rfl
        rw[jfb,Nat.add_zero] at r5
        simp only[Instr.loadAt,l2,Instr.sureAddr,Sem.run_bind,Sem.run_pure,Result.andThen_ok,loadVar,jfk k2,q1,Bool.false_eq_true,if_false,run_load,r5]
      ·cases h
     ·cases h
    ·simp[hm] at h
   ·cases h
  ·cases h
 case store t x y=>
  simp only[jvo,Option.bind_eq_bind,Option.bind_eq_some_iff,Option.some.injEq] at hc
  obtain⟨s,hs,x',hx,y',hy,rfl⟩:=hc
  obtain⟨i,d,k1,k2,rfl⟩:=jdn hs
  have kx:=hg _ _ hx
  have ky:=hg _ _ hy
  simp only[hop] at h
  split at h
  ·rename_i b o hq
   rw[hq] at kx
   simp only[VR] at kx
   obtain⟨lc,l1,l2⟩:=kx
   split at h
   ·rename_i ct m hb
    cases hcnd:((rx ro).ble b&&(o+i.size).ble m&&(jbz (g y')).length.beq i.size&&(jbz (g y')).all jnz)<;>simp only[hcnd,cond_true,cond_false] at h
    ·cases h
    ·obtain⟨hcnd,c4⟩:=jbi hcnd
     obtain⟨hcnd,c3⟩:=jbi hcnd
     obtain⟨c1,c2⟩:=jbi hcnd
     simp only[jad,jab,decide_eq_true_eq] at c1 c2 c3
     simp only[jcm,jdr,Option.some.injEq,Prod.mk.injEq] at h
     obtain⟨rfl,rfl,rfl⟩:=h
     have hv:=ky.cells
     have hl:=hv.length
     simp only[Array.length_toList] at hl
     obtain⟨w',s1,s2,s3⟩:=jkq (P:=P) (nx:=nx) (o:=o) hr hb l1 c1 hv (by omega) c4
     refine .inr (.inl ⟨w',j6p ?_,ρ,s3,s2,by simp[VR,undef,VRs]⟩)
     have hsz:¬((e y).cells.size≠i.size):=by omega
     simp only[Instr.storeAt,l2,Instr.sureAddr,Sem.run_bind,Sem.run_pure,Result.andThen_ok,storeVar,jbb k1,hsz,Sem.run_ite,if_false,s1]
   ·cases h
  ·cases h
 case buildSlice t len ps=>
  simp only[jvo] at hc
  split at hc
  ·rename_i el hu
   simp only[Option.bind_eq_bind,Option.bind_eq_some_iff] at hc
   obtain⟨s,hs,z,hz,hc⟩:=hc
   split at hc
   ·rename_i hzl
    simp only[Option.bind_eq_some_iff,Option.some.injEq] at hc
    obtain⟨l,hl,rfl⟩:=hc
    obtain⟨i,d,k1,k2,rfl⟩:=jdn hs
    obtain⟨i',zv,h1,h2,h3⟩:=jfj (ρ:=ρ) hz
    rw[k1] at h1;cases h1
    simp only[hop] at h
    cases hcnd:(i.size.beq 0|| !((len*i.size).ble 1000000))<;>simp only[hcnd,cond_true,cond_false] at h
    ·simp only[Bool.or_eq_false_iff,Bool.not_eq_false',jab,jad,decide_eq_false_iff_not,decide_eq_true_eq] at hcnd
     obtain⟨c1,c2⟩:=hcnd
     split at h
     ·rename_i zl hfill
      rw[jab] at h
      by_cases jbj:zl.length=len*i.size
      ·simp only[jbj,decide_true,cond_true] at h
       have hz0:=jul (ρ:=ρ) (z:=z) (Z:=if len*i.size=0 then #[] else zv.cells) (n:=len) (s:=i.size) (fun hne=>by rw[if_neg hne];exact h3) hzl (by omega)
       obtain⟨cells',f1,f2⟩:=ji9 (place:=fun j=>some (j*i.size,i.size)) hg ps.toList l _ zl _ hl hfill hz0
       have hcl:=f2.length
       simp only[Array.length_toList] at hcl
       simp only[jaq,Option.some.injEq,Prod.mk.injEq] at h
       obtain⟨rfl,rfl,rfl⟩:=h
       obtain⟨a1,a2⟩:=jip (elem:=el) (fr:=(0,0)) (lim:=len*i.size) (ro:=ro) hr (hf nx (Nat.le_refl _) (by omega)) hro (l:=zl) (cs:=cells') (by rw[hcl,List.take_of_length_le (by simp)];exact f2) (by omega) (by omega) (fun j=>by omega)
       refine .inl ⟨.slice (some ⟨w.heap.size,0,none⟩) len len,w.alloc (.cells cells' el),jc9 ?_,_,a2,a1,?_⟩
       ·have hlim:¬(len*i.size > 2^24):=by omega
        have hmap:(ps.map fun(x:Nat×Operand)=>(x.1,e x.2)).toList=ps.toList.map fun(x:Nat×Operand)=>(x.1,e x.2):=by simp
        simp only[Instr.buildSlice,Sem.run_bind,run_underlying hu,Result.andThen_ok,jbb k1,hlim,Sem.run_ite,if_false,Sem.run_pure]
        by_cases hz00:len*i.size=0
        ·simp only[hz00,if_true,List.range_zero] at f1 ⊢
         have f1':Instr.fill (fun j=>some (j*i.size,i.size)) (Array.map (fun x=>#[][x % #[].size]!) (Array.range 0)) (ps.toList.map fun(x:Nat×Operand)=>(x.1,e x.2))=some cells':=f1
         rw[hmap,f1']
         rfl
        ·simp only[hz00,if_false,ji4 k1 h2,Result.andThen_ok] at f1 ⊢
         have f1':Instr.fill (fun j=>some (j*i.size,i.size)) (Array.map (fun x=>zv.cells[x%zv.cells.size]!) (Array.range (len*i.size))) (ps.toList.map fun(x:Nat×Operand)=>(x.1,e x.2))=some cells':=f1
         rw[hmap,f1']
         rfl
       ·simp only[VR]
        exact⟨⟨w.heap.size,0,len*i.size⟩,len,0,by simp[RM.upd],rfl,Nat.le_refl _,by omega,.inl rfl,.inl ⟨rfl,by simp,fun _=>by have:len≤len*i.size:=Nat.le_mul_of_pos_right _ (by omega);omega⟩⟩
      ·simp[jbj] at h
     ·cases h
    ·cases h
   ·cases hc
  ·cases hc
 case slice t x lo hi mx=>
  simp only[jvo] at hc
  split at hc
  ·rename_i n el hu
   split at hc
   ·cases hc
   rename_i hnbig
   simp only[Option.bind_eq_bind,Option.bind_eq_some_iff,Option.some.injEq] at hc
   obtain⟨s,hs,x',hx,lo',h1,hi',h2,mx',h3,rfl⟩:=hc
   obtain⟨i,d,k1,k2,rfl⟩:=jdn hs
   have kx:=hg _ _ hx
   simp only[hop] at h
   split at h
   ·rename_i b o hq
    rw[hq] at kx
    simp only[VR] at kx
    obtain⟨lc,l1,l2⟩:=kx
    split at h
    ·rename_i ct m hb
     obtain⟨_,_,_,_,hnm,_⟩:=hr.blk b _ lc hb l1
     cases hcnd:(i.size.beq 0|| !((o+n*i.size).ble m))<;>simp only[hcnd,cond_true,cond_false] at h
     ·simp only[Bool.or_eq_false_iff,Bool.not_eq_false',jab,jad,decide_eq_false_iff_not,decide_eq_true_eq] at hcnd
      obtain⟨c1,c2⟩:=hcnd
      split at h
      ·rename_i l0 h0 m0 hbd
       simp only[Option.some.injEq,Prod.mk.injEq] at h
       obtain⟨rfl,rfl,rfl⟩:=h
       obtain⟨b1,b2,b3,b5,b4⟩:=je8 (P:=P) (ρ:=ρ) (cap':=n) false w hbd (jdw hg h1) (jdw hg h2) (jdw hg h3) (Nat.le_refl _) (Nat.le_refl _)
       have hmm:(if(Option.map g mx').isSome=true then m0 else n)=m0:=by
        cases hmx:Option.map g mx' with
        | none=>simp[b5 hmx]
        | some _=>simp
       rw[hmm] at b4
       refine .inl ⟨.slice (some (if m0=l0 then⟨lc.blk,lc.base+o,none⟩ else(⟨lc.blk,lc.base+o,none⟩:Addr).add (l0*i.size))) (h0-l0) (m0-l0),w,jc9 ?_,Ends.same hr ?_⟩
       ·simp only[Instr.sliceAt,Sem.run_bind,run_underlying hu,Result.andThen_ok,l2,Instr.sureAddr,Sem.run_pure,b4,jbb k1]
       ·simp only[VR]
        have hmul:l0*i.size+ (m0-l0)*i.size=m0*i.size:=by rw[←Nat.add_mul];congr 1;omega
        have hle:m0*i.size≤n*i.size:=Nat.mul_le_mul_right _ b3
        refine⟨lc,m0-l0,if m0=l0 then lc.base+o else lc.base+o+l0*i.size,l1,?_,by omega,by omega,?_,.inl ⟨rfl,by omega,fun _=>by omega⟩⟩
        ·split
         ·rfl
         ·rw[jfb]
        ·split
         ·right;omega
         ·left;omega
      ·cases h
     ·cases h
    ·cases h
   ·cases h
  ·cases hc
 case makeSlice t lx cx=>
  simp only[jvo] at hc
  split at hc
  ·rename_i el hu
   split at hc
   ·rename_i i hi
    simp only[Option.bind_eq_bind,Option.bind_eq_some_iff,Option.some.injEq] at hc
    obtain⟨z,hz,l',hl,c',hcx,rfl⟩:=hc
    obtain⟨i',zv,h1,h2,h3⟩:=jfj (ρ:=ρ) hz
    rw[hi] at h1;cases h1
    have kl:=hg _ _ hl
    have kc:=hg _ _ hcx
    simp only[hop] at h
    split at h
    ·rename_i kd1 l0 kd2 c0 hq1 hq2
     rw[hq1] at kl
     rw[hq2] at kc
     have kl:=jrf kl
     have kc:=jrf kc
     cases hcnd:(l0.ble c0&&c0.ble 1000000&&i.bytes.ble 1000&& !(i.size.beq 0)&&z.length.beq i.size)<;>simp only[hcnd,cond_true,cond_false] at h
     ·cases h
     ·simp only[Bool.and_eq_true,Bool.not_eq_true',jab,jad,decide_eq_false_iff_not,decide_eq_true_eq] at hcnd
      obtain⟨⟨⟨⟨c1,c2⟩,c3⟩,c4⟩,c5⟩:=hcnd
      have hz0:=jul (ρ:=ρ) (z:=z) (Z:=if c0*i.size=0 then #[] else zv.cells) (n:=c0) (s:=i.size) (fun hne=>by rw[if_neg hne];exact h3) c5 (by omega)
      have hcl:=hz0.length
      simp only[Array.length_toList] at hcl
      simp only[jaq,Option.some.injEq,Prod.mk.injEq] at h
      obtain⟨rfl,rfl,rfl⟩:=h
      have hfl:(List.replicate c0 z).flatten.length=c0*i.size:=by simp[c5]
      obtain⟨a1,a2⟩:=jip (elem:=el) (fr:=(0,0)) (lim:=c0*i.size) (ro:=ro) hr (hf nx (Nat.le_refl _) (by omega)) hro (l:=(List.replicate c0 z).flatten) (cs:=(Array.range (c0*i.size)).map (fun j=>(if c0*i.size=0 then #[] else zv.cells)[j% (if c0*i.size=0 then #[] else zv.cells).size]!)) (by rw[hcl,List.take_of_length_le (by simp)];exact hz0) (by omega) (by simp) (fun j=>by omega)
      refine .inl ⟨.slice (some ⟨w.heap.size,0,none⟩) l0 c0,w.alloc (.cells _ el),jc9 ?_,_,a2,a1,?_⟩
      ·have w1:IntKind.i64.wrap (l0:Int)=l0:=jnu .i64 _ (by omega) (by simp[j2a];omega)
       have w2:IntKind.i64.wrap (c0:Int)=c0:=jnu .i64 _ (by omega) (by simp[j2a];omega)
       have hb:c0*i.bytes≤1000000*1000:=Nat.mul_le_mul c2 c3
       have hb':((i.bytes:Int)* (c0:Int))=((c0*i.bytes:Nat):Int):=by rw[Nat.mul_comm];rfl
       have n1:¬((c0:Int)<0):=by omega
       have n2:¬(((c0*i.bytes:Nat):Int) > 2^48):=by omega
       have n3:¬((l0:Int)<0):=by omega
       have n4:¬((l0:Int) > (c0:Int)):=by omega
       simp only[Instr.makeSlice,Sem.run_bind,run_underlying hu,Result.andThen_ok,kl,kc,asInt,asIntOf,Sem.run_pure,jnw hi,w1,w2,hb',n1,n2,n3,n4,decide_false,Bool.or_self,Bool.false_eq_true,if_false,Sem.run_ite,run_askRoom,Int.toNat_natCast,jbb hi]
       by_cases hz00:c0*i.size=0
       ·simp only[hz00,if_true]
        rfl
       ·simp only[hz00,if_false,ji4 hi h2,Result.andThen_ok]
        rfl
      ·simp only[VR]
       exact⟨⟨w.heap.size,0,c0*i.size⟩,c0,0,by simp[RM.upd],rfl,c1,by omega,.inl rfl,.inl ⟨rfl,by simp,fun _=>by omega⟩⟩
    ·cases h
   ·cases hc
  ·cases hc
 case convert s t x=>
  simp only[jvo] at hc
  split at hc
  ·rename_i el hs ht
   split at hc
   ·rename_i he
    simp only[Option.map_eq_some_iff] at hc
    obtain⟨x',hx,rfl⟩:=hc
    have kx:=hg _ _ hx
    simp only[hop] at h
    split at h
    ·rename_i hq
     rw[hq] at kx
     simp only[VR] at kx
     simp only[Option.some.injEq,Prod.mk.injEq] at h
     obtain⟨rfl,rfl,rfl⟩:=h
     refine .inl ⟨.string .empty,w,jc9 ?_,Ends.same hr (by simp[VR])⟩
     simp[convert,run_underlying hs,run_underlying ht,run_underlying he,kx,Conv.bytesToString]
    ·rename_i b o len cap z hq
     rw[hq] at kx
     have kx0:=kx
     simp only[VR] at kx
     obtain⟨lc,c,off,l1,l2,l3,l4,l5,l6⟩:=kx
     split at h
     ·rename_i ct m hb
      cases hcnd:(z.beq 1&&(o+len).ble m)<;>simp only[hcnd,cond_true,cond_false] at h
      ·cases h
      ·simp only[Bool.and_eq_true,jab,jad,decide_eq_true_eq] at hcnd
       obtain⟨c1,c2⟩:=hcnd
       split at h
       ·rename_i l hl
        split at h
        ·rename_i s0 hs0
         simp only[jgv,Option.some.injEq,Prod.mk.injEq] at h
         obtain⟨rfl,rfl,rfl⟩:=h
         obtain⟨vs,r1,r2,r3,r4⟩:=jgy (P:=P) hr hb l1 c2 hl
         obtain⟨b1,b2⟩:=juc _ _ hs0 _ r1
         refine .inl ⟨.string ((s0.map Int.ofNat).foldl (fun r n=>r.push (UInt8.ofNat n.toNat)) ByteArray.empty),w,jc9 ?_,Ends.same hr ?_⟩
         rotate_left
         ·simp only[VR]
          refine⟨_,rfl,?_⟩
          rw[jvd]
          have:∀l:List Nat,(∀x∈l,x≤255)→(l.map UInt8.ofNat).map UInt8.toNat=l:=by
           intro l hl
           induction l with
           | nil=>rfl
           | cons x l ih=>
             have h1:=hl x (by simp)
             simp only[List.map_cons,ih fun y hy=>hl y (by simp[hy])]
             congr 1
             simp
             omega
          exact this s0 b2
         have hload:(loadCells ⟨lc.blk,off,none⟩ len).run P w=.ok vs.toArray w:=by
          by_cases h0:len=0
          ·subst h0
           have:vs=[]:=List.length_eq_zero_iff.1 r2
           subst this
           rfl
          ·have:off=lc.base+o:=by omega
           rw[this];exact r4
         rw[l2,run_convert_bytes_string w _ _ _ _ _ _ hs he ht]
         exact run_bytesToString w _ _ _ _ (by rw[hload,b1])
        ·cases h
       ·cases h
     ·cases h
    ·cases h
   ·cases hc
  ·rename_i el hs ht
   split at hc
   ·rename_i he
    simp only[Option.map_eq_some_iff] at hc
    obtain⟨x',hx,rfl⟩:=hc
    have kx:=hg _ _ hx
    simp only[hop] at h
    cases h
   ·cases hc
  ·cases hc
 case range t x=>
  simp only[jvo] at hc
  split at hc
  ·rename_i hu
   simp only[Option.map_eq_some_iff] at hc
   obtain⟨x',hx,rfl⟩:=hc
   have kx:=hg _ _ hx
   simp only[hop] at h
   split at h
   ·rename_i s0 hq
    rw[hq] at kx
    simp only[VR] at kx
    obtain⟨bs,k1,rfl⟩:=kx
    simp only[jxb,Option.some.injEq,Prod.mk.injEq] at h
    obtain⟨rfl,rfl,rfl⟩:=h
    have hnn:=hf nx (Nat.le_refl _) (by omega)
    have:=hr.alloc (ro:=ro) hnn (.stringIter bs 0) (.iter (bs.data.toList.map UInt8.toNat) 0) ⟨w.heap.size,0,0⟩ rfl ⟨bs,by show(w.heap.push _)[w.heap.size]?=_;simp,rfl,rfl⟩ hro
    refine .inl ⟨.pointer (some ⟨w.heap.size,0,none⟩),w.alloc (.stringIter bs 0),jc9 ?_,_,this.2,this.1,?_⟩
    ·simp only[Instr.range,Sem.run_bind,run_underlying hu,Result.andThen_ok,k1,Sem.run_pure,run_newObj]
     rfl
    ·simp only[VR]
     exact⟨⟨w.heap.size,0,0⟩,by simp[RM.upd],rfl⟩
   ·cases h
  ·cases hc
 case next x b=>
  cases b
  ·simp[jvo] at hc
  simp only[jvo,Option.map_eq_some_iff] at hc
  obtain⟨x',hx,rfl⟩:=hc
  have kx:=hg _ _ hx
  simp only[hop] at h
  split at h
  ·rename_i b hq
   rw[hq] at kx
   simp only[VR] at kx
   obtain⟨lc,l1,l2⟩:=kx
   split at h
   ·rename_i s0 p0 hb
    obtain⟨bs,b1,b2,b3⟩:=hr.blk b _ lc hb l1
    subst b2
    rw[b3] at l2
    split at h
    ·rename_i c hcp
     cases hcnd:((rx ro).ble b&&c.ble 127)<;>simp only[hcnd,cond_true,cond_false] at h
     ·cases h
     ·simp only[Bool.and_eq_true,jad,decide_eq_true_eq] at hcnd
      obtain⟨c1,c2⟩:=hcnd
      simp only[je5,jdr,Option.some.injEq,Prod.mk.injEq] at h
      obtain⟨rfl,rfl,rfl⟩:=h
      have hps:p0<bs.size:=by
       have:=(List.getElem?_eq_some_iff.1 hcp).1
       simpa using this
      have hch:(bs[p0]'hps).toNat=c:=by
       obtain⟨u,h1,h2⟩:=jud hcp
       rw[getElem?_pos bs p0 hps] at h1
       cases h1
       exact h2
      have hws:=HR.write (nx:=nx) (w':={ w with heap:=w.heap.setIfInBounds lc.blk (.stringIter bs (p0+1)) }) hr (.iter (bs.data.toList.map UInt8.toNat) (p0+1)) lc (by rw[hb];rfl) l1 c1 rfl rfl rfl (by simp)
       (fun x hx=>by simp[Array.getElem?_setIfInBounds,Ne.symm hx]) ⟨bs,by
         have:=(Array.getElem?_eq_some_iff.1 b1).1
         simp[Array.getElem?_setIfInBounds,this],rfl,b3⟩
      refine .inl ⟨.tuple #[.bool true,.int .i64 p0,.int .i32 (bs[p0]'hps).toNat],_,jc9 ?_,ρ,hws.2,hws.1,?_⟩
      ·rw[l2]
       simp only[Instr.next,getObj,setObj,Sem.run_bind,Sem.run,b1,Result.andThen,hps,if_true,decode_ascii bs p0 hps (by omega)]
       simp[goInt,Sem.run,b1]
      ·simp only[VR]
       exact⟨_,rfl,_,_,rfl,by simp[VR],_,_,rfl,by simp[VR],_,_,rfl,by simp[VR,hch],rfl⟩
    ·rename_i hcp
     simp only[Option.some.injEq,Prod.mk.injEq] at h
     obtain⟨rfl,rfl,rfl⟩:=h
     have hps:¬p0<bs.size:=by
      have:=List.getElem?_eq_none_iff.1 hcp
      simpa using this
     refine .inl ⟨.tuple #[.bool false],w,jc9 ?_,Ends.same hr ?_⟩
     ·rw[l2]
      simp[Instr.next,getObj,Sem.run,b1,hps]
     ·simp only[VR]
      exact⟨_,rfl,_,_,rfl,by simp[VR],rfl⟩
   ·cases h
  ·cases h
 case call cl=>
  obtain⟨callee,args,argTypes⟩:=cl
  have bgo:∀(b:Builtin) (F:Array TypeId→TypeId→Array Value→Sem Value) (v':Value) (w':World),(∀T cs a,builtin b argTypes T cs a=(do pure (.value (←F argTypes T a)):Sem Next))→callee=.builtin b→
    (F argTypes ty (args.map e)).run P w=.ok v' w'→(execOp e ⟨dst,.call ⟨callee,args,argTypes⟩,ty,pos,after,guard⟩).run P w=.ok (.value v') w':=by
   rintro b F v' w' hF rfl h1
   simp only[execOp,resolve,Sem.run_bind,Sem.run_pure,Result.andThen_ok,invoke,hF,h1]
  unfold jvo at hc
  split at hc<;>try (rename_i heq;cases heq;done)
  all_goals try (cases hc;done)
  ·
   rename_i a0 t0 heq
   cases heq
   split at hc
   ·rename_i x y t u us ha ht
    split at hc
    ·rename_i el hu
     have key:∀(i:TypeInfo) (zs:List AV),P.info? el=some i→jr3 P el=some zs→((∃e2,P.underlying u=some (.slice e2))∨P.underlying u=some .string)→zs.length=i.size→
       (∃x' y',opd gl x=some x'∧opd gl y=some y'∧c=.app i.size i.bytes x' y')→OpEnds P e ⟨dst,.call ⟨.builtin .append,args,argTypes⟩,ty,pos,after,guard⟩ ρ H nx ro w v H' nx':=by
      rintro i zs hi hz huu hzl ⟨x',y',hx,hy,rfl⟩
      obtain⟨i',zv,h1,h2,h3⟩:=jfj (ρ:=ρ) hz
      rw[hi] at h1;cases h1
      have hzc:zv.cells.size=i.size:=by have:=h3.length;simp at this;omega
      simp only[hop] at h
      split at h
      ·rename_i k0 len0 hk0 hl0
       cases hcnd:((len0+k0).ble 10000000&&i.bytes.ble 1000&& !(i.size.beq 0))<;>simp only[hcnd,cond_true,cond_false] at h
       ·cases h
       ·simp only[Bool.and_eq_true,Bool.not_eq_true',jab,jad,decide_eq_false_iff_not,decide_eq_true_eq] at hcnd
        obtain⟨⟨c1,c2⟩,c3⟩:=hcnd
        split at h
        ·rename_i new hnew
         cases hone:new.all jnz<;>simp only[hone,cond_true,cond_false] at h
         ·cases h
         ·obtain⟨v',w',r1,r2⟩:=jv5 (P:=P) (ty:=ty) hu hi h2 hzc huu rfl (by omega) c2 hl0 c1 hk0 hnew hone h (hg _ _ hx) (hg _ _ hy) hr hf hro
          refine .inl ⟨v',w',bgo .append Builtin.append_ v' w' (fun _ _ _=>rfl) rfl ?_,r2⟩
          have e1:args.map e=#[e x,e y]:=by
           apply Array.ext';simp[ha]
          rw[e1]
          have e2:argTypes[0]?=some t:=by rw[←Array.getElem?_toList,ht];rfl
          have e3:argTypes[1]?=some u:=by rw[←Array.getElem?_toList,ht];rfl
          rw[←r1]
          unfold Builtin.append_
          rw[e2,e3]
          rfl
        ·cases h
      ·cases h
     split at hc
     ·rename_i i e2 zs hi huu hz
      split at hc
      ·rename_i hzl
       simp only[Option.bind_eq_bind,Option.bind_eq_some_iff,Option.some.injEq] at hc
       obtain⟨x',hx,y',hy,rfl⟩:=hc
       exact key i zs hi hz (.inl ⟨e2,huu⟩) (by simpa using hzl) ⟨x',y',hx,hy,rfl⟩
      ·cases hc
     ·rename_i i zs hi huu hz
      split at hc
      ·rename_i hzl
       simp only[Option.bind_eq_bind,Option.bind_eq_some_iff,Option.some.injEq] at hc
       obtain⟨x',hx,y',hy,rfl⟩:=hc
       exact key i zs hi hz (.inr huu) (by simpa using hzl) ⟨x',y',hx,hy,rfl⟩
      ·cases hc
     ·cases hc
    ·cases hc
   ·cases hc
  ·
   rename_i a0 t0 heq
   cases heq
   split at hc
   ·rename_i x y t us ha ht
    split at hc
    ·rename_i el hu
     simp only[Option.bind_eq_bind,Option.bind_eq_some_iff,Option.some.injEq] at hc
     obtain⟨s,hs,x',hx,y',hy,rfl⟩:=hc
     obtain⟨i,d,k1,k2,rfl⟩:=jdn hs
     have kx:=hg _ _ hx
     have ky:=hg _ _ hy
     have e1:args.map e=#[e x,e y]:=by
      apply Array.ext';simp[ha]
     have e2:argTypes[0]?=some t:=by rw[←Array.getElem?_toList,ht];rfl
     simp only[hop] at h
     split at h
     ·rename_i k0 b o len cap z hk0 hq
      rw[hq] at kx
      simp only[VR] at kx
      obtain⟨lc,c,off,l1,l2,l3,l4,l5,l6⟩:=kx
      have hlY:=jh5 (P:=P) w hk0 ky
      have hmin:(bif k0.ble len then k0 else len)=Nat.min k0 len:=by
       rw[jad]
       show _=min k0 len
       by_cases hkl:k0≤len
       ·simp[hkl,Nat.min_eq_left hkl]
       ·simp[hkl];omega
      rw[hmin] at h
      split at h
      ·rename_i new hnew
       obtain⟨vs,v1,v2,v3⟩:=jh4 (P:=P) hnew ky hr
       have v3':=v3 w.drawn
       have v3'':(Builtin.firstCells i.size (Nat.min k0 len) (e y)).run P w=.ok vs.toArray w:=v3'
       rw[jab] at h
       by_cases hn0:Nat.min k0 len=0
       ·simp only[hn0,decide_true,cond_true,Option.some.injEq,Prod.mk.injEq] at h
        obtain⟨rfl,rfl,rfl⟩:=h
        have hvs:vs=[]:=List.length_eq_zero_iff.1 (by rw[v2,hn0];simp)
        refine .inl ⟨goInt (0:Nat),w,bgo .copy Builtin.copy_ _ _ (fun _ _ _=>rfl) rfl ?_,Ends.same hr (by simp[VR,goInt])⟩
        rw[e1]
        simp only[Builtin.copy_,e2,List.getElem?_toArray,List.getElem?_cons_zero,List.getElem?_cons_succ,Sem.run_bind,run_underlying hu,Result.andThen_ok,l2,hlY,jbb k1,v3'',hvs]
        simp[storeCells,hn0]
       ·simp only[hn0,decide_false,cond_false] at h
        split at h
        ·rename_i ct m hb
         cases hcnd:((rx ro).ble b&&z.beq i.size&&(o+Nat.min k0 len*i.size).ble m&&new.all jnz)<;>simp only[hcnd,cond_true,cond_false] at h
         ·cases h
         ·simp only[Bool.and_eq_true,jab,jad,decide_eq_true_eq] at hcnd
          obtain⟨⟨⟨c1,c2⟩,c3⟩,c4⟩:=hcnd
          simp only[jcm,jdr,Option.some.injEq,Prod.mk.injEq] at h
          obtain⟨rfl,rfl,rfl⟩:=h
          have hoff:off=lc.base+o:=by
           have:Nat.min k0 len≤len:=Nat.min_le_right _ _
           omega
          obtain⟨w',s1,s2,s3⟩:=jkq (P:=P) (nx:=nx) (o:=o) hr hb l1 c1 v1 (by have:=v1.length;omega) c4
          refine .inl ⟨goInt (Nat.min k0 len:Nat),w',bgo .copy Builtin.copy_ _ _ (fun _ _ _=>rfl) rfl ?_,ρ,s3,s2,by simp[VR,goInt]⟩
          rw[e1]
          simp only[Builtin.copy_,e2,List.getElem?_toArray,List.getElem?_cons_zero,List.getElem?_cons_succ,Sem.run_bind,run_underlying hu,Result.andThen_ok,l2,hlY,jbb k1,v3'']
          rw[hoff]
          simp only[Sem.run_bind,s1,Result.andThen_ok,Sem.run_pure]
        ·cases h
      ·cases h
     ·rename_i k0 hk0 hq
      rw[hq] at kx
      simp only[VR] at kx
      have hlY:=jh5 (P:=P) w hk0 ky
      split at h
      ·rename_i new hnew
       obtain⟨vs,v1,v2,v3⟩:=jh4 (P:=P) hnew ky hr
       have v3'':(Builtin.firstCells i.size 0 (e y)).run P w=.ok vs.toArray w:=v3 w.drawn
       simp only[Option.some.injEq,Prod.mk.injEq] at h
       obtain⟨rfl,rfl,rfl⟩:=h
       refine .inl ⟨goInt (0:Nat),w,bgo .copy Builtin.copy_ _ _ (fun _ _ _=>rfl) rfl ?_,Ends.same hr (by simp[VR,goInt])⟩
       rw[e1]
       have hm0:Nat.min k0 0=0:=Nat.min_zero k0
       simp only[Builtin.copy_,e2,List.getElem?_toArray,List.getElem?_cons_zero,List.getElem?_cons_succ,Sem.run_bind,run_underlying hu,Result.andThen_ok,kx,hlY,jbb k1,hm0,v3'',Sem.run_pure]
      ·cases h
     ·cases h
    ·cases hc
   ·cases hc
  ·
   rename_i f a0 t0 heq
   cases heq
   have hres:∀(s:Sem Next) (r:Result Next),(callFunc f (args.map e)).run P w=r→(execOp e ⟨dst,.call ⟨.value (.func f),args,argTypes⟩,ty,pos,after,guard⟩).run P w=r:=by
    rintro s r rfl
    simp only[execOp,resolve,hef,Deferred.ofValue,Sem.run_bind,Sem.run_pure,Result.andThen_ok,invoke]
    simp
   split at hc
   ·rename_i fn hfn
    split at hc
    ·rename_i b hb
     split at hc
     ·cases hc
     ·rename_i hname
      simp only[Option.map_eq_some_iff] at hc
      obtain⟨as,has,rfl⟩:=hc
      simp only[hop,jfv] at h
      obtain⟨h1,h2⟩:=hcall _ _ _ _ _ _ _ _ h
      have hv:=jdv hg _ _ has
      obtain⟨⟨fn',f1,f2,f3⟩,f4⟩:=h2 ρ w (args.map e) hr hf hro hgl hwf (by simpa using hv)
      exact .inr (.inr ⟨f,args.map e,hres (pure .skip) _ (jh7 f1 f2 f3 _ w),f4⟩)
    ·rename_i hb
     split at hc
     ·cases hc
     ·rename_i hnext
      have hnext':Extern.findNext fn=none:=by simpa using hnext
      have fin:∀n as,opds gl args=some as→c=.xrow n as→
        ((n=0→Extern.find fn=some Extern.BytealgIndexByte.indexByte)∧(n=1→Extern.find fn=some Extern.BytealgCount.count)∧(fn.name== "runtime.NumGoroutine")=false)→
        OpEnds P e ⟨dst,.call ⟨.value (.func f),args,argTypes⟩,ty,pos,after,guard⟩ ρ H nx ro w v H' nx':=by
       rintro n as has rfl ⟨g0,g1,g2⟩
       simp only[hop] at h
       split at h
       ·rename_i v0 hv0
        simp only[Option.some.injEq,Prod.mk.injEq] at h
        obtain⟨rfl,rfl,rfl⟩:=h
        have hv:=jdv hg _ _ has
        obtain⟨v',x1,x2,x3,x4⟩:=j0l (P:=P) (w:=w) (args:=args.map e) hv0 (by simpa using hv)
        refine .inl ⟨v',w,hres (pure .skip) _ ?_,Ends.same hr x1⟩
        rcases x4 with x4 | x4
        ·rw[run_callFunc_extern hfn g2 (by simp[hb]) hnext' (g0 x4),x2 x4]
         rfl
        ·rw[run_callFunc_extern hfn g2 (by simp[hb]) hnext' (g1 x4),x3 x4]
         rfl
       ·cases h
      split at hc
      ·rename_i hname
       simp only[Option.map_eq_some_iff] at hc
       obtain⟨as,has,rfl⟩:=hc
       exact fin 0 as has rfl ⟨fun _=>j1c hname,fun h=>(by cases h),by rw[hname];decide⟩
      ·split at hc
       ·rename_i hname
        simp only[Option.map_eq_some_iff] at hc
        obtain⟨as,has,rfl⟩:=hc
        exact fin 1 as has rfl ⟨fun h=>(by cases h),fun _=>j1d hname,by rw[hname];decide⟩
       ·cases hc
   ·cases hc
  ·
   rename_i x a0 t0 hnf heq
   cases heq
   simp only[Option.bind_eq_bind,Option.bind_eq_some_iff,Option.some.injEq] at hc
   obtain⟨x',hx,as,has,rfl⟩:=hc
   have kx:=hg _ _ hx
   have hv:=jdv hg _ _ has
   simp only[hop,jfv] at h
   split at h
   ·rename_i f a b hq
    rw[hq] at kx
    simp only[VR] at kx
    obtain⟨xs,ys,l1,l2,l3⟩:=kx
    obtain⟨h1,h2⟩:=hcall _ _ _ _ _ _ _ _ h
    obtain⟨⟨fn',f1,f2,f3⟩,f4⟩:=h2 ρ w (xs++args.map e++ys) hr hf hro hgl hwf (by simpa using (l2.append hv).append l3)
    refine .inr (.inr ⟨f,xs++args.map e++ys,?_,f4⟩)
    simp only[execOp,resolve,l1,Deferred.ofValue,Sem.run_bind,Sem.run_pure,Result.andThen_ok,invoke]
    exact jh7 f1 f2 f3 _ w
   ·cases h
 all_goals (simp[jvo] at hc)
end
end Go.Vm
