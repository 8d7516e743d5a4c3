/-
  The machine's operations on memory, and calls: how they run.
  The machine's memory operations against the model's: new blocks, cells read and written.
  append, copy and their kin.
-/
import Derived.Test.YtonohffniohehaaGreatDoorVmA4
set_option linter.unusedSimpArgs false
set_option linter.unusedVariables false
set_option linter.unusedSectionVars false
set_option linter.unnecessarySimpa false
namespace Go.Vm
def j88 {β:Type}:List AV→Nat→Tr AV→(Tr AV→β)→β
 | [],_,t,k=>k t
 | a::l,i,t,k=>j2j a fun a=>Tr.setK a (i+1) t i fun t=>j88 l (i+1) t k
def put (l:List AV) (i:Nat) (t:Tr AV):Tr AV:=j88 l i t id
theorem jc4:∀(l:List AV) (i:Nat) (t:Tr AV) (β:Type) (k:Tr AV→β),j88 l i t k=k (put l i t)
 | [],_,_,_,_=>rfl
 | a::l,i,t,β,k=>by
   unfold put j88
   simp only[jkq,Tr.setK_eq]
   rw[jc4 l,jc4 l]
   rfl
theorem khh (i:Nat) (t:Tr AV):put [] i t=t:=rfl
theorem kdx (a:AV) (l:List AV) (i:Nat) (t:Tr AV):put (a::l) i t=put l (i+1) (t.set i a):=by
 unfold put
 rw[j88,jkq,Tr.setK_eq]
 rfl
theorem jgk:∀(l:List AV) (i:Nat) (t:Tr AV) (j:Nat),(put l i t).get j=if i≤j∧j<i+l.length then l[j-i]? else t.get j
 | [],i,t,j=>by rw[khh,if_neg (by simp only[List.length_nil];omega)]
 | a::l,i,t,j=>by
   rw[kdx,jgk l (i+1),Tr.get_set]
   simp only[List.length_cons]
   by_cases h1:j=i
   ·subst h1
    rw[if_neg (by omega),if_pos rfl,if_pos (by omega),Nat.sub_self]
    rfl
   ·by_cases h2:i≤j∧j<i+ (l.length+1)
    ·rw[if_pos (by omega),if_pos h2,show j-i=j-(i+1)+1 by omega]
     rfl
    ·rw[if_neg (by omega),if_neg h1,if_neg h2]
def take:Tr AV→Nat→Nat→Option (List AV)
 | _,_,0=>some []
 | t,i,n+1=>match t.get i with
   | none=>none
   | some a=>match take t (i+1) n with
     | none=>none
     | some l=>some (a::l)
theorem jme:∀(n:Nat) (t:Tr AV) (i:Nat) (l:List AV),take t i n=some l→l.length=n∧∀j,j<n→t.get (i+j)=l[j]?
 | 0,t,i,l,h=>by
   simp only[take,Option.some.injEq] at h
   subst h
   exact⟨rfl,fun j hj=>by omega⟩
 | n+1,t,i,l,h=>by
   simp only[take] at h
   split at h
   ·cases h
   ·rename_i a ha
    split at h
    ·cases h
    ·rename_i m hm
     cases h
     obtain⟨h1,h2⟩:=jme n t (i+1) m hm
     refine⟨by simp[h1],fun j hj=>?_⟩
     cases j with
     | zero=>simpa using ha
     | succ j=>rw[show i+ (j+1)=i+1+j by omega,h2 j (by omega)];rfl
def src (z:Nat) (H:Tr Blk) (n:Nat):AV→Option (List AV)
 | .nils=>bif n.beq 0 then some [] else none
 | .str s=>bif z.beq 1&&n.ble s.length then some ((s.take n).map fun c=>.int .u8 (.ofNat c)) else none
 | .sl b o len _ z'=>bif z'.beq z&&n.ble len then(match H.get b with
   | some (.cells c m)=>bif(o+n*z).ble m then take c o (n*z) else none
   | _=>none) else none
 | _=>none
def je2:AV→Option Nat
 | .nils=>some 0
 | .str s=>some s.length
 | .sl _ _ len _ _=>some len
 | _=>none
def u8s:List AV→Option (List Nat)
 | []=>some []
 | .int .u8 (.ofNat n)::l=>bif n.ble 255 then(match u8s l with
   | some r=>some (n::r)
   | none=>none) else none
 | _=>none
abbrev Mem:=Tr Blk×Nat
abbrev Out:=Option (AV×Tr Blk×Nat)
def kjs (k:Blk) (v:Nat→AV) (H:Tr Blk) (nx:Nat):Out:=
 Tr.setK k (nx+1) H nx fun H=>jkp (nx+1) fun nx'=>some (v nx,H,nx')
def kg9 (b:Nat) (k:Blk) (v:AV) (H:Tr Blk) (nx:Nat):Out:=
 Tr.setK k (b+1) H b fun H=>some (v,H,nx)
def jey (l:List AV) (v:Nat→AV) (H:Tr Blk) (nx:Nat):Out:=
 j88 l 0 .e fun c=>jkp l.length fun n=>kjs (.cells c n) v H nx
def jb4 (z:Nat) (ro:Nat) (H:Tr Blk) (nx:Nat) (x:AV) (k:Nat) (new:List AV):Out:=
 match x with
 | .nils=>bif k.beq 0 then some (.nils,H,nx) else jey new (fun b=>.sl b 0 k none z) H nx
 | .sl b o len cap z'=>
   bif !(z'.beq z) then none else
   bif k.beq 0 then some (x,H,nx) else
   match H.get b with
   | some (.cells c m)=>
     let need:=len+k
     bif(match cap with | some cp=>need.ble cp | none=>(o+need*z).ble m) then
      (bif(rx ro).ble b&&(o+need*z).ble m then j88 new (o+len*z) c fun c=>kg9 b (.cells c m) (.sl b o need cap z) H nx else none)
     else match src z H len x with
      | none=>none
      | some old=>match cap with
        | some _=>jey (old++new) (fun b=>.sl b 0 need none z) H nx
        | none=>bif(rx ro).ble b then Tr.delK H b fun H=>jey (old++new) (fun b=>.sl b 0 need none z) H nx else none
   | _=>none
 | _=>none
section
variable (call:FuncId→List AV→Tr Blk→Nat→Nat→Out) (ro:Nat) (g:Opd→AV) (H:Tr Blk) (nx:Nat)
def j2q (c:Nat):List Nat→Nat→Nat
 | [],n=>n
 | x::l,n=>bif x.beq c then j2q c l (n+1) else j2q c l n
def j6u (c:Nat):List Nat→Int
 | []=> -1
 | x::l=>bif x.beq c then 0 else match j6u c l with
   | .ofNat n=>.ofNat (n+1)
   | .negSucc _=> -1
def xrow (name:Nat) (args:List AV):Option AV:=
 match args with
 | [.str s,.int .u8 (.ofNat c)]=>bif c.ble 255 then(match name with
   | 0=>some (.int .i64 (j6u c s))
   | 1=>some (.int .i64 (.ofNat (j2q c s 0)))
   | _=>none) else none
 | _=>none
def jzg (agg:Bool) (ks:List Nat) (k:AV):List (AV×AV)→Nat→Option (Option (Nat×AV))
 | [],_=>some none
 | (a,v)::m,i=>match jyc agg ks k a with
   | some true=>some (some (i,v))
   | some false=>jzg agg ks k m (i+1)
   | none=>none
def kfz (ok:Bool) (v:AV) (b:Bool):AV:=bif ok then .tup [v,.bool b] else v
def j8e (k v:AV) (m:List (AV×AV)):Option (Nat×AV)→List (AV×AV)
 | some (i,_)=>m.set i (k,v)
 | none=>m++[(k,v)]
def hop:I→Out
 | .mkmap r=>match r.map g with
   | none | some (.int _ _)=>kjs (.mp []) (fun b=>.mp b) H nx
   | _=>none
 | .mlook agg ks z ok x k=>bif(jyc agg ks (g k) (g k)).isSome then match g x with
   | .nilm=>some (kfz ok z false,H,nx)
   | .mp b=>match H.get b with
     | some (.mp m)=>match jzg agg ks (g k) m 0 with
       | some (some (_,v))=>some (kfz ok v true,H,nx)
       | some none=>some (kfz ok z false,H,nx)
       | none=>none
     | _=>none
   | _=>none
   else none
 | .mset agg ks x k v=>match g x with
   | .mp b=>match H.get b with
     | some (.mp m)=>match jzg agg ks (g k) m 0 with
       | some r=>bif(rx ro).ble b&&(jyc agg ks (g k) (g k)).isSome then kg9 b (.mp (j8e (g k) (g v) m r)) (.tup []) H nx else none
       | none=>none
     | _=>none
   | _=>none
 | .box x=>jey (jcq (g x)) (fun b=>.ptr b 0) H nx
 | .alloc z=>jey z (fun b=>.ptr b 0) H nx
 | .bsl z n zs ps=>bif z.beq 0|| !((n*z).ble 1000000) then none else match j3f zs (ps.map fun(o,s,x)=>(o,s,g x)) with
   | some l=>bif l.length.beq (n*z) then jey l (fun b=>.sl b 0 n (some n) z) H nx else none
   | none=>none
 | .load agg n x=>match g x with
   | .ptr b o=>match H.get b with
     | some (.cells c m)=>bif(o+n).ble m then(match take c o n with
       | some l=>match mkv agg l with
         | some v=>some (v,H,nx)
         | none=>none
       | none=>none) else none
     | _=>none
   | _=>none
 | .store n x v=>match g x with
   | .ptr b o=>match H.get b with
     | some (.cells c m)=>bif(rx ro).ble b&&(o+n).ble m&&(jcq (g v)).length.beq n&&(jcq (g v)).all js3 then
        j88 (jcq (g v)) o c fun c=>kg9 b (.cells c m) (.tup []) H nx else none
     | _=>none
   | _=>none
 | .slA n z x lo hi mx=>match g x with
   | .ptr b o=>match H.get b with
     | some (.cells _ m)=>bif z.beq 0|| !((o+n*z).ble m) then none else match jjd n n (lo.map g) (hi.map g) (mx.map g) with
       | some (l,h,m)=>some (.sl b (o+l*z) (h-l) (some (m-l)) z,H,nx)
       | none=>none
     | _=>none
   | _=>none
 | .app z bytes x y=>match je2 (g y),je2 (g x) with
   | some k,some len=>bif(len+k).ble 10000000&&bytes.ble 1000&& !(z.beq 0) then(match src z H k (g y) with
     | some new=>bif new.all js3 then jb4 z ro H nx (g x) k new else none
     | none=>none) else none
   | _,_=>none
 | .copy z x y=>match je2 (g y),g x with
   | some k,.sl b o len _ z'=>
     let n:=bif k.ble len then k else len
     match src z H n (g y) with
     | some new=>bif n.beq 0 then some (.int .i64 0,H,nx) else match H.get b with
       | some (.cells c m)=>bif(rx ro).ble b&&z'.beq z&&(o+n*z).ble m&&new.all js3 then
          j88 new o c fun c=>kg9 b (.cells c m) (.int .i64 n) H nx else none
       | _=>none
     | none=>none
   | some _,.nils=>match src z H 0 (g y) with
     | some _=>some (.int .i64 0,H,nx)
     | none=>none
   | _,_=>none
 | .mksl z bytes zs l c=>match g l,g c with
   | .int _ (.ofNat l),.int _ (.ofNat c)=>bif l.ble c&&c.ble 1000000&&bytes.ble 1000&& !(z.beq 0)&&zs.length.beq z then
       jey (List.replicate c zs).flatten (fun b=>.sl b 0 l (some c) z) H nx else none
   | _,_=>none
 | .b2s x=>match g x with
   | .nils=>some (.str [],H,nx)
   | .sl b o len _ z=>match H.get b with
     | some (.cells c m)=>bif z.beq 1&&(o+len).ble m then(match take c o len with
       | some l=>match u8s l with
         | some s=>jvs s fun s=>some (.str s,H,nx)
         | none=>none
       | none=>none) else none
     | _=>none
   | _=>none
 | .s2b _=>none
 | .range x=>match g x with
   | .str s=>kjs (.iter s 0) (fun b=>.ptr b 0) H nx
   | _=>none
 | .next x=>match g x with
   | .ptr b 0=>match H.get b with
     | some (.iter s pos)=>match s[pos]? with
       | some c=>bif(rx ro).ble b&&c.ble 127 then jkp (pos+1) fun p=>kg9 b (.iter s p) (.tup [.bool true,.int .i64 (.ofNat pos),.int .i32 (.ofNat c)]) H nx else none
       | none=>some (.tup [.bool false],H,nx)
     | _=>none
   | _=>none
 | .call f args=>j2i (args.map g) fun as=>call f as H nx ro
 | .calld f args=>match g f with
   | .fn (.func f) a b=>j2i (a++args.map g++b) fun as=>call f as H nx ro
   | _=>none
 | .xrow name args=>match xrow name (args.map g) with
   | some v=>some (v,H,nx)
   | none=>none
 | _=>none
end
section compile
variable (P:Program) (gl:List Nat)
def kd3 (s:Nat) (ps:List (Nat×Operand)):Option (List (Nat×Nat×Opd)):=jpa gl (fun i=>some (i*s,s)) ps
def ka1:String:=match Extern.BytealgIndexByte.rows with | [_,x]=>x.1 | _=> ""
def ka2:String:=match Extern.BytealgCount.rows with | [_,x]=>x.1 | _=> ""
def kh1 (k:TypeId):Option (Bool×List Nat):=match P.underlying k with
 | some (.struct _) | some (.array _ _)=>(flat P 20 k).map fun ks=>(true,ks)
 | some (.int _)=>some (false,[1])
 | _=>none
def j9e (t:TypeId):Option AV:=match P.info? t with
 | some i=>match i.zero with
   | some (.agg cs)=>(cs.toList.mapM j1u).map .agg
   | some v=>j1u v
   | none=>none
 | none=>none
def jx7:Op→Option I
 | .makeMap t r=>match P.underlying t with
   | some (.map _ _)=>match r with
     | none=>some (.mkmap none)
     | some x=>(opd gl x).map fun y=>.mkmap (some y)
   | _=>none
 | .lookup t x k ok=>match P.underlying t with
   | some (.map kt e)=>do
     let s ←kh1 P kt
     some (.mlook s.1 s.2 (←j9e P e) ok (←opd gl x) (←opd gl k))
   | _=>none
 | .mapUpdate t x k v=>match P.underlying t with
   | some (.map kt _)=>do
     let s ←kh1 P kt
     some (.mset s.1 s.2 (←opd gl x) (←opd gl k) (←opd gl v))
   | _=>none
 | .box t x=>(opd gl x).map .box
 | .alloc t=>(jyg P t).map .alloc
 | .buildSlice t len ps=>match P.underlying t with
   | some (.slice e)=>do
     let s ←lay P e
     let z ←jyg P e
     if z.length=s.1 then some (.bsl s.1 len (List.replicate len z).flatten (←kd3 gl s.1 ps.toList)) else none
   | _=>none
 | .load t x=>do
   let s ←lay P t
   (opd gl x).map (.load s.2 s.1)
 | .store t x v=>do
   let s ←lay P t
   some (.store s.1 (←opd gl x) (←opd gl v))
 | .slice t x lo hi mx=>match P.underlying t with
   | some (.array n e)=>if 1000000<n then none else do
     let s ←lay P e
     some (.slA n s.1 (←opd gl x) (←kay gl lo) (←kay gl hi) (←kay gl mx))
   | _=>none
 | .call { callee:=.builtin .append,args,argTypes }=>match args.toList,argTypes.toList with
   | [x,y],t::u::_=>match P.underlying t with
     | some (.slice e)=>match P.info? e,P.underlying u,jyg P e with
       | some i,some (.slice _),some zs | some i,some .string,some zs=>if zs.length==i.size then do some (.app i.size i.bytes (←opd gl x) (←opd gl y)) else none
       | _,_,_=>none
     | _=>none
   | _,_=>none
 | .call { callee:=.builtin .copy,args,argTypes }=>match args.toList,argTypes.toList with
   | [x,y],t::_=>match P.underlying t with
     | some (.slice e)=>do
       let s ←lay P e
       some (.copy s.1 (←opd gl x) (←opd gl y))
     | _=>none
   | _,_=>none
 | .makeSlice t l c=>match P.underlying t with
   | some (.slice e)=>match P.info? e with
     | some i=>do some (.mksl i.size i.bytes (←jyg P e) (←opd gl l) (←opd gl c))
     | none=>none
   | _=>none
 | .convert s t x=>match P.underlying s,P.underlying t with
   | some (.slice e),some .string=>match P.underlying e with
     | some (.int .u8)=>(opd gl x).map .b2s
     | _=>none
   | some .string,some (.slice e)=>match P.underlying e with
     | some (.int .u8)=>(opd gl x).map .s2b
     | _=>none
   | _,_=>none
 | .range t x=>match P.underlying t with
   | some .string=>(opd gl x).map .range
   | _=>none
 | .next x true=>(opd gl x).map .next
 | .call { callee:=.value (.func f),args, .. }=>match P.funcs[f]? with
   | some fn=>match fn.body with
     | some _=>if fn.name== "runtime.NumGoroutine" then none else(opds gl args).map (.call f)
     | none=>if(Extern.findNext fn).isSome then none
       else if fn.name=ka1 then(opds gl args).map (.xrow 0)
       else if fn.name=ka2 then(opds gl args).map (.xrow 1) else none
   | none=>none
 | .call { callee:=.value x,args, .. }=>do some (.calld (←opd gl x) (←opds gl args))
 | _=>none
inductive J where
 | p (i:I)
 | h (i:I)
def cop (o:Op):Option J:=match jti P gl o with
 | some c=>some (.p c)
 | none=>(jx7 P gl o).map .h
end compile
end Go.Vm
namespace Go.Vm
section
variable {P:Program} {ρ:RM}
theorem jm3 {k:Blk} {v:Nat→AV} {H:Tr Blk} {nx:Nat}:kjs k v H nx=some (v nx,H.set nx k,nx+1):=by
 unfold kjs
 rw[Tr.setK_eq,jhv]
 rfl
theorem jdd {b:Nat} {k:Blk} {v:AV} {H:Tr Blk} {nx:Nat}:kg9 b k v H nx=some (v,H.set b k,nx):=by
 unfold kg9
 rw[Tr.setK_eq]
 rfl
theorem jaq {l:List AV} {v:Nat→AV} {H:Tr Blk} {nx:Nat}:jey l v H nx=some (v nx,H.set nx (.cells (put l 0 .e) l.length),nx+1):=by
 unfold jey
 rw[jc4,jhv,jm3]
theorem jnd {H:Tr Blk} {w:World} {nx ro:Nat} {l:List AV} {cs:Array Value} {elem:TypeId} {fr:Nat×Nat} {lim:Nat} (h:HR ρ H w) (hn:ρ nx=none) (hro:ro≤nx)
  (hl:VRs ρ l (cs.toList.take l.length)) (h1:l.length≤lim) (h2:lim≤cs.size) (h3:∀i,¬(fr.1≤i∧i<fr.2)):
  HR (ρ.upd nx ⟨w.heap.size,0,lim⟩) (H.set nx (.cells (put l 0 .e) l.length)) (w.alloc (.cells cs elem fr))∧
   Step ρ H nx ro w (ρ.upd nx ⟨w.heap.size,0,lim⟩) (H.set nx (.cells (put l 0 .e) l.length)) (nx+1) (w.alloc (.cells cs elem fr)):=by
 refine h.alloc hn _ _ _ rfl ?_ hro
 refine⟨cs,elem,fr,?_,by simpa using h1,h2,fun i _ _=>h3 i,fun i hi=>?_⟩
 ·show(w.heap.push _)[w.heap.size]?=_
  simp
 ·obtain⟨a,ha⟩:∃a,l[i]?=some a:=⟨l[i],by simp[hi]⟩
  obtain⟨v,hv,hr⟩:=hl.get ha
  refine⟨a,v,?_,?_,VR.mono (RM.le_upd hn) _ _ hr⟩
  ·rw[jgk,if_pos (by omega),Nat.sub_zero,ha]
  ·rw[List.getElem?_take,if_pos hi] at hv
   simpa using hv
theorem jiu {H:Tr Blk} {w:World} {b o n m:Nat} {c:Tr AV} {l:List AV} {lc:Loc} (h:HR ρ H w) (hb:H.get b=some (.cells c m)) (hl:ρ b=some lc) (hn:o+n≤m) (ht:take c o n=some l):
  ∃vs:List Value,VRs ρ l vs∧vs.length=n∧(∀j v,vs[j]?=some v→w.cell? ((⟨lc.blk,lc.base+o,none⟩:Addr).add j)=some v)∧(loadCells ⟨lc.blk,lc.base+o,none⟩ n).run P w=.ok vs.toArray w:=by
 obtain⟨cs,elem,fr,h1,h2,h3,h4,h5⟩:=h.blk b _ lc hb hl
 obtain⟨t1,t2⟩:=jme n c o l ht
 have hsz:lc.base+m≤cs.size:=by omega
 refine⟨(cs.toList.drop (lc.base+o)).take n,?_,by simp;omega,?_,?_⟩
 ·rw[jjf]
  refine⟨by simp;omega,fun i a v ha hv=>?_⟩
  have hi:i<n:=by rw[←t1];exact(List.getElem?_eq_some_iff.1 ha).1
  obtain⟨a',v',h6,h7,h8⟩:=h5 (o+i) (by omega)
  rw[t2 i hi,ha] at h6
  cases h6
  rw[List.getElem?_take,if_pos hi,List.getElem?_drop] at hv
  have:cs[lc.base+ (o+i)]?=some v:=by rw[←hv];simp[Nat.add_assoc]
  rw[h7] at this
  cases this
  exact h8
 ·intro j v hv
  rw[jhc]
  rw[List.getElem?_take] at hv
  split at hv
  ·rw[List.getElem?_drop] at hv
   simp only[World.cell?,h1,Option.isSome_none,Bool.false_eq_true,if_false]
   simpa[Nat.add_assoc] using hv
  ·cases hv
 ·have hlen:((cs.toList.drop (lc.base+o)).take n).length=n:=by simp;omega
  have:=run_loadCells_list (P:=P) w ⟨lc.blk,lc.base+o,none⟩ ((cs.toList.drop (lc.base+o)).take n) (fun j v hv=>by
   rw[jhc]
   rw[List.getElem?_take] at hv
   split at hv
   ·rw[List.getElem?_drop] at hv
    simp only[World.cell?,h1,Option.isSome_none,Bool.false_eq_true,if_false]
    simpa[Nat.add_assoc] using hv
   ·cases hv)
  rwa[hlen] at this
theorem jhe (b:Nat):∀(vs:List Value) (o:Nat) (w:World) (cs:Array Value) (elem:TypeId) (fr:Nat×Nat),w.heap[b]?=some (.cells cs elem fr)→
  (w.setCells b o vs).os=w.os∧(w.setCells b o vs).tape=w.tape∧(w.setCells b o vs).output=w.output∧(w.setCells b o vs).heap.size=w.heap.size∧
    (∀x,x≠b→(w.setCells b o vs).heap[x]?=w.heap[x]?)∧
    ∃cs',(w.setCells b o vs).heap[b]?=some (.cells cs' elem fr)∧cs'.size=cs.size∧∀j,j<cs.size→cs'[j]?=if o≤j∧j<o+vs.length then vs[j-o]? else cs[j]?
 | [],o,w,cs,elem,fr,h=>⟨rfl,rfl,rfl,rfl,fun _ _=>rfl,cs,h,rfl,fun j _=>by rw[if_neg (by simp only[List.length_nil];omega)]⟩
 | v::vs,o,w,cs,elem,fr,h=>by
   have h0:(w.setCell ⟨b,o,none⟩ v).heap[b]?=some (.cells (cs.setIfInBounds o v) elem fr):=by
    simp only[World.setCell,Array.getElem?_modify,if_true,h]
    simp
   obtain⟨a1,a2,a3,a4,a5,cs',a6,a7,a8⟩:=jhe b vs (o+1) (w.setCell ⟨b,o,none⟩ v) _ elem fr h0
   refine⟨a1,a2,a3,by rw[World.setCells,a4];simp[World.setCell],fun x hx=>?_,cs',a6,by simpa using a7,fun j hj=>?_⟩
   ·rw[World.setCells,a5 x hx]
    exact Go.RowKit.Below.heap_setCell w ⟨b,o,none⟩ v x hx
   ·rw[a8 j (by simpa using hj)]
    simp only[List.length_cons,Array.getElem?_setIfInBounds]
    by_cases h1:j=o
    ·subst h1
     rw[if_neg (by omega),if_pos rfl,if_pos hj,if_pos (by omega),Nat.sub_self]
     rfl
    ·by_cases h2:o≤j∧j<o+ (vs.length+1)
     ·rw[if_pos (by omega),if_pos h2,show j-o=j-(o+1)+1 by omega]
      rfl
     ·rw[if_neg (by omega),if_neg (by omega),if_neg h2]
theorem jpj {H:Tr Blk} {w:World} {nx ro b o m:Nat} {c:Tr AV} {l:List AV} {vs:List Value} {lc:Loc} (h:HR ρ H w) (hb:H.get b=some (.cells c m)) (hl:ρ b=some lc) (hro:rx ro≤b)
  (hv:VRs ρ l vs) (hn:o+l.length≤m) (h1:l.all js3=true):
  ∃w',(storeCells ⟨lc.blk,lc.base+o,none⟩ vs).run P w=.ok () w'∧HR ρ (H.set b (.cells (put l o c) m)) w'∧Step ρ H nx ro w ρ (H.set b (.cells (put l o c) m)) nx w':=by
 obtain⟨cs,elem,fr,k1,k2,k3,k4,k5⟩:=h.blk b _ lc hb hl
 have hlen:=hv.length
 obtain⟨a1,a2,a3,a4,a5,cs',a6,a7,a8⟩:=jhe lc.blk vs (lc.base+o) w cs elem fr k1
 refine⟨w.setCells lc.blk (lc.base+o) vs,?_,?_⟩
 ·have:=run_storeCells_cells (P:=P) lc.blk (lc.base+o) vs 0 w (fun j hj=>?_) (fun j hj=>?_) (fun v hv'=>?_)
  ·simpa using this
  ·simp only[World.cell?,k1,Option.isSome_none,Bool.false_eq_true,if_false,Nat.add_zero]
   rw[Array.getElem?_eq_getElem (by omega)]
   rfl
  ·have:=k4 (lc.base+o+j) (by omega) (fun _=>by omega)
   simp only[World.frozen?,k1,Nat.add_zero]
   simp only[Bool.and_eq_false_iff,decide_eq_false_iff_not]
   omega
  ·obtain⟨j,hj⟩:=List.getElem?_of_mem hv'
   have hjl:j<l.length:=by rw[hlen];exact(List.getElem?_eq_some_iff.1 hj).1
   obtain⟨v2,h2,h3⟩:=hv.get (i:=j) (a:=l[j]) (by simp[hjl])
   rw[hj] at h2
   cases h2
   rw[h3.one]
   exact List.all_eq_true.1 h1 _ (List.getElem_mem hjl)
 ·refine h.write _ lc (by rw[hb];rfl) hl hro a1 a2 a3 a4 a5 ?_
  refine⟨cs',elem,fr,a6,k2,by omega,k4,fun i hi=>?_⟩
  rw[jgk,a8 _ (by omega)]
  by_cases hc:o≤i∧i<o+l.length
  ·rw[if_pos hc,if_pos (by omega)]
   obtain⟨v2,h2,h3⟩:=hv.get (i:=i-o) (a:=l[i-o]) (by rw[List.getElem?_eq_getElem])
   refine⟨l[i-o],v2,by rw[List.getElem?_eq_getElem],?_,h3⟩
   rw[show lc.base+i-(lc.base+o)=i-o by omega]
   exact h2
  ·rw[if_neg hc,if_neg (by omega)]
   exact k5 i hi
end
end Go.Vm
namespace Go.Vm
section
variable {P:Program} {ρ:RM}
theorem jml {a:AV} {v:Value} {n:Nat} (w:World) (h:je2 a=some n) (hv:VR ρ a v):(Builtin.lenOf v).run P w=.ok n w:=by
 unfold je2 at h
 split at h<;>try (cases h;done)
 all_goals cases h
 all_goals simp only[VR] at hv
 ·subst hv;rfl
 ·obtain⟨bs,rfl,rfl⟩:=hv
  simp[Builtin.lenOf]
 ·obtain⟨l,c,off,_,rfl,_⟩:=hv
  rfl
theorem jmk {z n:Nat} {H:Tr Blk} {a:AV} {v:Value} {l:List AV} {w:World} (h:src z H n a=some l) (hv:VR ρ a v) (hr:HR ρ H w):
  ∃vs:List Value,VRs ρ l vs∧vs.length=n*z∧∀d,(Builtin.firstCells z n v).run P { w with drawn:=d }=.ok vs.toArray { w with drawn:=d }:=by
 unfold src at h
 split at h
 ·simp only[VR] at hv
  subst hv
  rw[jaa] at h
  by_cases hn:n=0
  ·simp only[hn,decide_true,cond_true,Option.some.injEq] at h
   subst h
   exact⟨[],rfl,by simp[hn],fun d=>rfl⟩
  ·simp[hn] at h
 ·rename_i s
  simp only[VR] at hv
  obtain⟨bs,rfl,rfl⟩:=hv
  rw[jaa,jae] at h
  by_cases hn:z=1∧n≤bs.size
  ·have hn2:n≤(bs.data.toList.map UInt8.toNat).length:=by simpa using hn.2
   simp only[hn.1,hn2,decide_true,Bool.and_self,cond_true,Option.some.injEq] at h
   subst h
   refine⟨(bs.data.toList.take n).map fun b=>.int .u8 (b.toNat:Int),?_,?_,fun d=>?_⟩
   ·rw[jjf]
    refine⟨by simp,fun i a v ha hv=>?_⟩
    rw[List.getElem?_map] at ha hv
    rw[←List.map_take,List.getElem?_map] at ha
    cases hq:(bs.data.toList.take n)[i]? with
    | none=>rw[hq] at hv;cases hv
    | some b=>
      rw[hq] at ha hv
      simp only[Option.map_some,Option.some.injEq] at ha hv
      subst ha;subst hv
      simp[VR]
   ·have:=hn.2;simp[hn.1];omega
   ·simp only[Builtin.firstCells,Sem.run_pure]
    congr 1
    apply Array.ext'
    simp[List.map_take]
  ·have:(decide (z=1)&&decide (n≤(bs.data.toList.map UInt8.toNat).length))=false:=by
    rw[Bool.and_eq_false_iff];simp;omega
   simp only[this,cond_false,reduceCtorEq] at h
 ·rename_i b o len cap z'
  simp only[VR] at hv
  obtain⟨lc,c,off,k1,rfl,k3,k4,k5,k6⟩:=hv
  rw[jaa,jae] at h
  by_cases hn:z'=z∧n≤len
  ·simp only[hn.1,hn.2,decide_true,Bool.and_self,cond_true] at h
   split at h
   ·rename_i ct m hb
    rw[jae] at h
    by_cases hm:o+n*z≤m
    ·simp only[hm,decide_true,cond_true] at h
     obtain⟨vs,r1,r2,r3,r4⟩:=jiu (P:=P) hr hb k1 hm h
     refine⟨vs,r1,r2,fun d=>?_⟩
     simp only[Builtin.firstCells]
     by_cases hn0:n=0
     ·subst hn0
      have:vs=[]:=List.length_eq_zero_iff.1 (by simpa using r2)
      subst this
      simp[loadCells,loadCellsFrom]
     ·have:off=lc.base+o:=by omega
      subst this
      have:=run_loadCells_list (P:=P) { w with drawn:=d } ⟨lc.blk,lc.base+o,none⟩ vs (fun j v hv=>r3 j v hv)
      rwa[r2] at this
    ·simp[hm] at h
   ·cases h
  ·have:(decide (z'=z)&&decide (n≤len))=false:=by
    rw[Bool.and_eq_false_iff];simp;omega
   simp[this] at h
 ·cases h
theorem j2h (newLen:Nat):∀(r c:Nat),c≤2*newLen+400→Builtin.growBy newLen r c≤2*newLen+400
 | 0,c,h=>h
 | r+1,c,h=>by
   simp only[Builtin.growBy]
   split
   ·exact h
   ·exact j2h newLen r _ (by omega)
theorem j8d {newLen oldCap:Nat} (h:oldCap<newLen):Builtin.nextslicecap newLen oldCap≤2*newLen+400:=by
 unfold Builtin.nextslicecap
 split
 ·omega
 ·split
  ·omega
  ·exact j2h _ _ _ (by omega)
theorem jwl (zero:Array Value) (n:Nat):(Builtin.zeroCells zero n).size=n*zero.size:=by simp[Builtin.zeroCells]
def Ends (ρ:RM) (H:Tr Blk) (nx ro:Nat) (w:World) (v:AV) (H':Tr Blk) (nx':Nat) (v':Value) (w':World):Prop:=
 ∃ρ',Step ρ H nx ro w ρ' H' nx' w'∧HR ρ' H' w'∧VR ρ' v v'
theorem j3b {t u e:TypeId} {i:TypeInfo} {zv:Value} {ty:TypeId} {z ro k len:Nat} {H H':Tr Blk} {nx nx':Nat} {x y r:AV} {new:List AV} {X Y:Value} {w:World}
  (hu:P.underlying t=some (.slice e)) (hi:P.info? e=some i) (hz:i.zero=some zv) (hzs:zv.cells.size=i.size) (huu:(∃e2,P.underlying u=some (.slice e2))∨P.underlying u=some .string)
  (hsz:z=i.size) (hz0:0<z) (hby:i.bytes≤1000) (hlen:je2 x=some len) (hlim:len+k≤10000000) (hk:je2 y=some k)
  (hs:src z H k y=some new) (h1:new.all js3=true) (h:jb4 z ro H nx x k new=some (r,H',nx')) (hx:VR ρ x X) (hy:VR ρ y Y) (hr:HR ρ H w) (hn:Free ρ nx nx') (hro:ro≤nx):
  ∃v' w',(Builtin.append_ #[t,u] ty #[X,Y]).run P w=.ok v' w'∧Ends ρ H nx ro w r H' nx' v' w':=by
 subst hsz
 obtain⟨vs,v1,v2,v3⟩:=jmk (P:=P) hs hy hr
 have hlenY:=jml (P:=P) w hk hy
 have hnl:=v1.length
 have hzer:∀w:World,((do match (some u:Option TypeId) with
  | some xType=>do pure ((←underlying xType) matches .int _)
  | none=>pure false:Sem Bool)).run P w=.ok false w:=by
  intro w
  rcases huu with⟨e2,huu⟩ | huu<;>simp[run_underlying huu]
 have v3':(Builtin.firstCells i.size k Y).run P w=.ok vs.toArray w:=v3 w.drawn
 have grow:∀(s base sLen sCap) (old:List AV) (olds:List Value),X=.slice base sLen sCap→s=X→sLen=len→sCap<len+k→VRs ρ old olds→olds.length=sLen*i.size→
   (∀d,(Builtin.firstCells i.size sLen X).run P { w with drawn:=d }=.ok olds.toArray { w with drawn:=d })→
   ∃(newCap:Nat) (cs:Array Value) (d:Nat),(len+k≤newCap∧newCap<9223372036854775808)∧cs.size=newCap*i.size∧VRs ρ (old++new) (cs.toList.take (old++new).length)∧
    (Builtin.append_ #[t,u] ty #[X,Y]).run P w=.ok (.slice (some ⟨w.heap.size,0,none⟩) (len+k) newCap) (World.alloc { w with drawn:=d } (.cells cs e)):=by
  rintro s base sLen sCap old olds rfl _ rfl hcap ho hol hf
  have hol':=ho.length
  refine⟨(Question.appendCap (sLen+k) sCap e).cut (w.tape w.drawn (.appendCap (sLen+k) sCap e)),(olds++vs++(Builtin.zeroCells zv.cells ((Question.appendCap (sLen+k) sCap e).cut (w.tape w.drawn (.appendCap (sLen+k) sCap e))-(sLen+k))).toList).toArray,w.drawn+1,?_,?_,?_,?_⟩
  ·have:=Nat.mod_lt (w.tape w.drawn (.appendCap (sLen+k) sCap e)) (show 0<2^63-(sLen+k) by omega)
   simp only[Question.cut];omega
  ·have h9:sLen+k≤(Question.appendCap (sLen+k) sCap e).cut (w.tape w.drawn (.appendCap (sLen+k) sCap e)):=by simp only[Question.cut];omega
   generalize (Question.appendCap (sLen+k) sCap e).cut (w.tape w.drawn (.appendCap (sLen+k) sCap e))=N at *
   simp only[List.size_toArray,List.length_append,Array.length_toList,jwl,hzs,hol,v2,←Nat.add_mul]
   congr 1
   omega
  ·have:(old++new).length=(olds++vs).length:=(ho.append v1).length
   rw[this]
   rw[List.take_left' (by simp)]
   exact ho.append v1
  ·have hneed:¬(sLen+k≤sCap):=by omega
   have hnc:¬(Builtin.nextslicecap (sLen+k) sCap*i.bytes > 2^48):=by
    have h5:=j8d hcap
    have h6:Builtin.nextslicecap (sLen+k) sCap*i.bytes≤(2* (sLen+k)+400)*1000:=Nat.mul_le_mul h5 hby
    omega
   have hmx:¬(((sLen+k:Nat):Int) > IntKind.i64.max):=by
    simp[IntKind.max,IntKind.signed,IntKind.bits];omega
   have hf':=hf (w.drawn+1)
   have v3'':=v3 (w.drawn+1)
   rcases huu with⟨e2,huu⟩ | huu
   all_goals
    simp only[Builtin.append_,List.getElem?_toArray,List.getElem?_cons_zero,List.getElem?_cons_succ,Sem.run_bind,run_underlying hu,run_underlying huu,Result.andThen_ok,jbj hi,Sem.run_pure,Bool.false_eq_true,if_false,hlenY,hneed,Sem.run_ite,jts hi,hnc,hmx,false_and,run_choose,Question.forced,run_askRoom,hf',Bool.not_false,if_true,v3'',jjv hi hz,newRow,run_newObj]
    congr 4
    apply Array.ext'
    simp
 have room:∀(base sLen sCap) (w':World),X=.slice base sLen sCap→sLen=len→len+k≤sCap→
   (match base with | some a=>(storeCells (a.add (len*i.size)) vs).run P w=.ok () w' | none=>w'=w)→
   (Builtin.append_ #[t,u] ty #[X,Y]).run P w=.ok (.slice base (len+k) sCap) w':=by
  rintro base sLen sCap w' rfl rfl hcap hst
  rcases huu with⟨e2,huu⟩ | huu
  all_goals
   simp only[Builtin.append_,List.getElem?_toArray,List.getElem?_cons_zero,List.getElem?_cons_succ,Sem.run_bind,run_underlying hu,run_underlying huu,Result.andThen_ok,jbj hi,Sem.run_pure,Bool.false_eq_true,if_false,hlenY,hcap,Sem.run_ite,if_true,Bool.not_false,v3']
   cases base with
   | none=>simp only at hst;subst hst;simp
   | some a=>simp only at hst;simp[hst]
 have grown:∀(base sLen sCap) (old:List AV) (olds:List Value),X=.slice base sLen sCap→sLen=len→sCap<len+k→VRs ρ old olds→olds.length=sLen*i.size→
   (∀d,(Builtin.firstCells i.size sLen X).run P { w with drawn:=d }=.ok olds.toArray { w with drawn:=d })→ρ nx=none→
   ∀(H2:Tr Blk),(∀b,(H2.get b).isSome→H2.get b=H.get b)→(∀b,b<ro→b<nx→H2.get b=H.get b)→
   ∃v' w',(Builtin.append_ #[t,u] ty #[X,Y]).run P w=.ok v' w'∧
    Ends ρ H nx ro w (.sl nx 0 (len+k) none i.size) (H2.set nx (.cells (put (old++new) 0 .e) (old++new).length)) (nx+1) v' w':=by
  intro base sLen sCap old olds e1 e2 hcap ho hol hf hnn H2 hH2 hH2o
  obtain⟨N,cs,d,g1,g2,g3,g4⟩:=grow X base sLen sCap old olds e1 rfl e2 hcap ho hol hf
  refine⟨_,_,g4,?_⟩
  have hr2:HR ρ H2 { w with drawn:=d }:=by
   refine⟨fun b k l hb hl=>?_,fun b b' l l' hb hb'=>?_⟩
   ·exact(hr.drew d).blk b k l (by rw[←hH2 b (by rw[hb];rfl)];exact hb) hl
   ·exact hr.inj b b' l l' (by rw[←hH2 b hb];exact hb) (by rw[←hH2 b' hb'];exact hb')
  have st:Step ρ H nx ro w ρ H2 nx { w with drawn:=d }:=
   ⟨rfl,rfl,rfl,Nat.le_refl _,Nat.le_refl _,fun _ _=>rfl,fun _ _ _=>rfl,fun b l h h'=>by omega,fun b hb=>.inr (by rw[←hH2 b hb];exact hb),hH2o⟩
  have hll:(old++new).length=(len+k)*i.size:=by
   rw[(ho.append v1).length,List.length_append,hol,v2,e2,Nat.add_mul]
  have hle:(len+k)*i.size≤N*i.size:=Nat.mul_le_mul_right _ g1.1
  have:=jnd (elem:=e) (fr:=(0,0)) (lim:=N*i.size) hr2 hnn hro g3 (by omega) (by omega) (fun j=>by omega)
  refine⟨_,st.trans this.2,this.1,?_⟩
  simp only[VR]
  exact⟨⟨w.heap.size,0,N*i.size⟩,N,0,by simp[RM.upd],rfl,g1.1,hz0,.inl rfl,.inr ⟨trivial,by simp,g1.2⟩⟩
 cases x
 case nils=>
  simp only[VR] at hx
  simp only[je2,Option.some.injEq] at hlen
  subst hlen
  simp only[jb4,jaa] at h
  by_cases hk0:k=0
  ·simp only[hk0,decide_true,cond_true,Option.some.injEq,Prod.mk.injEq] at h
   obtain⟨rfl,rfl,rfl⟩:=h
   refine⟨_,w,room none 0 0 w hx rfl (by omega) rfl,ρ,Step.refl _ _ _ _ _,hr,?_⟩
   simp[VR,hk0]
  ·simp only[hk0,decide_false,cond_false,jaq,Option.some.injEq,Prod.mk.injEq] at h
   obtain⟨rfl,rfl,rfl⟩:=h
   have:=grown none 0 0 [] [] hx rfl (by omega) rfl (by simp) (fun d=>by rw[hx];rfl) (hn nx (Nat.le_refl _) (by omega)) H (fun _ _=>rfl) (fun _ _ _=>rfl)
   simpa using this
 case sl b o sl0 cap z'=>
  have hx0:=hx
  simp only[VR] at hx
  obtain⟨lc,c,off,k1,rfl,k3,k4,k5,k6⟩:=hx
  simp only[je2,Option.some.injEq] at hlen
  subst hlen
  simp only[jb4,jaa] at h
  by_cases hzz:z'=i.size
  ·subst hzz
   simp only[decide_true,Bool.not_true,cond_false] at h
   by_cases hk0:k=0
   ·simp only[hk0,decide_true,cond_true,Option.some.injEq,Prod.mk.injEq] at h
    obtain⟨rfl,rfl,rfl⟩:=h
    have hvs:vs=[]:=List.length_eq_zero_iff.1 (by rw[v2,hk0];simp)
    refine⟨_,w,room _ sl0 c w rfl rfl (by omega) (by simp[hvs,storeCells]),ρ,Step.refl _ _ _ _ _,hr,?_⟩
    simpa[hk0] using hx0
   ·simp only[hk0,decide_false,cond_false] at h
    split at h
    ·rename_i ct m hb
     have hlm:=hr.blk b _ lc hb k1
     have hnm:lc.base+m≤lc.lim:=by obtain⟨_,_,_,_,q,_⟩:=hlm;exact q
     have hlenl:new.length=k*i.size:=hnl.trans v2
     have hadd:sl0*i.size+k*i.size=(sl0+k)*i.size:=(Nat.add_mul _ _ _).symm
     have inplace:o+ (sl0+k)*i.size≤m→sl0+k≤c→rx ro≤b→∃v' w',(Builtin.append_ #[t,u] ty #[.slice (some ⟨lc.blk,off,none⟩) sl0 c,Y]).run P w=.ok v' w'∧
       Ends ρ H nx ro w (.sl b o (sl0+k) cap i.size) (H.set b (.cells (put new (o+sl0*i.size) ct) m)) nx v' w':=by
      intro q1 q2 q3
      have hoff:off=lc.base+o:=by omega
      subst hoff
      obtain⟨w',s1,s2,s3⟩:=jpj (P:=P) (nx:=nx) (o:=o+sl0*i.size) hr hb k1 q3 v1 (by omega) h1
      refine⟨_,w',room _ sl0 c w' rfl rfl q2 ?_,ρ,s3,s2,?_⟩
      ·simp only[jhc]
       rw[Nat.add_assoc]
       exact s1
      ·simp only[VR]
       exact⟨lc,c,_,k1,rfl,q2,k4,.inl rfl,k6⟩
     cases cap with
     | some cp=>
       have hcp:cp=c:=by
        rcases k6 with⟨q,_⟩ | ⟨q,_⟩
        ·exact Option.some.inj q
        ·cases q
       subst hcp
       simp only[jae] at h
       by_cases hfit:sl0+k≤cp
       ·simp only[hfit,decide_true,cond_true] at h
        by_cases hc2:rx ro≤b∧o+ (sl0+k)*i.size≤m
        ·simp only[hc2.1,hc2.2,decide_true,Bool.and_self,cond_true,jc4,jdd,Option.some.injEq,Prod.mk.injEq] at h
         obtain⟨rfl,rfl,rfl⟩:=h
         exact inplace hc2.2 hfit hc2.1
        ·have:(decide (rx ro≤b)&&decide (o+ (sl0+k)*i.size≤m))=false:=by
          rw[Bool.and_eq_false_iff];simp;omega
         simp only[this,cond_false,reduceCtorEq] at h
       ·simp only[hfit,decide_false,cond_false] at h
        split at h
        ·cases h
        ·rename_i old hold
         simp only[jaq,Option.some.injEq,Prod.mk.injEq] at h
         obtain⟨rfl,rfl,rfl⟩:=h
         obtain⟨olds,o1,o2,o3⟩:=jmk (P:=P) hold hx0 hr
         exact grown _ sl0 cp old olds rfl rfl (by omega) o1 o2 o3 (hn nx (Nat.le_refl _) (by omega)) H (fun _ _=>rfl) (fun _ _ _=>rfl)
     | none=>
       have hcl2:lc.base+o+c*i.size=lc.lim∧c<9223372036854775808:=by
        rcases k6 with⟨q,_⟩ | ⟨_,q⟩
        ·cases q
        ·exact q
       have hcl:=hcl2.1
       simp only[jae] at h
       by_cases hfit:o+ (sl0+k)*i.size≤m
       ·simp only[hfit,decide_true,cond_true] at h
        by_cases hc2:rx ro≤b
        ·simp only[hc2,decide_true,Bool.and_self,cond_true,jc4,jdd,Option.some.injEq,Prod.mk.injEq] at h
         obtain⟨rfl,rfl,rfl⟩:=h
         refine inplace hfit ?_ hc2
         have:(sl0+k)*i.size≤c*i.size:=by omega
         exact Nat.le_of_mul_le_mul_right this hz0
        ·simp[hc2] at h
       ·simp only[hfit,decide_false,cond_false] at h
        split at h
        ·cases h
        ·rename_i old hold
         by_cases hc2:rx ro≤b
         ·simp only[hc2,decide_true,cond_true,Tr.delK_eq,jaq,Option.some.injEq,Prod.mk.injEq] at h
          obtain⟨rfl,rfl,rfl⟩:=h
          obtain⟨hrb,hRO⟩:=jk5 hc2
          have inj1:∀b' l',(H.get b').isSome→ρ b'=some l'→l'.blk=lc.blk→b'=b:=fun b' l' h1 h2 h3=>by
           rcases hr.inj b' b l' lc h1 (by rw[hb];rfl) h2 k1 h3 with h4 | h4
           ·exact h4
           ·omega
          obtain⟨olds,o1,o2,o3⟩:=jmk (P:=P) hold hx0 hr
          have hnn:=hn nx (Nat.le_refl _) (by omega)
          have hdel:∀b',((H.del b).get b').isSome→(H.del b).get b'=H.get b':=fun b' hb'=>by
           rw[Tr.get_del] at hb' ⊢
           split at hb'
           ·cases hb'
           ·rename_i hne;rw[if_neg hne]
          have hdelo:∀b',b'<ro→b'<nx→(H.del b).get b'=H.get b':=fun b' h1 _=>by
           rw[Tr.get_del,if_neg (by omega)]
          by_cases hcap:sl0+k≤c
          ·
           have hoff:off=lc.base+o:=by omega
           subst hoff
           obtain⟨cs,elem,fr,q1,q2,q3,q4,q5⟩:=hlm
           have hmul:(sl0+k)*i.size≤c*i.size:=Nat.mul_le_mul_right _ hcap
           obtain⟨a1,a2,a3,a4,a5,cs',a6,a7,a8⟩:=jhe lc.blk vs (lc.base+o+sl0*i.size) w cs elem fr q1
           have hst:(storeCells ⟨lc.blk,lc.base+o+sl0*i.size,none⟩ vs).run P w=.ok () (w.setCells lc.blk (lc.base+o+sl0*i.size) vs):=by
            have:=run_storeCells_cells (P:=P) lc.blk (lc.base+o+sl0*i.size) vs 0 w (fun j hj=>?_) (fun j hj=>?_) (fun v hv'=>?_)
            ·simpa using this
            ·simp only[World.cell?,q1,Option.isSome_none,Bool.false_eq_true,if_false,Nat.add_zero]
             rw[Array.getElem?_eq_getElem (by omega)]
             rfl
            ·have:=q4 (lc.base+o+sl0*i.size+j) (by omega) (fun _=>by omega)
             simp only[World.frozen?,q1,Nat.add_zero]
             simp only[Bool.and_eq_false_iff,decide_eq_false_iff_not]
             omega
            ·obtain⟨j,hj⟩:=List.getElem?_of_mem hv'
             have hjl:j<new.length:=by rw[hnl];exact(List.getElem?_eq_some_iff.1 hj).1
             obtain⟨v2',h2,h3⟩:=v1.get (i:=j) (a:=new[j]) (by simp[hjl])
             rw[hj] at h2
             cases h2
             rw[h3.one]
             exact List.all_eq_true.1 h1 _ (List.getElem_mem hjl)
           have hrun:=room (some ⟨lc.blk,lc.base+o,none⟩) sl0 c _ rfl rfl hcap (by simp only[jhc];exact hst)
           refine⟨_,_,hrun,ρ.upd nx ⟨lc.blk,lc.base+o,lc.lim⟩,?_,?_,?_⟩
           ·refine⟨a1,a2,a3,by omega,by omega,fun b' hb'=>?_,fun x hx hk'=>?_,fun b' l' g1 g2 g3=>?_,fun b' hb'=>?_,fun b' g1 g2=>?_⟩
            ·unfold RM.upd
             rw[if_neg (by omega)]
            ·refine a5 x fun e'=>?_
             have:=hk' b lc k1 e'.symm (by rw[hb];rfl)
             omega
            ·have:b'=nx:=by omega
             subst this
             simp only[RM.upd,if_true] at g3
             cases g3
             exact .inr ⟨b,lc,hrb,by rw[hb];rfl,k1,rfl⟩
            ·rw[Tr.get_set] at hb'
             by_cases e':b'=nx
             ·exact .inl (by omega)
             ·rw[if_neg e'] at hb'
              exact .inr (by rw[←hdel b' hb'];exact hb')
            ·rw[Tr.get_set,if_neg (by omega)]
             exact hdelo b' g1 g2
           ·have hle:=RM.le_upd (l:=⟨lc.blk,lc.base+o,lc.lim⟩) hnn
            have hsrc:take ct o (sl0*i.size)=some old∧o+sl0*i.size≤m:=by
             simp only[src,jaa,jae,decide_true,Nat.le_refl,Bool.and_self,cond_true,hb] at hold
             by_cases hm2:o+sl0*i.size≤m
             ·simp only[hm2,decide_true,cond_true] at hold
              exact⟨hold,hm2⟩
             ·simp[hm2] at hold
            obtain⟨t1,t2⟩:=jme _ _ _ _ hsrc.1
            have hll:(old++new).length=(sl0+k)*i.size:=by
             rw[List.length_append,t1,hlenl,hadd]
            refine⟨fun b' k' l' g1 g2=>?_,fun b1 b2 l1 l2 g1 g2 g3 g4 g5=>?_⟩
            ·rw[Tr.get_set] at g1
             by_cases e':b'=nx
             ·subst e'
              simp only[RM.upd,if_true] at g1 g2
              cases g1;cases g2
              refine⟨cs',elem,fr,a6,by simp only[hll];omega,by simp only;omega,fun j j1 j2=>q4 j (by simp only at j1;omega) (fun hf=>by
               have h64:=(jk5 (show rx ro≤b by assumption)).2
               rw[jae,decide_eq_false_iff_not] at hf
               omega),fun j hj=>?_⟩
              rw[hll] at hj
              simp only
              rw[jgk,if_pos (by rw[hll];omega),Nat.sub_zero,a8 _ (by omega)]
              by_cases hjo:j<sl0*i.size
              ·rw[if_neg (by omega)]
               obtain⟨a',v',h6,h7,h8⟩:=q5 (o+j) (by omega)
               rw[t2 j hjo] at h6
               refine⟨a',v',?_,by rw[←h7,Nat.add_assoc],VR.mono hle _ _ h8⟩
               rw[List.getElem?_append_left (by omega)]
               exact h6
              ·rw[if_pos (by omega)]
               have hjn:j-sl0*i.size<new.length:=by omega
               obtain⟨v2',h2,h3⟩:=v1.get (i:=j-sl0*i.size) (a:=new[j-sl0*i.size]) (by simp[hjn])
               refine⟨_,v2',?_,?_,VR.mono hle _ _ h3⟩
               ·rw[List.getElem?_append_right (by omega),t1,List.getElem?_eq_getElem hjn]
               ·rw[←h2]
                congr 1
                omega
             ·rw[if_neg e',Tr.get_del] at g1
              simp only[RM.upd,if_neg e'] at g2
              by_cases e2:b'=b
              ·rw[if_pos e2] at g1;cases g1
              ·rw[if_neg e2] at g1
               refine(hr.blk b' k' l' g1 g2).mono hle (a5 _ fun e3=>e2 ?_)
               exact inj1 b' l' (by rw[g1];rfl) g2 e3
            ·rw[Tr.get_set] at g1 g2
             have noother:∀b' l',b'≠nx→((H.del b).get b').isSome→ρ b'=some l'→l'.blk≠lc.blk:=fun b' l' h1 h2 h3 h4=>by
              rw[Tr.get_del] at h2
              by_cases e2:b'=b
              ·rw[if_pos e2] at h2;cases h2
              ·rw[if_neg e2] at h2
               exact e2 (inj1 b' l' h2 h3 h4)
             by_cases e1:b1=nx
             ·by_cases e2:b2=nx
              ·exact .inl (by rw[e1,e2])
              ·rw[if_neg e2] at g2
               simp only[RM.upd,e1,if_true,if_neg e2] at g3 g4
               cases g3
               exact absurd g5.symm (noother b2 l2 e2 g2 g4)
             ·rw[if_neg e1] at g1
              simp only[RM.upd,if_neg e1] at g3
              by_cases e2:b2=nx
              ·simp only[RM.upd,e2,if_true] at g4
               cases g4
               exact absurd g5 (noother b1 l1 e1 g1 g3)
              ·rw[if_neg e2] at g2
               simp only[RM.upd,if_neg e2] at g4
               have h1:(H.get b1).isSome:=by rw[←hdel b1 g1];exact g1
               have h2:(H.get b2).isSome:=by rw[←hdel b2 g2];exact g2
               exact hr.inj b1 b2 l1 l2 h1 h2 g3 g4 g5
           ·simp only[VR]
            exact⟨⟨lc.blk,lc.base+o,lc.lim⟩,c,_,by simp[RM.upd],rfl,hcap,hz0,.inl rfl,.inr ⟨trivial,hcl,hcl2.2⟩⟩
          ·exact grown _ sl0 c old olds rfl rfl (by omega) o1 o2 o3 hnn (H.del b) hdel hdelo
         ·simp[hc2] at h
    ·cases h
  ·simp[hzz] at h
 all_goals (simp[jb4] at h)
end
end Go.Vm
