/-
  The machine's operations that only compute: what they are made of, how they run, and that the model does the same.
  The operations that only compute: the model does what the machine does.
  The operations that only compute: parts of structs, equality, and all of them.
-/
import Derived.Test.YtonohffniohehaaGreatDoorVmA1
import Derived.Lib.Strings
import Derived.ChangeKeysEq
set_option linter.unusedSimpArgs false
set_option linter.unusedVariables false
set_option linter.unusedSectionVars false
set_option linter.unnecessarySimpa false
namespace Go.Vm
inductive Opd where
 | t (n:Nat)
 | c (v:AV)
inductive I where
 | mov (x:Opd)
 | pick (c a b:Opd)
 | build (z:List AV) (ps:List (Nat×Nat×Opd))
 | nilck (x:Opd)
 | bin (op:BinOp) (x y:Opd)
 | eqf (neg agg:Bool) (ks:List Nat) (x y:Opd)
 | eqn (neg:Bool) (kd:Nat) (x y:Opd)
 | neg (x:Opd)
 | cpl (x:Opd)
 | not (x:Opd)
 | cvi (k:IntKind) (x:Opd)
 | cvs (x:Opd)
 | mkif (t:TypeId) (x:Opd)
 | mkfn (f:Fn) (first capt:List Opd)
 | fad (off:Nat) (x:Opd)
 | fld (agg:Bool) (size off:Nat) (x:Opd)
 | iadA (n z:Nat) (x i:Opd)
 | iadS (z:Nat) (x i:Opd)
 | idxA (agg:Bool) (n z:Nat) (x i:Opd)
 | idxS (x i:Opd)
 | slS (z:Nat) (x:Opd) (lo hi mx:Option Opd)
 | slT (x:Opd) (lo hi:Option Opd)
 | ext (n:Nat) (x:Opd)
 | len (x:Opd)
 | lenS (x:Opd)
 | lenc (n:Nat)
 | cap (x:Opd)
 | mins (x:Opd) (xs:List Opd)
 | maxs (x:Opd) (xs:List Opd)
 | box (x:Opd)
 | alloc (z:List AV)
 | bsl (z:Nat) (n:Nat) (zs:List AV) (ps:List (Nat×Nat×Opd))
 | load (agg:Bool) (n:Nat) (x:Opd)
 | store (n:Nat) (x v:Opd)
 | slA (n z:Nat) (x:Opd) (lo hi mx:Option Opd)
 | app (z bytes:Nat) (x y:Opd)
 | copy (z:Nat) (x y:Opd)
 | mksl (z bytes:Nat) (zs:List AV) (l c:Opd)
 | b2s (x:Opd)
 | s2b (x:Opd)
 | range (x:Opd)
 | next (x:Opd)
 | call (f:FuncId) (args:List Opd)
 | calld (f:Opd) (args:List Opd)
 | xrow (name:Nat) (args:List Opd)
 | mkmap (r:Option Opd)
 | mlook (agg:Bool) (ks:List Nat) (z:AV) (ok:Bool) (x k:Opd)
 | mset (agg:Bool) (ks:List Nat) (x k v:Opd)
 | bad
section compile
variable (P:Program) (gl:List Nat)
def j1u:Value→Option AV
 | .bool b=>some (.bool b)
 | .int k n=>some (.int k n)
 | .string bs=>some (.str (bs.data.toList.map UInt8.toNat))
 | .pointer none=>some .nilp
 | .slice none 0 0=>some .nils
 | .nilFunc=>some .nilf
 | .nilIface=>some .nili
 | .map none=>some .nilm
 | .iface t (.int k n)=>some (.ifc t (.int k n))
 | .iface t (.string bs)=>some (.ifc t (.str (bs.data.toList.map UInt8.toNat)))
 | .tuple vs=>match vs.toList with | []=>some (.tup []) | _=>none
 | _=>none
theorem jpb (ρ:RM) {v:Value} {a:AV} (h:j1u v=some a):VR ρ a v:=by
 unfold j1u at h
 split at h<;>try (cases h;done)
 all_goals first
  | (cases h;simp[VR];done)
  | (cases h;exact⟨_,rfl,by simp[VR]⟩)
  | skip
 ·split at h
  ·rename_i hvs
   cases h
   exact⟨_,rfl,by rw[hvs];rfl⟩
  ·cases h
def khm (v:Value):Option (List AV):=v.cells.toList.mapM j1u
theorem jnu (ρ:RM):∀(vs:List Value) (l:List AV),vs.mapM j1u=some l→VRs ρ l vs
 | [],l,h=>by simp at h;subst h;rfl
 | v::vs,l,h=>by
   simp only[List.mapM_cons,Option.bind_eq_bind,Option.bind_eq_some_iff,Option.pure_def,Option.some.injEq] at h
   obtain⟨a,h1,l',h2,rfl⟩:=h
   exact⟨v,vs,rfl,jpb ρ h1,jnu ρ vs l' h2⟩
def opd:Operand→Option Opd
 | .tmp n=>some (.t n)
 | .const v=>(j1u v).map .c
 | .global g=>if gl.contains g then some (.c (.ptr g 0)) else none
 | .func f=>some (.c (.fn (.func f) [] []))
def opds (xs:Array Operand):Option (List Opd):=xs.toList.mapM (opd gl)
def kay:Option Operand→Option (Option Opd)
 | none=>some none
 | some x=>(opd gl x).map some
def jgy:TypeDesc→Bool
 | .struct _ | .array _ _=>true
 | _=>false
def lay (t:TypeId):Option (Nat×Bool):=
 match P.info? t,P.underlying t with
 | some i,some d=>some (i.size,jgy d)
 | _,_=>none
def jyg (t:TypeId):Option (List AV):=
 match P.info? t with
 | some i=>match i.zero with
   | some v=>khm v
   | none=>none
 | none=>none
def jh9 (r:TypeId→Option (List Nat)):List Field→Nat→Nat→Option (List Nat)
 | [],off,size=>if off==size then some [] else none
 | f::fs,off,size=>if f.name != "_" &&f.offset==off then match r f.type,jh9 r fs (off+P.cellsOf f.type) size with
   | some l,some m=>if l.length==P.cellsOf f.type then some (l++m) else none
   | _,_=>none else none
def flat:Nat→TypeId→Option (List Nat)
 | 0,_=>none
 | d+1,t=>
   match P.info? t,P.underlying t with
   | some i,some .bool=>if i.size==1 then some [0] else none
   | some i,some (.int _)=>if i.size==1 then some [1] else none
   | some i,some .string=>if i.size==1 then some [2] else none
   | some i,some (.struct fs)=>if P.stoodInHeld t then none else jh9 P (flat d) fs.toList 0 i.size
   | some i,some (.array n e)=>match flat d e with
     | some l=>if i.size==n*P.cellsOf e&&l.length==P.cellsOf e then some (List.replicate n l).flatten else none
     | none=>none
   | _,_=>none
end compile
def j3f:List AV→List (Nat×Nat×AV)→Option (List AV)
 | l,[]=>some l
 | l,(off,size,v)::r=>bif(jcq v).length.beq size&&(off+size).ble l.length then j3f (l.take off++(jcq v++l.drop (off+size))) r else none
def mkv (agg:Bool) (l:List AV):Option AV:=bif agg then some (.agg l) else match l with
 | [x]=>some x
 | _=>none
def ceq:Nat→AV→AV→Option Bool
 | 1,.int k a,.int k' b=>bif keq k k' then some (ieq a b) else none
 | 0,.bool a,.bool b=>some (a==b)
 | 2,.str a,.str b=>some (j0z a b)
 | _,_,_=>none
def jog:List Nat→List AV→List AV→Option Bool
 | [],[],[]=>some true
 | k::ks,a::l,b::m=>match ceq k a b with
   | some true=>jog ks l m
   | some false=>some false
   | none=>none
 | _,_,_=>none
def jyc (agg:Bool) (ks:List Nat) (a b:AV):Option Bool:=
 bif agg then(match a,b with
  | .agg l,.agg m=>bif l.length.beq ks.length&&m.length.beq ks.length then jog ks l m else none
  | _,_=>none) else jog ks [a] [b]
def j80:Nat→AV→AV→Option Bool
 | 0,.nili,.nili | 1,.nilp,.nilp | 2,.nils,.nils | 3,.nilf,.nilf=>some true
 | 0,.nili,.ifc _ _ | 0,.ifc _ _,.nili | 1,.nilp,.ptr _ _ | 1,.ptr _ _,.nilp | 2,.nils,.sl _ _ _ _ _ | 2,.sl _ _ _ _ _,.nils | 3,.nilf,.fn _ _ _ | 3,.fn _ _ _,.nilf=>some false
 | _,_,_=>none
def asN (y:Nat):AV→Option Nat
 | .int _ (.ofNat i)=>bif i.ble y then some i else none
 | _=>none
def jjd (len:Nat) (cap:Nat) (lo hi mx:Option AV):Option (Nat×Nat×Nat):=
 match (match mx with | some v=>asN cap v | none=>some cap) with
 | none=>none
 | some m=>match (match hi,mx with | some v,_=>asN m v | none,none=>some len | none,some _=>none) with
   | none=>none
   | some h=>match (match lo with | some v=>asN h v | none=>some 0) with
     | none=>none
     | some l=>some (l,h,m)
def jef (z:Nat) (a:AV) (lo hi mx:Option AV):Option AV:=
 match a with
 | .sl b o len cap z'=>bif z'.beq z then(match cap with
   | some c=>match jjd len c lo hi mx with
     | some (l,h,m)=>some (.sl b (o+l*z) (h-l) (some (m-l)) z)
     | none=>none
   | none=>match jjd len len lo hi mx with
     | some (l,h,m)=>match mx with
       | some _=>some (.sl b (o+l*z) (h-l) (some (m-l)) z)
       | none=>some (.sl b (o+l*z) (h-l) none z)
     | none=>none) else none
 | .nils=>match jjd 0 0 lo hi mx with
   | some _=>some .nils
   | none=>none
 | _=>none
def ki9:AV→List AV→Option AV
 | x,[]=>some x
 | .int k x,.int _ y::r=>ki9 (.int k (bif ile x y then x else y)) r
 | _,_=>none
def kja:AV→List AV→Option AV
 | x,[]=>some x
 | .int k x,.int _ y::r=>kja (.int k (bif ile y x then x else y)) r
 | _,_=>none
def pop (g:Opd→AV):I→Option AV
 | .mov x=>some (g x)
 | .pick c a b=>match g c with | .bool true=>some (g a) | .bool false=>some (g b) | _=>none
 | .build z ps=>(j3f z (ps.map fun(o,s,x)=>(o,s,g x))).map .agg
 | .nilck x=>match g x with
   | .nilp | .nili | .nilf=>none
   | .fn (.method _) _ _=>none
   | v=>some v
 | .bin op x y=>j3g op (g x) (g y)
 | .eqf n agg ks x y=>match jyc agg ks (g x) (g y) with
   | some b=>some (.bool (n ^^ b))
   | none=>none
 | .eqn n kd x y=>match j80 kd (g x) (g y) with
   | some b=>some (.bool (n ^^ b))
   | none=>none
 | .neg x=>match g x with | .int k n=>some (.int k (jwm k (0-n))) | _=>none
 | .cpl x=>match g x with
   | .int k n=>some (.int k (k.wrap (BitVec.ofInt k.bits (if k.signed then -1 else k.max) ^^^ BitVec.ofInt k.bits n).toNat))
   | _=>none
 | .not x=>match g x with | .bool b=>some (.bool !b) | _=>none
 | .cvi k x=>match g x with | .int _ n=>some (.int k (jwm k n)) | _=>none
 | .cvs x=>match g x with | .str s=>some (.str s) | .int _ (.ofNat n)=>(bif n.ble 127 then some (.str [n]) else none) | _=>none
 | .mkif t x=>some (.ifc t (g x))
 | .mkfn f a b=>some (.fn f (a.map g) (b.map g))
 | .fad off x=>match g x with | .ptr b o=>some (.ptr b (o+off)) | _=>none
 | .fld agg size off x=>match g x with
   | .agg l=>bif(off+size).ble l.length then mkv agg ((l.drop off).take size) else none
   | _=>none
 | .iadA n z x i=>match g x,g i with
   | .ptr b o,.int _ (.ofNat i)=>bif n.ble i then none else some (.ptr b (o+i*z))
   | _,_=>none
 | .iadS z x i=>match g x,g i with
   | .sl b o len _ z',.int _ (.ofNat i)=>bif !(z'.beq z)||len.ble i then none else some (.ptr b (o+i*z))
   | _,_=>none
 | .idxA agg n z x i=>match g x,g i with
   | .agg l,.int _ (.ofNat i)=>bif n.ble i|| !((i*z+z).ble l.length) then none else mkv agg ((l.drop (i*z)).take z)
   | _,_=>none
 | .idxS x i=>match g x,g i with
   | .str s,.int _ (.ofNat i)=>match s[i]? with
     | some c=>some (.int .u8 c)
     | none=>none
   | _,_=>none
 | .slS z x lo hi mx=>jef z (g x) (lo.map g) (hi.map g) (mx.map g)
 | .slT x lo hi=>match g x with
   | .str s=>match jjd s.length s.length (lo.map g) (hi.map g) none with
     | some (l,h,_)=>some (.str ((s.drop l).take (h-l)))
     | none=>none
   | _=>none
 | .ext n x=>match g x with | .tup l=>l[n]? | _=>none
 | .lenS x=>match g x with
   | .str s=>some (.int .i64 s.length)
   | _=>none
 | .len x=>match g x with
   | .sl _ _ len _ _=>some (.int .i64 len)
   | .nils=>some (.int .i64 0)
   | _=>none
 | .lenc n=>some (.int .i64 n)
 | .cap x=>match g x with
   | .sl _ _ _ (some c) _=>some (.int .i64 c)
   | .nils=>some (.int .i64 0)
   | _=>none
 | .mins x xs=>ki9 (g x) (xs.map g)
 | .maxs x xs=>kja (g x) (xs.map g)
 | _=>none
section compile
variable (P:Program) (gl:List Nat)
def jmi (fs:Array Field) (i:Nat):Option (Nat×Nat):=
 match fs[i]? with
 | some f=>match P.info? f.type with
   | some j=>some (f.offset,j.size)
   | none=>none
 | none=>none
def jpa (place:Nat→Option (Nat×Nat)):List (Nat×Operand)→Option (List (Nat×Nat×Opd))
 | []=>some []
 | (i,x)::r=>match place i,opd gl x,jpa place r with
   | some (o,s),some y,some l=>some ((o,s,y)::l)
   | _,_,_=>none
def jqz:BinOp→Bool
 | .neq=>true
 | _=>false
def isC:Operand→Bool
 | .const _=>true
 | _=>false
def eqI (op:BinOp) (t:TypeId) (x y:Operand) (x' y':Opd):Option I:=
 match P.underlying t with
 | some (.int _) | some .string=>some (.bin op x' y')
 | some .bool=>match flat P 20 t with | some ks=>some (.eqf (jqz op) false ks x' y') | none=>none
 | some (.struct _) | some (.array _ _)=>if P.eqGuardType P.depth t then none else match flat P 20 t with | some ks=>some (.eqf (jqz op) true ks x' y') | none=>none
 | some (.interface _)=>if isC x||isC y then some (.eqn (jqz op) 0 x' y') else none
 | some (.pointer _)=>some (.eqn (jqz op) 1 x' y')
 | some (.slice _)=>some (.eqn (jqz op) 2 x' y')
 | some (.func _ _ _)=>some (.eqn (jqz op) 3 x' y')
 | _=>none
def arI (op:BinOp) (t:TypeId) (x' y':Opd):Option I:=
 match P.underlying t with
 | some (.int _) | some .string=>some (.bin op x' y')
 | _=>none
def jti:Op→Option I
 | .move x | .assign x=>(opd gl x).map .mov
 | .pick c a b=>do some (.pick (←opd gl c) (←opd gl a) (←opd gl b))
 | .build t ps=>match P.underlying t with
   | some (.struct fs)=>if fs.toList.all (fun f=>(P.info? f.type).isSome) then do some (.build (←jyg P t) (←jpa gl (jmi P fs) ps.toList)) else none
   | some (.array _ e)=>do
     let s ←lay P e
     some (.build (←jyg P t) (←jpa gl (fun i=>some (i*s.1,s.1)) ps.toList))
   | _=>none
 | .nilCheck x=>(opd gl x).map .nilck
 | .binOp op t x y _=>do
   let x' ←opd gl x
   let y' ←opd gl y
   match op with
   | .eql | .neq=>eqI P op t x y x' y'
   | _=>arI P op t x' y'
 | .unOp .neg _ x=>(opd gl x).map .neg
 | .unOp .xor _ x=>(opd gl x).map .cpl
 | .unOp .not _ x=>(opd gl x).map .not
 | .convert s t x=>match P.underlying s,P.underlying t with
   | some (.int _),some (.int k)=>(opd gl x).map (.cvi k)
   | some .string,some .string=>(opd gl x).map .cvs
   | some (.int _),some .string=>(opd gl x).map .cvs
   | _,_=>none
 | .makeInterface t x=>match P.underlying t with
   | some (.interface _)=>none
   | some _=>(opd gl x).map (.mkif t)
   | none=>none
 | .makeFunc f a b=>do some (.mkfn f (←opds gl a) (←opds gl b))
 | .fieldAddr t x i=>match P.underlying t with
   | some (.struct fs)=>match jmi P fs i with
     | some (off,s+1)=>(opd gl x).map (.fad off)
     | _=>none
   | _=>none
 | .field t x i=>match P.underlying t with
   | some (.struct fs)=>match fs[i]? with
     | some f=>do
       let s ←lay P f.type
       (opd gl x).map (.fld s.2 s.1 f.offset)
     | none=>none
   | _=>none
 | .indexAddr t x i=>match P.underlying t with
   | some (.array n e)=>do
     let s ←lay P e
     some (.iadA n s.1 (←opd gl x) (←opd gl i))
   | some (.slice e)=>do
     let s ←lay P e
     some (.iadS s.1 (←opd gl x) (←opd gl i))
   | _=>none
 | .index t x i=>match P.underlying t with
   | some (.array n e)=>do
     let s ←lay P e
     some (.idxA s.2 n s.1 (←opd gl x) (←opd gl i))
   | some .string=>do some (.idxS (←opd gl x) (←opd gl i))
   | _=>none
 | .slice t x lo hi mx=>match P.underlying t with
   | some (.slice e)=>do
     let s ←lay P e
     some (.slS s.1 (←opd gl x) (←kay gl lo) (←kay gl hi) (←kay gl mx))
   | some .string=>match mx with
     | none=>do some (.slT (←opd gl x) (←kay gl lo) (←kay gl hi))
     | some _=>none
   | _=>none
 | .extract x n=>(opd gl x).map (.ext n)
 | .call { callee:=.builtin .len,args,argTypes }=>match args.toList,argTypes.toList with
   | [x],t::_=>match P.underlying t with
     | some .string=>(opd gl x).map .lenS
     | some (.slice _)=>(opd gl x).map .len
     | some (.array n _)=>some (.lenc n)
     | some (.pointer e)=>match P.underlying e with
       | some (.array n _)=>some (.lenc n)
       | _=>none
     | _=>none
   | _,_=>none
 | .call { callee:=.builtin .cap,args,argTypes }=>match args.toList,argTypes.toList with
   | [x],t::_=>match P.underlying t with
     | some (.slice _)=>(opd gl x).map .cap
     | _=>none
   | _,_=>none
 | .call { callee:=.builtin .min,args, .. }=>match args.toList with
   | x::xs=>do some (.mins (←opd gl x) (←xs.mapM (opd gl)))
   | _=>none
 | .call { callee:=.builtin .max,args, .. }=>match args.toList with
   | x::xs=>do some (.maxs (←opd gl x) (←xs.mapM (opd gl)))
   | _=>none
 | _=>none
end compile
end Go.Vm
namespace Go.Vm
section
variable {P:Program} {gl:List Nat} {ρ:RM} {g:Opd→AV} {e:Operand→Value}
theorem jfu (hg:∀x y,opd gl x=some y→VR ρ (g y) (e x)):∀(xs:List Operand) (ys:List Opd),xs.mapM (opd gl)=some ys→VRs ρ (ys.map g) (xs.map e)
 | [],ys,h=>by simp at h;subst h;rfl
 | x::xs,ys,h=>by
   simp only[List.mapM_cons,Option.bind_eq_bind,Option.bind_eq_some_iff,Option.pure_def,Option.some.injEq] at h
   obtain⟨a,h1,l,h2,rfl⟩:=h
   exact⟨_,_,rfl,hg _ _ h1,jfu hg xs l h2⟩
theorem jfg {t:TypeId} {s:Nat×Bool} (h:lay P t=some s):∃i d,P.info? t=some i∧P.underlying t=some d∧s=(i.size,jgy d):=by
 unfold lay at h
 split at h
 ·rename_i i d h1 h2
  cases h
  exact⟨i,d,h1,h2,rfl⟩
 ·cases h
theorem jts {t:TypeId} {i:TypeInfo} (h:P.info? t=some i) (w:World):(typeInfo t).run P w=.ok i w:=by
 simp[typeInfo,h]
theorem jbj {t:TypeId} {i:TypeInfo} (h:P.info? t=some i) (w:World):(sizeOf t).run P w=.ok i.size w:=by
 simp[sizeOf,jts h]
theorem jio {t:TypeId} {d:TypeDesc} (h:P.underlying t=some d) (w:World):(isAgg t).run P w=.ok (jgy d) w:=by
 simp only[isAgg,Sem.run_bind,run_underlying h,Result.andThen_ok]
 cases d<;>rfl
theorem jin {t:TypeId} {z:List AV} (h:jyg P t=some z):∃i v,P.info? t=some i∧i.zero=some v∧VRs ρ z v.cells.toList:=by
 unfold jyg at h
 split at h
 ·rename_i i hi
  split at h
  ·rename_i v hv
   exact⟨i,v,hi,hv,jnu ρ _ _ h⟩
  ·cases h
 ·cases h
theorem jjv {t:TypeId} {i:TypeInfo} {v:Value} (h:P.info? t=some i) (hv:i.zero=some v) (w:World):(zeroValue t).run P w=.ok v w:=by
 simp[zeroValue,jts h,hv]
theorem jvg {agg:Bool} {l:List AV} {a:AV} {vs:List Value} (h:mkv agg l=some a) (hl:VRs ρ l vs):
  (agg=true∧VR ρ a (.agg vs.toArray))∨(agg=false∧∃v,vs=[v]∧VR ρ a v):=by
 unfold mkv at h
 cases agg
 ·simp only[cond_false] at h
  split at h
  ·cases h
   simp only[VRs] at hl
   obtain⟨v,_,rfl,h1,rfl⟩:=hl
   exact .inr ⟨rfl,v,rfl,h1⟩
  ·cases h
 ·simp only[cond_true] at h
  cases h
  exact .inl ⟨rfl,⟨_,rfl,by simpa using hl⟩⟩
theorem jxn {t:TypeId} {s:Nat×Bool} {l:List AV} {cs:Array Value} {off:Nat} {a:AV} (w:World) (hs:lay P t=some s) (hl:VRs ρ l cs.toList) (hb:off+s.1≤l.length)
  (h:mkv s.2 ((l.drop off).take s.1)=some a):∃v,(part t cs off).run P w=.ok v w∧VR ρ a v:=by
 obtain⟨i,d,h1,h2,rfl⟩:=jfg hs
 simp only at h hb
 have hv:=(hl.drop off).take i.size
 have hlen:=hl.length
 simp only[part,Sem.run_bind,jio h2,jbj h1,Result.andThen_ok]
 rcases jvg h hv with⟨e1,h3⟩ | ⟨e1,v,h3,h4⟩
 ·simp only[e1,if_true,Sem.run_bind,jbj h1,Result.andThen_ok,Sem.run_pure]
  refine⟨_,rfl,?_⟩
  have:cs.extract off (off+i.size)=(List.take i.size (List.drop off cs.toList)).toArray:=by
   apply Array.ext'
   simp[Array.toList_extract,List.extract]
  rw[this]
  exact h3
 ·have hc:cs[off]?=some v:=by
   have h5:(List.take i.size (List.drop off cs.toList))[0]?=some v:=by rw[h3];rfl
   rw[List.getElem?_take] at h5
   split at h5
   ·simpa[List.getElem?_drop] using h5
   ·cases h5
  simp only[e1,Bool.false_eq_true,if_false,hc,Sem.run_pure]
  exact⟨v,rfl,h4⟩
theorem jkr {y i:Nat} {a:AV} {v:Value} (h:asN y a=some i) (hv:VR ρ a v):∃k,v=.int k (i:Int)∧i≤y:=by
 unfold asN at h
 split at h
 ·rename_i k j
  simp only[VR] at hv
  subst hv
  rw[jae] at h
  by_cases hj:j≤y
  ·simp only[hj,decide_true,cond_true,Option.some.injEq] at h
   subst h
   exact⟨k,rfl,hj⟩
  ·simp[hj] at h
 ·cases h
theorem jgc {y i:Nat} {k:IntKind} (hi:i≤y) (c:BoundsCode) (w:World):(Instr.sliceBound (.int k (i:Int)) y c).run P w=.ok i w:=by
 simp only[Instr.sliceBound,asIntOf,Sem.run_bind,Sem.run_pure,Result.andThen_ok]
 rw[if_pos (by omega)]
 simp
def VRo (ρ:RM):Option AV→Option Value→Prop
 | none,none=>True
 | some a,some v=>VR ρ a v
 | _,_=>False
theorem jfv (hg:∀x y,opd gl x=some y→VR ρ (g y) (e x)) {x:Option Operand} {y:Option Opd} (h:kay gl x=some y):VRo ρ (y.map g) (x.map e):=by
 cases x with
 | none=>simp[kay] at h;subst h;exact True.intro
 | some x=>
   simp only[kay,Option.map_eq_some_iff] at h
   obtain⟨a,h1,rfl⟩:=h
   exact hg _ _ h1
theorem jhy {len cap cap':Nat} {lo hi mx:Option AV} {lo' hi' mx':Option Value} {l h m:Nat} (b:Bool) (w:World) (hb:jjd len cap lo hi mx=some (l,h,m))
  (h1:VRo ρ lo lo') (h2:VRo ρ hi hi') (h3:VRo ρ mx mx') (hc:cap≤cap') (hl:len≤cap):
  l≤h∧h≤m∧m≤cap∧(mx=none→m=cap)∧(Instr.sliceBounds b len cap' lo' hi' mx').run P w=.ok (l,h,if mx.isSome then m else cap') w:=by
 unfold jjd at hb
 cases mx with
 | none=>
   have e3:mx'=none:=by cases mx'<;>simp[VRo] at h3 ⊢
   subst e3
   simp only at hb
   cases hi with
   | none=>
     have e2:hi'=none:=by cases hi'<;>simp[VRo] at h2 ⊢
     subst e2
     simp only at hb
     cases lo with
     | none=>
       have e1:lo'=none:=by cases lo'<;>simp[VRo] at h1 ⊢
       subst e1
       simp only[Option.some.injEq,Prod.mk.injEq] at hb
       obtain⟨rfl,rfl,rfl⟩:=hb
       exact⟨by omega,hl,Nat.le_refl _,fun _=>rfl,by simp[Instr.sliceBounds]⟩
     | some v=>
       obtain⟨v',rfl⟩:∃v',lo'=some v':=by cases lo'<;>simp[VRo] at h1 ⊢
       split at hb
       ·cases hb
       ·rename_i l' hl'
        obtain⟨k,rfl,hle⟩:=jkr hl' h1
        simp only[Option.some.injEq,Prod.mk.injEq] at hb
        obtain⟨rfl,rfl,rfl⟩:=hb
        exact⟨hle,hl,Nat.le_refl _,fun _=>rfl,by simp[Instr.sliceBounds,jgc hle]⟩
   | some u=>
     obtain⟨u',rfl⟩:∃u',hi'=some u':=by cases hi'<;>simp[VRo] at h2 ⊢
     simp only at hb
     split at hb
     ·cases hb
     ·rename_i h' hh'
      obtain⟨k',rfl,hle'⟩:=jkr hh' h2
      cases lo with
      | none=>
        have e1:lo'=none:=by cases lo'<;>simp[VRo] at h1 ⊢
        subst e1
        simp only[Option.some.injEq,Prod.mk.injEq] at hb
        obtain⟨rfl,rfl,rfl⟩:=hb
        exact⟨by omega,hle',Nat.le_refl _,fun _=>rfl,by simp[Instr.sliceBounds,jgc (Nat.le_trans hle' hc)]⟩
      | some v=>
        obtain⟨v',rfl⟩:∃v',lo'=some v':=by cases lo'<;>simp[VRo] at h1 ⊢
        split at hb
        ·cases hb
        ·rename_i l' hl'
         obtain⟨k,rfl,hle⟩:=jkr hl' h1
         simp only[Option.some.injEq,Prod.mk.injEq] at hb
         obtain⟨rfl,rfl,rfl⟩:=hb
         exact⟨hle,hle',Nat.le_refl _,fun _=>rfl,by simp[Instr.sliceBounds,jgc (Nat.le_trans hle' hc),jgc hle]⟩
 | some t=>
   obtain⟨t',rfl⟩:∃t',mx'=some t':=by cases mx'<;>simp[VRo] at h3 ⊢
   simp only at hb
   split at hb
   ·cases hb
   ·rename_i m' hm'
    obtain⟨k'',rfl,hle''⟩:=jkr hm' h3
    cases hi with
    | none=>simp at hb
    | some u=>
      obtain⟨u',rfl⟩:∃u',hi'=some u':=by cases hi'<;>simp[VRo] at h2 ⊢
      simp only at hb
      split at hb
      ·cases hb
      ·rename_i h' hh'
       obtain⟨k',rfl,hle'⟩:=jkr hh' h2
       cases lo with
       | none=>
         have e1:lo'=none:=by cases lo'<;>simp[VRo] at h1 ⊢
         subst e1
         simp only[Option.some.injEq,Prod.mk.injEq] at hb
         obtain⟨rfl,rfl,rfl⟩:=hb
         exact⟨by omega,hle',hle'',by simp,by simp[Instr.sliceBounds,jgc (Nat.le_trans hle'' hc),jgc hle']⟩
       | some v=>
         obtain⟨v',rfl⟩:∃v',lo'=some v':=by cases lo'<;>simp[VRo] at h1 ⊢
         split at hb
         ·cases hb
         ·rename_i l' hl'
          obtain⟨k,rfl,hle⟩:=jkr hl' h1
          simp only[Option.some.injEq,Prod.mk.injEq] at hb
          obtain⟨rfl,rfl,rfl⟩:=hb
          exact⟨hle,hle',hle'',by simp,by simp[Instr.sliceBounds,jgc (Nat.le_trans hle'' hc),jgc hle',jgc hle]⟩
end
end Go.Vm
namespace Go.Vm
section
variable {P:Program} {gl:List Nat} {ρ:RM} {g:Opd→AV} {e:Operand→Value}
theorem j6y (off:Nat):∀(vs:List Value) (k:Nat) (cells:Array Value),off+k+vs.length≤cells.size→
  ((vs.zipIdx k).foldl (fun cs (p:Value×Nat)=>cs.setIfInBounds (off+p.2) p.1) cells).toList=cells.toList.take (off+k)++(vs++cells.toList.drop (off+k+vs.length))
 | [],k,cells,h=>by simp
 | v::vs,k,cells,h=>by
   simp only[List.length_cons] at h
   simp only[List.zipIdx_cons,List.foldl_cons]
   rw[j6y off vs (k+1) (cells.setIfInBounds (off+k) v) (by simp;omega)]
   apply List.ext_getElem?
   intro i
   simp only[Array.toList_setIfInBounds,List.getElem?_append,List.length_take,List.length_set,Array.length_toList,List.getElem?_take,List.getElem?_set,List.getElem?_drop,List.length_cons]
   rw[show min (off+ (k+1)) cells.size=off+ (k+1) by omega,show min (off+k) cells.size=off+k by omega]
   rcases Nat.lt_trichotomy i (off+k) with hi | hi | hi
   ·rw[if_pos (show i<off+ (k+1) by omega),if_pos (show i<off+ (k+1) by omega),if_neg (show ¬off+k=i by omega),if_pos (show i<off+k by omega),if_pos (show i<off+k by omega)]
   ·subst hi
    rw[if_pos (show off+k<off+ (k+1) by omega),if_pos (show off+k<off+ (k+1) by omega),if_pos rfl,if_pos (show off+k<cells.size by omega),if_neg (show ¬off+k<off+k by omega),if_pos (show off+k-(off+k)<vs.length+1 by omega)]
    rw[Nat.sub_self]
    rfl
   ·rw[if_neg (show ¬i<off+ (k+1) by omega),if_neg (show ¬i<off+k by omega)]
    by_cases h2:i-(off+ (k+1))<vs.length
    ·rw[if_pos h2,if_pos (show i-(off+k)<vs.length+1 by omega),show i-(off+k)=i-(off+ (k+1))+1 by omega]
     rfl
    ·rw[if_neg h2,if_neg (show ¬i-(off+k)<vs.length+1 by omega),if_neg (by omega)]
     congr 1
     omega
theorem jn0 {place:Nat→Option (Nat×Nat)} (hg:∀x y,opd gl x=some y→VR ρ (g y) (e x)):∀(ops:List (Nat×Operand)) (ps:List (Nat×Nat×Opd)) (z z':List AV) (cells:Array Value),
  jpa gl place ops=some ps→j3f z (ps.map fun(o,s,x)=>(o,s,g x))=some z'→VRs ρ z cells.toList→
  ∃cells',Instr.fill place cells (ops.map fun(i,x)=>(i,e x))=some cells'∧VRs ρ z' cells'.toList
 | [],ps,z,z',cells,h1,h2,h3=>by
   simp only[jpa,Option.some.injEq] at h1
   subst h1
   simp only[List.map_nil,j3f,Option.some.injEq] at h2
   subst h2
   exact⟨cells,rfl,h3⟩
 | (i,x)::ops,ps,z,z',cells,h1,h2,h3=>by
   simp only[jpa] at h1
   split at h1
   ·rename_i o s y l hp hy hl
    simp only[Option.some.injEq] at h1
    subst h1
    simp only[List.map_cons,j3f,jaa,jae] at h2
    by_cases hc:(jcq (g y)).length=s∧o+s≤z.length
    ·simp only[hc.1,hc.2,decide_true,Bool.and_self,cond_true] at h2
     have hv:=(hg x y hy).cells
     have hlen:=hv.length
     have hzl:=h3.length
     simp only[Array.length_toList] at hlen hzl
     have e1:¬((e x).cells.size≠s∨o+ (e x).cells.size > cells.size):=by omega
     have e2:(decide ((e x).cells.size≠s)||decide (o+ (e x).cells.size > cells.size))=false:=by simpa using e1
     simp only[List.map_cons,Instr.fill,hp,e2,Bool.false_eq_true,if_false]
     refine jn0 hg ops l _ z' _ hl h2 ?_
     have e3:(Array.foldl (fun cs (x:Value×Nat)=>match x with | (c,j)=>cs.setIfInBounds (o+j) c) cells (e x).cells.zipIdx).toList=
       cells.toList.take o++((e x).cells.toList++cells.toList.drop (o+s)):=by
      rw[←Array.foldl_toList,Array.toList_zipIdx]
      have:=j6y o (e x).cells.toList 0 cells (by simp;omega)
      simp only[Nat.add_zero,Array.length_toList] at this
      rw[show o+ (e x).cells.size=o+s by omega] at this
      exact this
     rw[e3]
     exact(h3.take o).append (hv.append (h3.drop (o+s)))
    ·have:(decide ((jcq (g y)).length=s)&&decide (o+s≤z.length))=false:=by
      rw[Bool.and_eq_false_iff];simp;omega
     simp[this] at h2
   ·cases h1
theorem jxj (w:World):∀(fs:List Field),fs.all (fun f=>(P.info? f.type).isSome)=true→
  (fs.mapM (fun(f:Field)=>(do pure (f.offset,←sizeOf f.type):Sem (Nat×Nat)))).run P w=.ok (fs.map fun f=>(f.offset,P.cellsOf f.type)) w
 | [],_=>rfl
 | f::fs,h=>by
   simp only[List.all_cons,Bool.and_eq_true] at h
   obtain⟨i,hi⟩:=Option.isSome_iff_exists.1 h.1
   simp only[List.mapM_cons,Sem.run_bind,jbj hi,Result.andThen_ok,Sem.run_pure,jxj w fs h.2,List.map_cons]
   simp[Program.cellsOf,hi]
theorem j5m {t:TypeId} {ps:List (Nat×Operand)} {c:I} {v:AV} (w:World) (hg:∀x y,opd gl x=some y→VR ρ (g y) (e x))
  (hc:jti P gl (.build t ps.toArray)=some c) (h:pop g c=some v):∃v',(Instr.build t (ps.toArray.map fun(i,x)=>(i,e x))).run P w=.ok v' w∧VR ρ v v':=by
 simp only[jti] at hc
 split at hc
 ·rename_i fs hu
  split at hc
  ·rename_i hall
   simp only[Option.bind_eq_bind,Option.bind_eq_some_iff,Option.some.injEq] at hc
   obtain⟨z,hz,l,hl,rfl⟩:=hc
   simp only[pop,Option.map_eq_some_iff] at h
   obtain⟨z',hz',rfl⟩:=h
   obtain⟨i,zv,h1,h2,h3⟩:=jin hz
   obtain⟨cells',h4,h5⟩:=jn0 hg ps l z z' zv.cells hl hz' h3
   have h6:(fs.mapM (fun(f:Field)=>(do pure (f.offset,←sizeOf f.type):Sem (Nat×Nat)))).run P w=.ok (fs.map fun f=>(f.offset,P.cellsOf f.type)) w:=by
    rw[Array.mapM_eq_mapM_toList]
    simp only[Sem.run_map,jxj w fs.toList hall,Result.andThen_ok]
    congr 1
    apply Array.ext'
    simp
   have h7:(fun x:Nat=>(fs.map fun f=>(f.offset,P.cellsOf f.type))[x]?)=jmi P fs:=by
    funext x
    simp only[Array.getElem?_map,jmi]
    cases hx:fs[x]? with
    | none=>rfl
    | some f=>
      have:f∈fs.toList:=by simpa using Array.mem_of_getElem? hx
      obtain⟨j,hj⟩:=Option.isSome_iff_exists.1 (List.all_eq_true.1 hall f this)
      simp[hj,Program.cellsOf]
   refine⟨.agg cells',?_,?_⟩
   ·simp only[Instr.build,Sem.run_bind,jjv h1 h2,Result.andThen_ok,run_underlying hu,h6,h7]
    simp only[List.map_toArray,h4,Sem.run_pure]
   ·simp only[VR]
    exact⟨_,rfl,h5⟩
  ·cases hc
 ·rename_i n el hu
  simp only[Option.bind_eq_bind,Option.bind_eq_some_iff,Option.some.injEq] at hc
  obtain⟨s,hs,z,hz,l,hl,rfl⟩:=hc
  simp only[pop,Option.map_eq_some_iff] at h
  obtain⟨z',hz',rfl⟩:=h
  obtain⟨i,zv,h1,h2,h3⟩:=jin hz
  obtain⟨j,d,k1,k2,rfl⟩:=jfg hs
  obtain⟨cells',h4,h5⟩:=jn0 hg ps l z z' zv.cells hl hz' h3
  refine⟨.agg cells',?_,?_⟩
  ·simp only[Instr.build,Sem.run_bind,jjv h1 h2,Result.andThen_ok,run_underlying hu,jbj k1]
   simp only[List.map_toArray,h4,Sem.run_pure]
  ·simp only[VR]
   exact⟨_,rfl,h5⟩
 ·cases hc
end
end Go.Vm
