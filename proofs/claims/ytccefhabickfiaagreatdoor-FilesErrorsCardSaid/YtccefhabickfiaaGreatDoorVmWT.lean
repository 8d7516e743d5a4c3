/-
  Functions of the library that are told: strconv.Atoi, strconv.ParseUint(s, 10, 8), strings.Split, out of the library's contracts.
  A told function that ranges over a function: strips.Ends; new cells behind a walk of the model.
  Told functions: strings.Join.
-/
import Derived.Test.YtccefhabickfiaaGreatDoorVmWG
import Derived.Lib.ParseIntB
import Derived.Lib.SplitLaws
import Derived.Lib.AtoiErrMem
import Derived.Lib.ItoaNum
import Derived.Lib.Join
set_option linter.unusedSimpArgs false
set_option linter.unusedVariables false
set_option linter.unusedSectionVars false
set_option linter.unnecessarySimpa false
namespace Go.Vm
namespace W
open Go Go.RowKit
variable {P:Program} {gl:List Nat} {B:Base}
theorem Below.quiet {w w':World} (h:Below w.heap.size w w'):Quiet w w':=⟨h.os,h.tape,h.output,h.size,h.block⟩
def u8 (s:List Nat):List UInt8:=s.map UInt8.ofNat
theorem wP {b:ByteArray} {s:List Nat} (h:b.data.toList.map UInt8.toNat=s):b.data.toList=u8 s:=by
 subst h;unfold u8;rw[iQ];have:(UInt8.ofNat∘UInt8.toNat)=id:=by funext x;simp
 rw[this,sO]
theorem jlv {b:ByteArray} {s:List Nat} (h:b.data.toList.map UInt8.toNat=s):b.size=s.length:=by
 subst h;rw[cY,oG];rfl
theorem jk8 {ρ:RM} {s:List Nat} {args:Array Value} (h:VRs ρ [.str s] args.toList):∃b:ByteArray,args=#[.string b]/\b.data.toList.map UInt8.toNat=s:=by
 simp only[VRs,VR] at h;obtain⟨v,vs,h1,⟨b,rfl,h2⟩,rfl⟩:=h;exact⟨b,by apply nL.1;exact h1,h2⟩
theorem jfb {ρ:RM} {H:Tr Blk} {nx ro:Nat} {w w':World} {v:AV} {v':Value} (q:Quiet w w') (hr:HR ρ H w) (hv:VR ρ v v'):Ends ρ H nx ro w v H nx v' w':=⟨ρ,q.step,q.hr hr,hv⟩
theorem j0f {ρ:RM} {H:Tr Blk} {nx ro N:Nat} {w w':World} {v:AV} {v':Value} (q:Quiet w w') (h1:w.heap.size<=N) (h2:N<w'.heap.size) (hr:HR ρ H w) (hf:Free ρ nx (nx+1)) (hwf:WF H nx)
  (hv:VR (ρ.upd nx ⟨N,0,0⟩) v v'):Ends ρ H nx ro w v H (nx+1) v' w':=by
 have hn:ρ nx=none:=hf nx (bV _) (by omega);have hle:ρ.Le (ρ.upd nx ⟨N,0,0⟩):=RM.le_upd hn;have hother:∀b,b≠nx->(ρ.upd nx ⟨N,0,0⟩) b=ρ b:=λb hb=>by unfold RM.upd;rw[aF hb]
 have hsame:(ρ.upd nx ⟨N,0,0⟩) nx=some ⟨N,0,0⟩:=by unfold RM.upd;rw[aK rfl]
 have hlive:∀b,(H.get b).isSome->b≠nx:=λb hb e=>by have:=hwf b hb;omega
 have hr':=q.hr hr;refine⟨ρ.upd nx ⟨N,0,0⟩,⟨q.os,q.tape,q.output,q.size,by omega,λb hb=>hother b (by omega),λx hx _=>q.keep x hx,λb l hb1 hb2 hl=>?_,λb hb=>.inr hb,λ_ _ _=>rfl⟩,⟨λb k l hk hl=>?_,λb b' l l' e1 e2 g1 g2 e=>?_⟩,hv⟩
 ·obtain rfl:b=nx:=by omega
  rw[hsame] at hl;cases hl;exact .inl ⟨h1,h2⟩
 ·rw[hother b (hlive b (by rw[hk];rfl))] at hl;exact(hr'.blk b k l hk hl).mono hle rfl
 ·rw[hother b (hlive b e1)] at g1;rw[hother b' (hlive b' e2)] at g2;exact hr'.inj b b' l l' e1 e2 g1 g2 e
theorem jyp {ρ:RM} {H:Tr Blk} {w:World} (hr:HR ρ H w) (hb:∀b,b<B.nx0->H.get b=B.H0.get b) (hgl:GLok gl ρ) {g:Nat} (hg:gl.contains g=true) (hlt:g<B.nx0) {c:Tr AV} {n:Nat} (hc:B.H0.get g=some (.cells c n)) {i:Nat} (hi:i<n):
  ∃a v,c.get i=some a/\w.cell? ⟨g,i,none⟩=some v/\VR ρ a v:=by
 obtain⟨l,h1,h2,h3⟩:=hgl g hg;obtain⟨cs,elem,fr,g1,_,_,_,g5⟩:=hr.blk g _ l (by rw[hb g hlt];exact hc) h1;obtain⟨a,v,q1,q2,q3⟩:=g5 i hi;refine⟨a,v,q1,?_,q3⟩;rw[h2] at g1;rw[h3,mV] at q2;simp only[World.cell?,g1];simpa using q2
def j1p:AV->Bool
 | .ifc _ _=>true
 | .nili=>true
 | _=>false
theorem keu {ρ:RM} {a:AV} {v:Value} (h:j1p a=true) (hv:VR ρ a v):v=.nilIface\/∃t p,v=.iface t p:=by
 cases a<;>try (cases h;done)
 case ifc t x=>simp only[VR] at hv;obtain⟨y,rfl,_⟩:=hv;exact .inr ⟨t,y,rfl⟩
 case nili=>simp only[VR] at hv;exact .inl hv
def jo3 (B:Base) (g:Nat):Bool:=g.blt B.nx0&&(match B.H0.get g with
 | some (.cells c (_+1))=>(match c.get 0 with
   | some a=>j1p a
   | none=>false)
 | _=>false)
theorem j1f {ρ:RM} {H:Tr Blk} {w:World} (hr:HR ρ H w) (hb:∀b,b<B.nx0->H.get b=B.H0.get b) (hgl:GLok gl ρ) {g:Nat} (hg:gl.contains g=true) (h:jo3 B g=true):
  ∃ev,w.cell? ⟨g,0,none⟩=some ev/\(ev=.nilIface\/∃t p,ev=.iface t p):=by
 unfold jo3 at h;rw[aW] at h;obtain⟨h0,h⟩:=h;split at h<;>try (cases h;done)
 rename_i c n hc;split at h<;>try (cases h;done)
 rename_i a ha;obtain⟨a',v,q1,q2,q3⟩:=jyp hr hb hgl hg (by simpa using h0) hc (i:=0) (by omega);rw[ha] at q1;cases q1;exact⟨v,q2,keu h q3⟩
def jl6 (ty:TypeId) (k:IntKind) (sat:Int):Lib.NumEnd Int->Option (Tr Blk->Nat->Nat->eQ)
 | .ok v=>some λH nx _=>some (.tup [.int k v,.nili],H,nx)
 | Lib.NumEnd.syntax=>some λH nx _=>some (.tup [.int k 0,.ifc ty (.ptr nx 0)],H,nx+1)
 | .range=>some λH nx _=>some (.tup [.int k sat,.ifc ty (.ptr nx 0)],H,nx+1)
def jeb (f:FuncId) (ty:TypeId):kT:=λg as=>bif Nat.beq g f then(match as with
 | [.str s]=>bif s.length.ble 1000000 then jl6 ty .i64 (Lib.atoiSat (u8 s)) (Lib.atoiAll (u8 s)) else none
 | _=>none) else none
def U0 (P:Program) (f:FuncId):Prop:=∃fn,P.funcs[f]?=some fn/\(fn.name== "runtime.NumGoroutine")=false/\fn.body.isSome=true
theorem j5b (H:Tr Blk) (nx ro:Nat):Syn H nx ro H (nx+1):=⟨by omega,λ_ h=>.inr h,λ_ _ _=>rfl⟩
theorem jiz {ρ:RM} {a b:AV} {x y:Value} (h1:VR ρ a x) (h2:VR ρ b y):VR ρ (.tup [a,b]) (.tuple #[x,y]):=by
 simp only[VR];exact⟨_,rfl,x,[y],rfl,h1,y,[],rfl,h2,rfl⟩
theorem kon {f:FuncId} {ty e5 tc gs gr:Nat} (hfn:U0 P f) (hgs:gl.contains gs=true) (hgr:gl.contains gr=true) (hs:jo3 B gs=true) (hr':jo3 B gr=true)
  (c1:∀(s:ByteArray) (_:s.size<=9223372036854775806) (v:Int) (_:Lib.atoiAll s.data.toList=.ok v) (w:World),Calls P f #[.string s] w λe w'=>e=.returned (.tuple #[.int .i64 v,.nilIface])/\(w'=w\/∃t,w'=Lib.bytesWorld w e5 t))
  (c2:∀(s:ByteArray) (_:s.size<=281474976710656) (_:Lib.atoiAll s.data.toList=Lib.NumEnd.syntax) (ev:Value) (w:World) (_:w.cell? ⟨gs,0,none⟩=some ev) (_:ev=.nilIface\/∃te pe,ev=.iface te pe),
    Calls P f #[.string s] w λe w'=>∃N,e=.returned (.tuple #[.int .i64 0,.iface ty (.pointer (some ⟨N,0,none⟩))])/\w.heap.size<=N/\w'.heap[N]?=some (.cells #[.string ⟨#[65,116,111,105]⟩,.string s,ev] tc (0,0))/\Below w.heap.size w w')
  (c3:∀(s:ByteArray) (_:s.size<=281474976710656) (_:Lib.atoiAll s.data.toList=.range) (ev:Value) (w:World) (_:w.cell? ⟨gr,0,none⟩=some ev) (_:ev=.nilIface\/∃te pe,ev=.iface te pe),
    Calls P f #[.string s] w λe w'=>∃N,e=.returned (.tuple #[.int .i64 (Lib.atoiSat s.data.toList),.iface ty (.pointer (some ⟨N,0,none⟩))])/\w.heap.size<=N/\w'.heap[N]?=some (.cells #[.string ⟨#[65,116,111,105]⟩,.string s,ev] tc (0,0))/\Below w.heap.size w w'):
  rB P gl B (jeb f ty):=by
 intro g as k hk H nx v H' nx' ro hv hb;unfold jeb at hk;obtain⟨e,hk2⟩:=cF hk;rw[bQ,aQ] at e;clear hk;subst e;have hk:=hk2;clear hk2;split at hk<;>try (cases hk;done)
 rename_i s;obtain⟨hlen,hk2⟩:=cF hk;clear hk;have hk:=hk2;clear hk2;rw[bE,aQ] at hlen;unfold jl6 at hk;split at hk
 ·rename_i n hn;cases hk;simp only[bA,bK] at hv;obtain⟨rfl,rfl,rfl⟩:=hv;refine⟨Syn.refl _ _ _,λρ w args hr _ _ _ _ ha=>⟨hfn,?_⟩⟩;obtain⟨b,rfl,hbs⟩:=jk8 ha;have h1:=wP hbs;have h2:=jlv hbs;refine(c1 b (by omega) n (by rw[h1];exact hn) w).mono ?_;rintro e w' ⟨rfl,hw⟩;have hbw:Below w.heap.size w w':=by
   rcases hw with rfl | ⟨t,rfl⟩
   ·exact Below.refl _ _
   ·exact Lib.bytesWorld_below _ _ _
  exact⟨_,rfl,jfb (Below.quiet hbw) hr (jiz (by simp[VR]) (by simp[VR]))⟩
 ·rename_i hn;cases hk;simp only[bA,bK] at hv;obtain⟨rfl,rfl,rfl⟩:=hv;refine⟨j5b _ _ _,λρ w args hr hf _ hgl hwf ha=>⟨hfn,?_⟩⟩;obtain⟨b,rfl,hbs⟩:=jk8 ha;have h1:=wP hbs;have h2:=jlv hbs;obtain⟨ev,q1,q2⟩:=j1f hr hb hgl hgs hs;refine(c2 b (by omega) (by rw[h1];exact hn) ev w q1 q2).mono ?_;rintro e w' ⟨N,rfl,g1,g2,g3⟩;exact⟨_,rfl,j0f (Below.quiet g3) g1 (lD.1 g2).1 hr hf hwf (jiz (by simp[VR]) (by simp[VR,RM.upd]))⟩
 ·rename_i hn;cases hk;simp only[bA,bK] at hv;obtain⟨rfl,rfl,rfl⟩:=hv;refine⟨j5b _ _ _,λρ w args hr hf _ hgl hwf ha=>⟨hfn,?_⟩⟩;obtain⟨b,rfl,hbs⟩:=jk8 ha;have h1:=wP hbs;have h2:=jlv hbs;obtain⟨ev,q1,q2⟩:=j1f hr hb hgl hgr hr';refine(c3 b (by omega) (by rw[h1];exact hn) ev w q1 q2).mono ?_;rintro e w' ⟨N,rfl,g1,g2,g3⟩;exact⟨_,rfl,j0f (Below.quiet g3) g1 (lD.1 g2).1 hr hf hwf (jiz (by simp[VR,h1]) (by simp[VR,RM.upd]))⟩
def cB (s sep:List Nat):List (List Nat):=(Lib.split (u8 s) (u8 sep)).map λw=>w.map UInt8.toNat
def jhq (f:FuncId):kT:=λg as=>bif Nat.beq g f then(match as with
 | [.str s,.str sep]=>bif s.length.ble 1000000&& !(sep.length.beq 0) then
     some λH nx _=>some (.sl nx 0 (cB s sep).length (some (cB s sep).length) 1,H.set nx (.cells (put ((cB s sep).map AV.str) 0 .e) ((cB s sep).map AV.str).length),nx+1) else none
 | _=>none) else none
theorem kpa {ρ:RM} {s t:List Nat} {args:Array Value} (h:VRs ρ [.str s,.str t] args.toList):∃b c:ByteArray,args=#[.string b,.string c]/\b.data.toList.map UInt8.toNat=s/\c.data.toList.map UInt8.toNat=t:=by
 simp only[VRs,VR] at h;obtain⟨v,vs,h1,⟨b,rfl,h2⟩,v2,vs2,rfl,⟨c,rfl,h3⟩,rfl⟩:=h;exact⟨b,c,by apply nL.1;exact h1,h2,h3⟩
def jt3 (B:Base) (g:Nat):Bool:=g.blt B.nx0&&(match B.H0.get g with
 | some (.cells c (_+1))=>(match c.get 0 with
   | some (.int .i64 _)=>true
   | _=>false)
 | _=>false)
theorem ker {ρ:RM} {H:Tr Blk} {w:World} (hr:HR ρ H w) (hb:∀b,b<B.nx0->H.get b=B.H0.get b) (hgl:GLok gl ρ) {g:Nat} (hg:gl.contains g=true) (h:jt3 B g=true):∃m:Int,w.cell? ⟨g,0,none⟩=some (.int .i64 m):=by
 unfold jt3 at h;rw[aW] at h;obtain⟨h0,h⟩:=h;split at h<;>try (cases h;done)
 rename_i c n hc;split at h<;>try (cases h;done)
 rename_i m ha;obtain⟨a',v,q1,q2,q3⟩:=jyp hr hb hgl hg (by simpa using h0) hc (i:=0) (by omega);rw[ha] at q1;cases q1;simp only[VR] at q3;exact⟨m,by rw[q2,q3]⟩
theorem jye {ρ:RM}:∀(l:List ByteArray),VRs ρ (l.map λb=>AV.str (b.data.toList.map UInt8.toNat)) (l.map Value.string)
 | []=>by simp[VRs]
 | b::l=>by
   simp only[dA,VRs,VR];exact⟨_,_,rfl,⟨b,rfl,rfl⟩,jye l⟩
theorem koz {f:FuncId} {t9 g1:Nat} (hfn:U0 P f) (hg1:gl.contains g1=true) (hi:jt3 B g1=true)
  (c1:∀(s sep:ByteArray) (m:Int) (w:World) (_:s.size<4294967281) (_:w.cell? ⟨g1,0,none⟩=some (.int .i64 m)) (_:1<=sep.size),Calls P f #[.string s,.string sep] w λe w'=>
    e=.returned (.slice (some ⟨w.heap.size,0,none⟩) (Lib.countB s sep+1) (Lib.countB s sep+1))/\w'=w.alloc (.cells ((Lib.splitB sep 0 (Lib.countB s sep) s).map Value.string).toArray t9)):
  rB P gl B (jhq f):=by
 intro g as k hk H nx v H' nx' ro hv hb;unfold jhq at hk;obtain⟨e,hk2⟩:=cF hk;rw[bQ,aQ] at e;clear hk;subst e;have hk:=hk2;clear hk2;split at hk<;>try (cases hk;done)
 rename_i s sep;obtain⟨hlen,hk2⟩:=cF hk;clear hk;have hk:=hk2;clear hk2;rw[aW,bE,aQ,bQ] at hlen;have hsep:sep.length≠0:=by simpa using hlen.2
 cases hk;simp only[bA,bK] at hv;obtain⟨rfl,rfl,rfl⟩:=hv;refine⟨Syn.new _ _ _ _,λρ w args hr hf hro hgl hwf ha=>⟨hfn,?_⟩⟩;obtain⟨b,c,rfl,hbs,hcs⟩:=kpa ha;have h1:=wP hbs;have h2:=jlv hbs;have h3:=wP hcs;have h4:=jlv hcs;obtain⟨m,q1⟩:=ker hr hb hgl hg1 hi;refine(c1 b c m w (by omega) q1 (by omega)).mono ?_;rintro e w' ⟨rfl,rfl⟩;have hw:(cB s sep).map AV.str=(Lib.splitB c 0 (Lib.countB b c) b).map λx=>AV.str (x.data.toList.map UInt8.toNat):=by
  have:=Lib.splitB_data c 0 (Lib.countB b c) b;unfold cB Lib.split;rw[<-h1,<-h3,<-this,iQ,iQ];rfl
 have hl:(Lib.splitB c 0 (Lib.countB b c) b).length=Lib.countB b c+1:=Lib.splitB_all c (by omega) 0 _ b rfl;have hwl:(cB s sep).length=Lib.countB b c+1:=by
  have:=congrArg List.length hw;simpa[hl] using this
 have hn:ρ nx=none:=hf nx (bV _) (by omega)
 obtain⟨ρ',st,hr2,hv2⟩:∃ρ',Step ρ H nx ro w ρ' (H.set nx (.cells (put ((cB s sep).map AV.str) 0 .e) ((cB s sep).map AV.str).length)) (nx+1) (w.alloc (.cells ((Lib.splitB c 0 (Lib.countB b c) b).map Value.string).toArray t9))/\
   HR ρ' (H.set nx (.cells (put ((cB s sep).map AV.str) 0 .e) ((cB s sep).map AV.str).length)) (w.alloc (.cells ((Lib.splitB c 0 (Lib.countB b c) b).map Value.string).toArray t9))/\ρ' nx=some ⟨w.heap.size,0,Lib.countB b c+1⟩:=by
  have hc:=jjg (l:=(cB s sep).map AV.str) (cs:=((Lib.splitB c 0 (Lib.countB b c) b).map Value.string).toArray) (elem:=t9) (fr:=(0,0)) (lim:=Lib.countB b c+1) hr hn hro
   (by rw[cY,hwl,hw,iM (by simp[hl])];exact jye _) (by rw[cY,hwl];exact bV _) (by simp[hl]) (λi=>by simp)
  exact⟨_,hc.2,hc.1,by unfold RM.upd;rw[aK rfl]⟩
 refine⟨_,rfl,ρ',st,hr2,?_⟩;simp only[VR];refine⟨_,Lib.countB b c+1,0,hv2,by rw[hwl],by omega,by omega,.inl rfl,.inl ⟨by rw[hwl],by simp,λ_=>by have:=Lib.countB_le c (by omega) b.size b (bV _);have:=hlen.1;omega⟩⟩
def jec (f:FuncId):kT:=λg as=>bif Nat.beq g f then(match as with
 | [.int .u64 x]=>if 0<=x/\x<=18446744073709551615 then some λH nx _=>some (.int .i64 (Lib.bitLen x.toNat),H,nx) else none
 | _=>none) else none
theorem j3l {ρ:RM} {k:IntKind} {x:Int} {args:Array Value} (h:VRs ρ [.int k x] args.toList):args=#[.int k x]:=by
 simp only[VRs,VR] at h;obtain⟨v,vs,h1,rfl,rfl⟩:=h;apply nL.1;exact h1
theorem kow {f:FuncId} (hfn:U0 P f) (c1:∀(x:Int) (w:World) (_:0<=x) (_:x<=18446744073709551615),Calls P f #[.int .u64 x] w λe w'=>e=.returned (.int .i64 (Lib.bitLen x.toNat))/\w'=w):rB P gl B (jec f):=by
 intro g as k hk H nx v H' nx' ro hv hb;unfold jec at hk;obtain⟨e,hk2⟩:=cF hk;rw[bQ,aQ] at e;clear hk;subst e;split at hk2<;>try (cases hk2;done)
 rename_i x;split at hk2<;>try (cases hk2;done)
 rename_i hx;cases hk2;simp only[bA,bK] at hv;obtain⟨rfl,rfl,rfl⟩:=hv;refine⟨Syn.refl _ _ _,λρ w args hr _ _ _ _ ha=>⟨hfn,?_⟩⟩;obtain rfl:=j3l ha;refine(c1 x w hx.1 hx.2).mono ?_;rintro e w' ⟨rfl,rfl⟩;exact⟨_,rfl,jfb (Below.quiet (Below.refl _ _)) hr (by simp[VR])⟩
def jed (f:FuncId):kT:=λg as=>bif Nat.beq g f then(match as with
 | [.int .i64 x]=>if 0<=x/\x<=64 then some λH nx _=>some (.int .i64 (Lib.l10 x.toNat),H,nx) else none
 | _=>none) else none
theorem kox {f:FuncId} (hfn:U0 P f) (c1:∀(x:Nat) (_:x<=64) (w:World),Calls P f #[.int .i64 x] w λe w'=>e=.returned (.int .i64 (Lib.l10 x))/\w'=w):rB P gl B (jed f):=by
 intro g as k hk H nx v H' nx' ro hv hb;unfold jed at hk;obtain⟨e,hk2⟩:=cF hk;rw[bQ,aQ] at e;clear hk;subst e;split at hk2<;>try (cases hk2;done)
 rename_i x;split at hk2<;>try (cases hk2;done)
 rename_i hx;cases hk2;simp only[bA,bK] at hv;obtain⟨rfl,rfl,rfl⟩:=hv;refine⟨Syn.refl _ _ _,λρ w args hr _ _ _ _ ha=>⟨hfn,?_⟩⟩;obtain rfl:=j3l ha;have:=c1 x.toNat (by omega) w;rw[Int.toNat_of_nonneg hx.1] at this;refine this.mono ?_;rintro e w' ⟨rfl,rfl⟩;exact⟨_,rfl,jfb (Below.quiet (Below.refl _ _)) hr (by simp[VR])⟩
end W
end Go.Vm
namespace Go.Vm
namespace W
open Go Go.RowKit
variable {P:Program} {gl:List Nat} {B:Base}
end W
end Go.Vm
namespace Go.Vm
namespace W
open Go Go.RowKit
variable {P:Program} {gl:List Nat} {B:Base}
def iT (S:List (List Nat)) (sep:List Nat):List Nat:=(Lib.join (S.map u8) (u8 sep)).map UInt8.toNat
def v8 (s:List Nat):ByteArray:=⟨(u8 s).toArray⟩
end W
end Go.Vm
