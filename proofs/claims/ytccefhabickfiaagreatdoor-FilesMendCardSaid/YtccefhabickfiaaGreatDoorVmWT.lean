/- Parts of the proof. -/
import Derived.Test.YtccefhabickfiaaGreatDoorVmWG
import Derived.Lib.ParseIntB
import Derived.Lib.SplitLaws
import Derived.Lib.AtoiErrMem
import Derived.Lib.ItoaNum
import Derived.Lib.Join
set_option linter.unusedSimpArgs false
set_option linter.defProp false
set_option linter.unusedVariables false
namespace Go.Vm
namespace W
open Go Go.RowKit
variable {P:Program} {gl:List Nat} {B:Base}
def Below.quiet {w w':World} (h:Below w.heap.size w w'):Quiet w w':=⟨h.os,h.tape,h.output,h.size,h.block⟩
def u8 (s:List Nat):List UInt8:=s.map UInt8.ofNat
def mJ {b:ByteArray} {s:List Nat} (h:b.data.toList.map UInt8.toNat=s):b.data.toList=u8 s:=by
 subst h;unfold u8;rw[lO];have:(UInt8.ofNat∘UInt8.toNat)=id:=by funext x;simp
 rw[this,Ge]
def Mo {b:ByteArray} {s:List Nat} (h:b.data.toList.map UInt8.toNat=s):b.size=s.length:=by
 subst h;rw[dM,gS];rfl
def Kt {ρ:RM} {s:List Nat} {args:Array Value} (h:VRs ρ [.str s] args.toList):∃b:ByteArray,args=#[.string b]/\b.data.toList.map UInt8.toNat=s:=by
 simp only[VRs,VR] at h;obtain⟨v,vs,h1,⟨b,rfl,h2⟩,rfl⟩:=h;exact⟨b,by apply gF.1;exact h1,h2⟩
def Dr {ρ:RM} {H:Tr Blk} {nx ro:Nat} {w w':World} {v:AV} {v':Value} (q:Quiet w w') (hr:HR ρ H w) (hv:VR ρ v v'):Ends ρ H nx ro w v H nx v' w':=⟨ρ,q.step,q.hr hr,hv⟩
def jjc {ρ:RM} {H:Tr Blk} {nx ro N:Nat} {w w':World} {v:AV} {v':Value} (q:Quiet w w') (h1:w.heap.size<=N) (h2:N<w'.heap.size) (hr:HR ρ H w) (hf:Free ρ nx (nx+1)) (hwf:WF H nx)
  (hv:VR (ρ.upd nx ⟨N,0,0⟩) v v'):Ends ρ H nx ro w v H (nx+1) v' w':=by
 have hn:ρ nx=none:=hf nx (aU _) (by omega);have hle:ρ.Le (ρ.upd nx ⟨N,0,0⟩):=RM.le_upd hn;have hother:∀b,b≠nx->(ρ.upd nx ⟨N,0,0⟩) b=ρ b:=λb hb=>by unfold RM.upd;rw[aD hb]
 have hsame:(ρ.upd nx ⟨N,0,0⟩) nx=some ⟨N,0,0⟩:=by unfold RM.upd;rw[aK rfl]
 have hlive:∀b,(H.get b).isSome->b≠nx:=λb hb e=>by have:=hwf b hb;omega
 have hr':=q.hr hr;refine⟨ρ.upd nx ⟨N,0,0⟩,⟨q.os,q.tape,q.output,q.size,by omega,λb hb=>hother b (by omega),λx hx _=>q.keep x hx,λb l hb1 hb2 hl=>?_,λb hb=>.inr hb,λ_ _ _=>rfl⟩,⟨λb k l hk hl=>?_,λb b' l l' e1 e2 g1 g2 e=>?_⟩,hv⟩
 ·obtain rfl:b=nx:=by omega
  rw[hsame] at hl;cases hl;exact .inl ⟨h1,h2⟩
 ·rw[hother b (hlive b (by rw[hk];rfl))] at hl;exact(hr'.blk b k l hk hl).mono hle rfl
 ·rw[hother b (hlive b e1)] at g1;rw[hother b' (hlive b' e2)] at g2;exact hr'.inj b b' l l' e1 e2 g1 g2 e
def jg5 {ρ:RM} {H:Tr Blk} {w:World} (hr:HR ρ H w) (hb:∀b,b<B.nx0->H.get b=B.H0.get b) (hgl:GLok gl ρ) {g:Nat} (hg:gl.contains g=true) (hlt:g<B.nx0) {c:Tr AV} {n:Nat} (hc:B.H0.get g=some (.cells c n)) {i:Nat} (hi:i<n):
  ∃a v,c.get i=some a/\w.cell? ⟨g,i,none⟩=some v/\VR ρ a v:=by
 obtain⟨l,h1,h2,h3⟩:=hgl g hg;obtain⟨cs,elem,fr,g1,_,_,_,g5⟩:=hr.blk g _ l (by rw[hb g hlt];exact hc) h1;obtain⟨a,v,q1,q2,q3⟩:=g5 i hi;refine⟨a,v,q1,?_,q3⟩;rw[h2] at g1;rw[h3,iC] at q2;simp only[World.cell?,g1];simpa using q2
def jky:AV->Bool
 | .ifc _ _=>true
 | .nili=>true
 | _=>false
def jzq {ρ:RM} {a:AV} {v:Value} (h:jky a=true) (hv:VR ρ a v):v=.nilIface\/∃t p,v=.iface t p:=by
 cases a<;>try (cases h;done)
 case ifc t x=>simp only[VR] at hv;obtain⟨y,rfl,_⟩:=hv;exact .inr ⟨t,y,rfl⟩
 case nili=>simp only[VR] at hv;exact .inl hv
def Qw (B:Base) (g:Nat):Bool:=g.blt B.nx0&&(match B.H0.get g with
 | some (.cells c (_+1))=>(match c.get 0 with
   | some a=>jky a
   | none=>false)
 | _=>false)
def jko {ρ:RM} {H:Tr Blk} {w:World} (hr:HR ρ H w) (hb:∀b,b<B.nx0->H.get b=B.H0.get b) (hgl:GLok gl ρ) {g:Nat} (hg:gl.contains g=true) (h:Qw B g=true):
  ∃ev,w.cell? ⟨g,0,none⟩=some ev/\(ev=.nilIface\/∃t p,ev=.iface t p):=by
 unfold Qw at h;rw[aN] at h;obtain⟨h0,h⟩:=h;split at h<;>try (cases h;done)
 rename_i c n hc;split at h<;>try (cases h;done)
 rename_i a ha;obtain⟨a',v,q1,q2,q3⟩:=jg5 hr hb hgl hg (by simpa using h0) hc (i:=0) (by omega);rw[ha] at q1;cases q1;exact⟨v,q2,jzq h q3⟩
def Nh (ty:TypeId) (k:IntKind) (sat:Int):Lib.NumEnd Int->Option (Tr Blk->Nat->Nat->bN)
 | .ok v=>some λH nx _=>some (.tup [.int k v,.nili],H,nx)
 | Lib.NumEnd.syntax=>some λH nx _=>some (.tup [.int k 0,.ifc ty (.ptr nx 0)],H,nx+1)
 | .range=>some λH nx _=>some (.tup [.int k sat,.ifc ty (.ptr nx 0)],H,nx+1)
def Ce (f:FuncId) (ty:TypeId):dX:=λg as=>bif Nat.beq g f then(match as with
 | [.str s]=>bif s.length.ble 1000000 then Nh ty .i64 (Lib.atoiSat (u8 s)) (Lib.atoiAll (u8 s)) else none
 | _=>none) else none
def tI (P:Program) (f:FuncId):Prop:=∃fn,P.funcs[f]?=some fn/\(fn.name== "runtime.NumGoroutine")=false/\fn.body.isSome=true
def jqg (H:Tr Blk) (nx ro:Nat):Syn H nx ro H (nx+1):=⟨by omega,λ_ h=>.inr h,λ_ _ _=>rfl⟩
def Ig {ρ:RM} {a b:AV} {x y:Value} (h1:VR ρ a x) (h2:VR ρ b y):VR ρ (.tup [a,b]) (.tuple #[x,y]):=by
 simp only[VR];exact⟨_,rfl,x,[y],rfl,h1,y,[],rfl,h2,rfl⟩
def j8g {f:FuncId} {ty e5 tc gs gr:Nat} (hfn:tI P f) (hgs:gl.contains gs=true) (hgr:gl.contains gr=true) (hs:Qw B gs=true) (hr':Qw B gr=true)
  (c1:∀(s:ByteArray) (_:s.size<=9223372036854775806) (v:Int) (_:Lib.atoiAll s.data.toList=.ok v) (w:World),Calls P f #[.string s] w λe w'=>e=.returned (.tuple #[.int .i64 v,.nilIface])/\(w'=w\/∃t,w'=Lib.bytesWorld w e5 t))
  (c2:∀(s:ByteArray) (_:s.size<=281474976710656) (_:Lib.atoiAll s.data.toList=Lib.NumEnd.syntax) (ev:Value) (w:World) (_:w.cell? ⟨gs,0,none⟩=some ev) (_:ev=.nilIface\/∃te pe,ev=.iface te pe),
    Calls P f #[.string s] w λe w'=>∃N,e=.returned (.tuple #[.int .i64 0,.iface ty (.pointer (some ⟨N,0,none⟩))])/\w.heap.size<=N/\w'.heap[N]?=some (.cells #[.string ⟨#[65,116,111,105]⟩,.string s,ev] tc (0,0))/\Below w.heap.size w w')
  (c3:∀(s:ByteArray) (_:s.size<=281474976710656) (_:Lib.atoiAll s.data.toList=.range) (ev:Value) (w:World) (_:w.cell? ⟨gr,0,none⟩=some ev) (_:ev=.nilIface\/∃te pe,ev=.iface te pe),
    Calls P f #[.string s] w λe w'=>∃N,e=.returned (.tuple #[.int .i64 (Lib.atoiSat s.data.toList),.iface ty (.pointer (some ⟨N,0,none⟩))])/\w.heap.size<=N/\w'.heap[N]?=some (.cells #[.string ⟨#[65,116,111,105]⟩,.string s,ev] tc (0,0))/\Below w.heap.size w w'):
  iX P gl B (Ce f ty):=by
 intro g as k hk H nx v H' nx' ro hv hb;unfold Ce at hk;obtain⟨e,hk2⟩:=aR hk;rw[aL,aH] at e;clear hk;subst e;have hk:=hk2;clear hk2;split at hk<;>try (cases hk;done)
 rename_i s;obtain⟨hlen,hk2⟩:=aR hk;clear hk;have hk:=hk2;clear hk2;rw[aP,aH] at hlen;unfold Nh at hk;split at hk
 ·rename_i n hn;cases hk;simp only[aG,aM] at hv;obtain⟨rfl,rfl,rfl⟩:=hv;refine⟨Syn.refl _ _ _,λρ w args hr _ _ _ _ ha=>⟨hfn,?_⟩⟩;obtain⟨b,rfl,hbs⟩:=Kt ha;have h1:=mJ hbs;have h2:=Mo hbs;refine(c1 b (by omega) n (by rw[h1];exact hn) w).mono ?_;rintro e w' ⟨rfl,hw⟩;have hbw:Below w.heap.size w w':=by
   rcases hw with rfl | ⟨t,rfl⟩
   ·exact Below.refl _ _
   ·exact Lib.bytesWorld_below _ _ _
  exact⟨_,rfl,Dr (Below.quiet hbw) hr (Ig (by simp[VR]) (by simp[VR]))⟩
 ·rename_i hn;cases hk;simp only[aG,aM] at hv;obtain⟨rfl,rfl,rfl⟩:=hv;refine⟨jqg _ _ _,λρ w args hr hf _ hgl hwf ha=>⟨hfn,?_⟩⟩;obtain⟨b,rfl,hbs⟩:=Kt ha;have h1:=mJ hbs;have h2:=Mo hbs;obtain⟨ev,q1,q2⟩:=jko hr hb hgl hgs hs;refine(c2 b (by omega) (by rw[h1];exact hn) ev w q1 q2).mono ?_;rintro e w' ⟨N,rfl,g1,g2,g3⟩;exact⟨_,rfl,jjc (Below.quiet g3) g1 (eJ.1 g2).1 hr hf hwf (Ig (by simp[VR]) (by simp[VR,RM.upd]))⟩
 ·rename_i hn;cases hk;simp only[aG,aM] at hv;obtain⟨rfl,rfl,rfl⟩:=hv;refine⟨jqg _ _ _,λρ w args hr hf _ hgl hwf ha=>⟨hfn,?_⟩⟩;obtain⟨b,rfl,hbs⟩:=Kt ha;have h1:=mJ hbs;have h2:=Mo hbs;obtain⟨ev,q1,q2⟩:=jko hr hb hgl hgr hr';refine(c3 b (by omega) (by rw[h1];exact hn) ev w q1 q2).mono ?_;rintro e w' ⟨N,rfl,g1,g2,g3⟩;exact⟨_,rfl,jjc (Below.quiet g3) g1 (eJ.1 g2).1 hr hf hwf (Ig (by simp[VR,h1]) (by simp[VR,RM.upd]))⟩
def cY (s sep:List Nat):List (List Nat):=(Lib.split (u8 s) (u8 sep)).map λw=>w.map UInt8.toNat
def Hb (f:FuncId):dX:=λg as=>bif Nat.beq g f then(match as with
 | [.str s,.str sep]=>bif s.length.ble 1000000&& !(sep.length.beq 0) then
     some λH nx _=>some (.sl nx 0 (cY s sep).length (some (cY s sep).length) 1,H.set nx (.cells (put ((cY s sep).map AV.str) 0 .e) ((cY s sep).map AV.str).length),nx+1) else none
 | _=>none) else none
def j94 {ρ:RM} {s t:List Nat} {args:Array Value} (h:VRs ρ [.str s,.str t] args.toList):∃b c:ByteArray,args=#[.string b,.string c]/\b.data.toList.map UInt8.toNat=s/\c.data.toList.map UInt8.toNat=t:=by
 simp only[VRs,VR] at h;obtain⟨v,vs,h1,⟨b,rfl,h2⟩,v2,vs2,rfl,⟨c,rfl,h3⟩,rfl⟩:=h;exact⟨b,c,by apply gF.1;exact h1,h2,h3⟩
def jap (B:Base) (g:Nat):Bool:=g.blt B.nx0&&(match B.H0.get g with
 | some (.cells c (_+1))=>(match c.get 0 with
   | some (.int .i64 _)=>true
   | _=>false)
 | _=>false)
def jzn {ρ:RM} {H:Tr Blk} {w:World} (hr:HR ρ H w) (hb:∀b,b<B.nx0->H.get b=B.H0.get b) (hgl:GLok gl ρ) {g:Nat} (hg:gl.contains g=true) (h:jap B g=true):∃m:Int,w.cell? ⟨g,0,none⟩=some (.int .i64 m):=by
 unfold jap at h;rw[aN] at h;obtain⟨h0,h⟩:=h;split at h<;>try (cases h;done)
 rename_i c n hc;split at h<;>try (cases h;done)
 rename_i m ha;obtain⟨a',v,q1,q2,q3⟩:=jg5 hr hb hgl hg (by simpa using h0) hc (i:=0) (by omega);rw[ha] at q1;cases q1;simp only[VR] at q3;exact⟨m,by rw[q2,q3]⟩
def jgl {ρ:RM}:∀(l:List ByteArray),VRs ρ (l.map λb=>AV.str (b.data.toList.map UInt8.toNat)) (l.map Value.string)
 | []=>by simp[VRs]
 | b::l=>by
   simp only[dA,VRs,VR];exact⟨_,_,rfl,⟨b,rfl,rfl⟩,jgl l⟩
def j8s {f:FuncId} {t9 g1:Nat} (hfn:tI P f) (hg1:gl.contains g1=true) (hi:jap B g1=true)
  (c1:∀(s sep:ByteArray) (m:Int) (w:World) (_:s.size<4294967281) (_:w.cell? ⟨g1,0,none⟩=some (.int .i64 m)) (_:1<=sep.size),Calls P f #[.string s,.string sep] w λe w'=>
    e=.returned (.slice (some ⟨w.heap.size,0,none⟩) (Lib.countB s sep+1) (Lib.countB s sep+1))/\w'=w.alloc (.cells ((Lib.splitB sep 0 (Lib.countB s sep) s).map Value.string).toArray t9)):
  iX P gl B (Hb f):=by
 intro g as k hk H nx v H' nx' ro hv hb;unfold Hb at hk;obtain⟨e,hk2⟩:=aR hk;rw[aL,aH] at e;clear hk;subst e;have hk:=hk2;clear hk2;split at hk<;>try (cases hk;done)
 rename_i s sep;obtain⟨hlen,hk2⟩:=aR hk;clear hk;have hk:=hk2;clear hk2;rw[aN,aP,aH,aL] at hlen;have hsep:sep.length≠0:=by simpa using hlen.2
 cases hk;simp only[aG,aM] at hv;obtain⟨rfl,rfl,rfl⟩:=hv;refine⟨Syn.new _ _ _ _,λρ w args hr hf hro hgl hwf ha=>⟨hfn,?_⟩⟩;obtain⟨b,c,rfl,hbs,hcs⟩:=j94 ha;have h1:=mJ hbs;have h2:=Mo hbs;have h3:=mJ hcs;have h4:=Mo hcs;obtain⟨m,q1⟩:=jzn hr hb hgl hg1 hi;refine(c1 b c m w (by omega) q1 (by omega)).mono ?_;rintro e w' ⟨rfl,rfl⟩;have hw:(cY s sep).map AV.str=(Lib.splitB c 0 (Lib.countB b c) b).map λx=>AV.str (x.data.toList.map UInt8.toNat):=by
  have:=Lib.splitB_data c 0 (Lib.countB b c) b;unfold cY Lib.split;rw[<-h1,<-h3,<-this,lO,lO];rfl
 have hl:(Lib.splitB c 0 (Lib.countB b c) b).length=Lib.countB b c+1:=Lib.splitB_all c (by omega) 0 _ b rfl;have hwl:(cY s sep).length=Lib.countB b c+1:=by
  have:=congrArg List.length hw;simpa[hl] using this
 have hn:ρ nx=none:=hf nx (aU _) (by omega)
 obtain⟨ρ',st,hr2,hv2⟩:∃ρ',Step ρ H nx ro w ρ' (H.set nx (.cells (put ((cY s sep).map AV.str) 0 .e) ((cY s sep).map AV.str).length)) (nx+1) (w.alloc (.cells ((Lib.splitB c 0 (Lib.countB b c) b).map Value.string).toArray t9))/\
   HR ρ' (H.set nx (.cells (put ((cY s sep).map AV.str) 0 .e) ((cY s sep).map AV.str).length)) (w.alloc (.cells ((Lib.splitB c 0 (Lib.countB b c) b).map Value.string).toArray t9))/\ρ' nx=some ⟨w.heap.size,0,Lib.countB b c+1⟩:=by
  have hc:=Iz (l:=(cY s sep).map AV.str) (cs:=((Lib.splitB c 0 (Lib.countB b c) b).map Value.string).toArray) (elem:=t9) (fr:=(0,0)) (lim:=Lib.countB b c+1) hr hn hro
   (by rw[dM,hwl,hw,iU (by simp[hl])];exact jgl _) (by rw[dM,hwl];exact aU _) (by simp[hl]) (λi=>by simp)
  exact⟨_,hc.2,hc.1,by unfold RM.upd;rw[aK rfl]⟩
 refine⟨_,rfl,ρ',st,hr2,?_⟩;simp only[VR];refine⟨_,Lib.countB b c+1,0,hv2,by rw[hwl],by omega,by omega,.inl rfl,.inl ⟨by rw[hwl],by simp,λ_=>by have:=Lib.countB_le c (by omega) b.size b (aU _);have:=hlen.1;omega⟩⟩
def Cf (f:FuncId):dX:=λg as=>bif Nat.beq g f then(match as with
 | [.int .u64 x]=>if 0<=x/\x<=18446744073709551615 then some λH nx _=>some (.int .i64 (Lib.bitLen x.toNat),H,nx) else none
 | _=>none) else none
def jnp {ρ:RM} {k:IntKind} {x:Int} {args:Array Value} (h:VRs ρ [.int k x] args.toList):args=#[.int k x]:=by
 simp only[VRs,VR] at h;obtain⟨v,vs,h1,rfl,rfl⟩:=h;apply gF.1;exact h1
def j8p {f:FuncId} (hfn:tI P f) (c1:∀(x:Int) (w:World) (_:0<=x) (_:x<=18446744073709551615),Calls P f #[.int .u64 x] w λe w'=>e=.returned (.int .i64 (Lib.bitLen x.toNat))/\w'=w):iX P gl B (Cf f):=by
 intro g as k hk H nx v H' nx' ro hv hb;unfold Cf at hk;obtain⟨e,hk2⟩:=aR hk;rw[aL,aH] at e;clear hk;subst e;split at hk2<;>try (cases hk2;done)
 rename_i x;split at hk2<;>try (cases hk2;done)
 rename_i hx;cases hk2;simp only[aG,aM] at hv;obtain⟨rfl,rfl,rfl⟩:=hv;refine⟨Syn.refl _ _ _,λρ w args hr _ _ _ _ ha=>⟨hfn,?_⟩⟩;obtain rfl:=jnp ha;refine(c1 x w hx.1 hx.2).mono ?_;rintro e w' ⟨rfl,rfl⟩;exact⟨_,rfl,Dr (Below.quiet (Below.refl _ _)) hr (by simp[VR])⟩
def Cg (f:FuncId):dX:=λg as=>bif Nat.beq g f then(match as with
 | [.int .i64 x]=>if 0<=x/\x<=64 then some λH nx _=>some (.int .i64 (Lib.l10 x.toNat),H,nx) else none
 | _=>none) else none
def j8q {f:FuncId} (hfn:tI P f) (c1:∀(x:Nat) (_:x<=64) (w:World),Calls P f #[.int .i64 x] w λe w'=>e=.returned (.int .i64 (Lib.l10 x))/\w'=w):iX P gl B (Cg f):=by
 intro g as k hk H nx v H' nx' ro hv hb;unfold Cg at hk;obtain⟨e,hk2⟩:=aR hk;rw[aL,aH] at e;clear hk;subst e;split at hk2<;>try (cases hk2;done)
 rename_i x;split at hk2<;>try (cases hk2;done)
 rename_i hx;cases hk2;simp only[aG,aM] at hv;obtain⟨rfl,rfl,rfl⟩:=hv;refine⟨Syn.refl _ _ _,λρ w args hr _ _ _ _ ha=>⟨hfn,?_⟩⟩;obtain rfl:=jnp ha;have:=c1 x.toNat (by omega) w;rw[Int.toNat_of_nonneg hx.1] at this;refine this.mono ?_;rintro e w' ⟨rfl,rfl⟩;exact⟨_,rfl,Dr (Below.quiet (Below.refl _ _)) hr (by simp[VR])⟩
end W
end Go.Vm
namespace Go.Vm
namespace W
open Go Go.RowKit
variable {P:Program} {gl:List Nat} {B:Base}
end W
end Go.Vm
namespace Go.Vm
namespace W
open Go Go.RowKit
variable {P:Program} {gl:List Nat} {B:Base}
def pG (S:List (List Nat)) (sep:List Nat):List Nat:=(Lib.join (S.map u8) (u8 sep)).map UInt8.toNat
def pL (s:List Nat):ByteArray:=⟨(u8 s).toArray⟩
end W
end Go.Vm
