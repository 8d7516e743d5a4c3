/-
  Functions of the library that are told: strconv.Atoi, strconv.ParseUint(s, 10, 8), strings.Split, out of the library's contracts.
  A told function that ranges over a function: strips.Ends; new cells behind a walk of the model.
  Told functions: strings.Join.
-/
import Derived.Test.YtonohffniohehaaGreatDoorVmWG
import Derived.Lib.ParseIntB
import Derived.Lib.SplitLaws
import Derived.Lib.AtoiErrMem
import Derived.Lib.ItoaNum
import Derived.Lib.Join
set_option linter.unusedSimpArgs false
set_option linter.unusedVariables false
set_option linter.unusedSectionVars false
set_option linter.unnecessarySimpa false
namespace Go.Vm
namespace W
open Go Go.RowKit
variable {P:Program} {gl:List Nat} {B:Base}
theorem Below.quiet {w w':World} (h:Below w.heap.size w w'):Quiet w w':=⟨h.os,h.tape,h.output,h.size,h.block⟩
def u8 (s:List Nat):List UInt8:=s.map UInt8.ofNat
theorem jp8 {b:ByteArray} {s:List Nat} (h:b.data.toList.map UInt8.toNat=s):b.data.toList=u8 s:=by
 subst h
 unfold u8
 rw[List.map_map]
 have:(UInt8.ofNat∘UInt8.toNat)=id:=by funext x;simp
 rw[this,List.map_id]
theorem juk {b:ByteArray} {s:List Nat} (h:b.data.toList.map UInt8.toNat=s):b.size=s.length:=by
 subst h
 rw[List.length_map,Array.length_toList]
 rfl
theorem ju7 {ρ:RM} {s:List Nat} {args:Array Value} (h:VRs ρ [.str s] args.toList):∃b:ByteArray,args=#[.string b]∧b.data.toList.map UInt8.toNat=s:=by
 simp only[VRs,VR] at h
 obtain⟨v,vs,h1,⟨b,rfl,h2⟩,rfl⟩:=h
 exact⟨b,by apply Array.toList_inj.1;exact h1,h2⟩
theorem jn1 {ρ:RM} {H:Tr Blk} {nx ro:Nat} {w w':World} {v:AV} {v':Value} (q:Quiet w w') (hr:HR ρ H w) (hv:VR ρ v v'):Ends ρ H nx ro w v H nx v' w':=⟨ρ,q.step,q.hr hr,hv⟩
theorem j63 {ρ:RM} {H:Tr Blk} {nx ro N:Nat} {w w':World} {v:AV} {v':Value} (q:Quiet w w') (h1:w.heap.size≤N) (h2:N<w'.heap.size) (hr:HR ρ H w) (hf:Free ρ nx (nx+1)) (hwf:WF H nx)
  (hv:VR (ρ.upd nx ⟨N,0,0⟩) v v'):Ends ρ H nx ro w v H (nx+1) v' w':=by
 have hn:ρ nx=none:=hf nx (Nat.le_refl _) (by omega)
 have hle:ρ.Le (ρ.upd nx ⟨N,0,0⟩):=RM.le_upd hn
 have hother:∀b,b≠nx→(ρ.upd nx ⟨N,0,0⟩) b=ρ b:=fun b hb=>by unfold RM.upd;rw[if_neg hb]
 have hsame:(ρ.upd nx ⟨N,0,0⟩) nx=some ⟨N,0,0⟩:=by unfold RM.upd;rw[if_pos rfl]
 have hlive:∀b,(H.get b).isSome→b≠nx:=fun b hb e=>by have:=hwf b hb;omega
 have hr':=q.hr hr
 refine⟨ρ.upd nx ⟨N,0,0⟩,⟨q.os,q.tape,q.output,q.size,by omega,fun b hb=>hother b (by omega),fun x hx _=>q.keep x hx,fun b l hb1 hb2 hl=>?_,fun b hb=>.inr hb,fun _ _ _=>rfl⟩,⟨fun b k l hk hl=>?_,fun b b' l l' e1 e2 g1 g2 e=>?_⟩,hv⟩
 ·obtain rfl:b=nx:=by omega
  rw[hsame] at hl
  cases hl
  exact .inl ⟨h1,h2⟩
 ·rw[hother b (hlive b (by rw[hk];rfl))] at hl
  exact(hr'.blk b k l hk hl).mono hle rfl
 ·rw[hother b (hlive b e1)] at g1
  rw[hother b' (hlive b' e2)] at g2
  exact hr'.inj b b' l l' e1 e2 g1 g2 e
theorem j28 {ρ:RM} {H:Tr Blk} {w:World} (hr:HR ρ H w) (hb:∀b,b<B.nx0→H.get b=B.H0.get b) (hgl:GLok gl ρ) {g:Nat} (hg:gl.contains g=true) (hlt:g<B.nx0) {c:Tr AV} {n:Nat} (hc:B.H0.get g=some (.cells c n)) {i:Nat} (hi:i<n):
  ∃a v,c.get i=some a∧w.cell? ⟨g,i,none⟩=some v∧VR ρ a v:=by
 obtain⟨l,h1,h2,h3⟩:=hgl g hg
 obtain⟨cs,elem,fr,g1,_,_,_,g5⟩:=hr.blk g _ l (by rw[hb g hlt];exact hc) h1
 obtain⟨a,v,q1,q2,q3⟩:=g5 i hi
 refine⟨a,v,q1,?_,q3⟩
 rw[h2] at g1
 rw[h3,Nat.zero_add] at q2
 simp only[World.cell?,g1]
 simpa using q2
def kod:AV→Bool
 | .ifc _ _=>true
 | .nili=>true
 | _=>false
theorem kef {ρ:RM} {a:AV} {v:Value} (h:kod a=true) (hv:VR ρ a v):v=.nilIface∨∃t p,v=.iface t p:=by
 cases a<;>try (cases h;done)
 case ifc t x=>simp only[VR] at hv;obtain⟨y,rfl,_⟩:=hv;exact .inr ⟨t,y,rfl⟩
 case nili=>simp only[VR] at hv;exact .inl hv
def kek (B:Base) (g:Nat):Bool:=g.blt B.nx0&&(match B.H0.get g with
 | some (.cells c (_+1))=>(match c.get 0 with
   | some a=>kod a
   | none=>false)
 | _=>false)
theorem j6w {ρ:RM} {H:Tr Blk} {w:World} (hr:HR ρ H w) (hb:∀b,b<B.nx0→H.get b=B.H0.get b) (hgl:GLok gl ρ) {g:Nat} (hg:gl.contains g=true) (h:kek B g=true):
  ∃ev,w.cell? ⟨g,0,none⟩=some ev∧(ev=.nilIface∨∃t p,ev=.iface t p):=by
 unfold kek at h
 rw[Bool.and_eq_true] at h
 obtain⟨h0,h⟩:=h
 split at h<;>try (cases h;done)
 rename_i c n hc
 split at h<;>try (cases h;done)
 rename_i a ha
 obtain⟨a',v,q1,q2,q3⟩:=j28 hr hb hgl hg (by simpa using h0) hc (i:=0) (by omega)
 rw[ha] at q1
 cases q1
 exact⟨v,q2,kef h q3⟩
def kka (ty:TypeId) (k:IntKind) (sat:Int):Lib.NumEnd Int→Option (Tr Blk→Nat→Nat→Out)
 | .ok v=>some fun H nx _=>some (.tup [.int k v,.nili],H,nx)
 | Lib.NumEnd.syntax=>some fun H nx _=>some (.tup [.int k 0,.ifc ty (.ptr nx 0)],H,nx+1)
 | .range=>some fun H nx _=>some (.tup [.int k sat,.ifc ty (.ptr nx 0)],H,nx+1)
def j32 (f:FuncId) (ty:TypeId):jn7:=fun g as=>bif Nat.beq g f then(match as with
 | [.str s]=>bif s.length.ble 1000000 then kka ty .i64 (Lib.atoiSat (u8 s)) (Lib.atoiAll (u8 s)) else none
 | _=>none) else none
def kjl (P:Program) (f:FuncId):Prop:=∃fn,P.funcs[f]?=some fn∧(fn.name== "runtime.NumGoroutine")=false∧fn.body.isSome=true
theorem j9y (H:Tr Blk) (nx ro:Nat):Syn H nx ro H (nx+1):=⟨by omega,fun _ h=>.inr h,fun _ _ _=>rfl⟩
theorem jv9 {ρ:RM} {a b:AV} {x y:Value} (h1:VR ρ a x) (h2:VR ρ b y):VR ρ (.tup [a,b]) (.tuple #[x,y]):=by
 simp only[VR]
 exact⟨_,rfl,x,[y],rfl,h1,y,[],rfl,h2,rfl⟩
theorem kdn {f:FuncId} {ty e5 tc gs gr:Nat} (hfn:kjl P f) (hgs:gl.contains gs=true) (hgr:gl.contains gr=true) (hs:kek B gs=true) (hr':kek B gr=true)
  (c1:∀(s:ByteArray) (_:s.size≤9223372036854775806) (v:Int) (_:Lib.atoiAll s.data.toList=.ok v) (w:World),Calls P f #[.string s] w fun e w'=>e=.returned (.tuple #[.int .i64 v,.nilIface])∧(w'=w∨∃t,w'=Lib.bytesWorld w e5 t))
  (c2:∀(s:ByteArray) (_:s.size≤281474976710656) (_:Lib.atoiAll s.data.toList=Lib.NumEnd.syntax) (ev:Value) (w:World) (_:w.cell? ⟨gs,0,none⟩=some ev) (_:ev=.nilIface∨∃te pe,ev=.iface te pe),
    Calls P f #[.string s] w fun e w'=>∃N,e=.returned (.tuple #[.int .i64 0,.iface ty (.pointer (some ⟨N,0,none⟩))])∧w.heap.size≤N∧w'.heap[N]?=some (.cells #[.string ⟨#[65,116,111,105]⟩,.string s,ev] tc (0,0))∧Below w.heap.size w w')
  (c3:∀(s:ByteArray) (_:s.size≤281474976710656) (_:Lib.atoiAll s.data.toList=.range) (ev:Value) (w:World) (_:w.cell? ⟨gr,0,none⟩=some ev) (_:ev=.nilIface∨∃te pe,ev=.iface te pe),
    Calls P f #[.string s] w fun e w'=>∃N,e=.returned (.tuple #[.int .i64 (Lib.atoiSat s.data.toList),.iface ty (.pointer (some ⟨N,0,none⟩))])∧w.heap.size≤N∧w'.heap[N]?=some (.cells #[.string ⟨#[65,116,111,105]⟩,.string s,ev] tc (0,0))∧Below w.heap.size w w'):
  jhz P gl B (j32 f ty):=by
 intro g as k hk H nx v H' nx' ro hv hb
 unfold j32 at hk
 obtain⟨e,hk2⟩:=jah hk
 rw[jaa,decide_eq_true_eq] at e
 clear hk
 subst e
 have hk:=hk2
 clear hk2
 split at hk<;>try (cases hk;done)
 rename_i s
 obtain⟨hlen,hk2⟩:=jah hk
 clear hk
 have hk:=hk2
 clear hk2
 rw[jae,decide_eq_true_eq] at hlen
 unfold kka at hk
 split at hk
 ·rename_i n hn
  cases hk
  simp only[Option.some.injEq,Prod.mk.injEq] at hv
  obtain⟨rfl,rfl,rfl⟩:=hv
  refine⟨Syn.refl _ _ _,fun ρ w args hr _ _ _ _ ha=>⟨hfn,?_⟩⟩
  obtain⟨b,rfl,hbs⟩:=ju7 ha
  have h1:=jp8 hbs
  have h2:=juk hbs
  refine(c1 b (by omega) n (by rw[h1];exact hn) w).mono ?_
  rintro e w' ⟨rfl,hw⟩
  have hbw:Below w.heap.size w w':=by
   rcases hw with rfl | ⟨t,rfl⟩
   ·exact Below.refl _ _
   ·exact Lib.bytesWorld_below _ _ _
  exact⟨_,rfl,jn1 (Below.quiet hbw) hr (jv9 (by simp[VR]) (by simp[VR]))⟩
 ·rename_i hn
  cases hk
  simp only[Option.some.injEq,Prod.mk.injEq] at hv
  obtain⟨rfl,rfl,rfl⟩:=hv
  refine⟨j9y _ _ _,fun ρ w args hr hf _ hgl hwf ha=>⟨hfn,?_⟩⟩
  obtain⟨b,rfl,hbs⟩:=ju7 ha
  have h1:=jp8 hbs
  have h2:=juk hbs
  obtain⟨ev,q1,q2⟩:=j6w hr hb hgl hgs hs
  refine(c2 b (by omega) (by rw[h1];exact hn) ev w q1 q2).mono ?_
  rintro e w' ⟨N,rfl,g1,g2,g3⟩
  exact⟨_,rfl,j63 (Below.quiet g3) g1 (Array.getElem?_eq_some_iff.1 g2).1 hr hf hwf (jv9 (by simp[VR]) (by simp[VR,RM.upd]))⟩
 ·rename_i hn
  cases hk
  simp only[Option.some.injEq,Prod.mk.injEq] at hv
  obtain⟨rfl,rfl,rfl⟩:=hv
  refine⟨j9y _ _ _,fun ρ w args hr hf _ hgl hwf ha=>⟨hfn,?_⟩⟩
  obtain⟨b,rfl,hbs⟩:=ju7 ha
  have h1:=jp8 hbs
  have h2:=juk hbs
  obtain⟨ev,q1,q2⟩:=j6w hr hb hgl hgr hr'
  refine(c3 b (by omega) (by rw[h1];exact hn) ev w q1 q2).mono ?_
  rintro e w' ⟨N,rfl,g1,g2,g3⟩
  exact⟨_,rfl,j63 (Below.quiet g3) g1 (Array.getElem?_eq_some_iff.1 g2).1 hr hf hwf (jv9 (by simp[VR,h1]) (by simp[VR,RM.upd]))⟩
def jdm (s sep:List Nat):List (List Nat):=(Lib.split (u8 s) (u8 sep)).map fun w=>w.map UInt8.toNat
def jxh (f:FuncId):jn7:=fun g as=>bif Nat.beq g f then(match as with
 | [.str s,.str sep]=>bif s.length.ble 1000000&& !(sep.length.beq 0) then
     some fun H nx _=>some (.sl nx 0 (jdm s sep).length (some (jdm s sep).length) 1,H.set nx (.cells (put ((jdm s sep).map AV.str) 0 .e) ((jdm s sep).map AV.str).length),nx+1) else none
 | _=>none) else none
theorem kdk {ρ:RM} {s t:List Nat} {args:Array Value} (h:VRs ρ [.str s,.str t] args.toList):∃b c:ByteArray,args=#[.string b,.string c]∧b.data.toList.map UInt8.toNat=s∧c.data.toList.map UInt8.toNat=t:=by
 simp only[VRs,VR] at h
 obtain⟨v,vs,h1,⟨b,rfl,h2⟩,v2,vs2,rfl,⟨c,rfl,h3⟩,rfl⟩:=h
 exact⟨b,c,by apply Array.toList_inj.1;exact h1,h2,h3⟩
def kij (B:Base) (g:Nat):Bool:=g.blt B.nx0&&(match B.H0.get g with
 | some (.cells c (_+1))=>(match c.get 0 with
   | some (.int .i64 _)=>true
   | _=>false)
 | _=>false)
theorem keh {ρ:RM} {H:Tr Blk} {w:World} (hr:HR ρ H w) (hb:∀b,b<B.nx0→H.get b=B.H0.get b) (hgl:GLok gl ρ) {g:Nat} (hg:gl.contains g=true) (h:kij B g=true):∃m:Int,w.cell? ⟨g,0,none⟩=some (.int .i64 m):=by
 unfold kij at h
 rw[Bool.and_eq_true] at h
 obtain⟨h0,h⟩:=h
 split at h<;>try (cases h;done)
 rename_i c n hc
 split at h<;>try (cases h;done)
 rename_i m ha
 obtain⟨a',v,q1,q2,q3⟩:=j28 hr hb hgl hg (by simpa using h0) hc (i:=0) (by omega)
 rw[ha] at q1
 cases q1
 simp only[VR] at q3
 exact⟨m,by rw[q2,q3]⟩
theorem j7i {ρ:RM}:∀(l:List ByteArray),VRs ρ (l.map fun b=>AV.str (b.data.toList.map UInt8.toNat)) (l.map Value.string)
 | []=>by simp[VRs]
 | b::l=>by
   simp only[List.map_cons,VRs,VR]
   exact⟨_,_,rfl,⟨b,rfl,rfl⟩,j7i l⟩
theorem j9u {f:FuncId} {t9 g1:Nat} (hfn:kjl P f) (hg1:gl.contains g1=true) (hi:kij B g1=true)
  (c1:∀(s sep:ByteArray) (m:Int) (w:World) (_:s.size<4294967281) (_:w.cell? ⟨g1,0,none⟩=some (.int .i64 m)) (_:1≤sep.size),Calls P f #[.string s,.string sep] w fun e w'=>
    e=.returned (.slice (some ⟨w.heap.size,0,none⟩) (Lib.countB s sep+1) (Lib.countB s sep+1))∧w'=w.alloc (.cells ((Lib.splitB sep 0 (Lib.countB s sep) s).map Value.string).toArray t9)):
  jhz P gl B (jxh f):=by
 intro g as k hk H nx v H' nx' ro hv hb
 unfold jxh at hk
 obtain⟨e,hk2⟩:=jah hk
 rw[jaa,decide_eq_true_eq] at e
 clear hk
 subst e
 have hk:=hk2
 clear hk2
 split at hk<;>try (cases hk;done)
 rename_i s sep
 obtain⟨hlen,hk2⟩:=jah hk
 clear hk
 have hk:=hk2
 clear hk2
 rw[Bool.and_eq_true,jae,decide_eq_true_eq,jaa] at hlen
 have hsep:sep.length≠0:=by simpa using hlen.2
 cases hk
 simp only[Option.some.injEq,Prod.mk.injEq] at hv
 obtain⟨rfl,rfl,rfl⟩:=hv
 refine⟨Syn.new _ _ _ _,fun ρ w args hr hf hro hgl hwf ha=>⟨hfn,?_⟩⟩
 obtain⟨b,c,rfl,hbs,hcs⟩:=kdk ha
 have h1:=jp8 hbs
 have h2:=juk hbs
 have h3:=jp8 hcs
 have h4:=juk hcs
 obtain⟨m,q1⟩:=keh hr hb hgl hg1 hi
 refine(c1 b c m w (by omega) q1 (by omega)).mono ?_
 rintro e w' ⟨rfl,rfl⟩
 have hw:(jdm s sep).map AV.str=(Lib.splitB c 0 (Lib.countB b c) b).map fun x=>AV.str (x.data.toList.map UInt8.toNat):=by
  have:=Lib.splitB_data c 0 (Lib.countB b c) b
  unfold jdm Lib.split
  rw[←h1,←h3,←this,List.map_map,List.map_map]
  rfl
 have hl:(Lib.splitB c 0 (Lib.countB b c) b).length=Lib.countB b c+1:=Lib.splitB_all c (by omega) 0 _ b rfl
 have hwl:(jdm s sep).length=Lib.countB b c+1:=by
  have:=congrArg List.length hw
  simpa[hl] using this
 have hn:ρ nx=none:=hf nx (Nat.le_refl _) (by omega)
 obtain⟨ρ',st,hr2,hv2⟩:∃ρ',Step ρ H nx ro w ρ' (H.set nx (.cells (put ((jdm s sep).map AV.str) 0 .e) ((jdm s sep).map AV.str).length)) (nx+1) (w.alloc (.cells ((Lib.splitB c 0 (Lib.countB b c) b).map Value.string).toArray t9))∧
   HR ρ' (H.set nx (.cells (put ((jdm s sep).map AV.str) 0 .e) ((jdm s sep).map AV.str).length)) (w.alloc (.cells ((Lib.splitB c 0 (Lib.countB b c) b).map Value.string).toArray t9))∧ρ' nx=some ⟨w.heap.size,0,Lib.countB b c+1⟩:=by
  have hc:=jnd (l:=(jdm s sep).map AV.str) (cs:=((Lib.splitB c 0 (Lib.countB b c) b).map Value.string).toArray) (elem:=t9) (fr:=(0,0)) (lim:=Lib.countB b c+1) hr hn hro
   (by rw[List.length_map,hwl,hw,List.take_of_length_le (by simp[hl])];exact j7i _) (by rw[List.length_map,hwl];exact Nat.le_refl _) (by simp[hl]) (fun i=>by simp)
  exact⟨_,hc.2,hc.1,by unfold RM.upd;rw[if_pos rfl]⟩
 refine⟨_,rfl,ρ',st,hr2,?_⟩
 simp only[VR]
 refine⟨_,Lib.countB b c+1,0,hv2,by rw[hwl],by omega,by omega,.inl rfl,.inl ⟨by rw[hwl],by simp,fun _=>by have:=Lib.countB_le c (by omega) b.size b (Nat.le_refl _);have:=hlen.1;omega⟩⟩
def kgz (f:FuncId):jn7:=fun g as=>bif Nat.beq g f then(match as with
 | [.int .u64 x]=>if 0≤x∧x≤18446744073709551615 then some fun H nx _=>some (.int .i64 (Lib.bitLen x.toNat),H,nx) else none
 | _=>none) else none
theorem kaz {ρ:RM} {k:IntKind} {x:Int} {args:Array Value} (h:VRs ρ [.int k x] args.toList):args=#[.int k x]:=by
 simp only[VRs,VR] at h
 obtain⟨v,vs,h1,rfl,rfl⟩:=h
 apply Array.toList_inj.1
 exact h1
theorem kgy {f:FuncId} (hfn:kjl P f) (c1:∀(x:Int) (w:World) (_:0≤x) (_:x≤18446744073709551615),Calls P f #[.int .u64 x] w fun e w'=>e=.returned (.int .i64 (Lib.bitLen x.toNat))∧w'=w):jhz P gl B (kgz f):=by
 intro g as k hk H nx v H' nx' ro hv hb
 unfold kgz at hk
 obtain⟨e,hk2⟩:=jah hk
 rw[jaa,decide_eq_true_eq] at e
 clear hk
 subst e
 split at hk2<;>try (cases hk2;done)
 rename_i x
 split at hk2<;>try (cases hk2;done)
 rename_i hx
 cases hk2
 simp only[Option.some.injEq,Prod.mk.injEq] at hv
 obtain⟨rfl,rfl,rfl⟩:=hv
 refine⟨Syn.refl _ _ _,fun ρ w args hr _ _ _ _ ha=>⟨hfn,?_⟩⟩
 obtain rfl:=kaz ha
 refine(c1 x w hx.1 hx.2).mono ?_
 rintro e w' ⟨rfl,rfl⟩
 exact⟨_,rfl,jn1 (Below.quiet (Below.refl _ _)) hr (by simp[VR])⟩
def kgx (f:FuncId):jn7:=fun g as=>bif Nat.beq g f then(match as with
 | [.int .i64 x]=>if 0≤x∧x≤64 then some fun H nx _=>some (.int .i64 (Lib.l10 x.toNat),H,nx) else none
 | _=>none) else none
theorem kgw {f:FuncId} (hfn:kjl P f) (c1:∀(x:Nat) (_:x≤64) (w:World),Calls P f #[.int .i64 x] w fun e w'=>e=.returned (.int .i64 (Lib.l10 x))∧w'=w):jhz P gl B (kgx f):=by
 intro g as k hk H nx v H' nx' ro hv hb
 unfold kgx at hk
 obtain⟨e,hk2⟩:=jah hk
 rw[jaa,decide_eq_true_eq] at e
 clear hk
 subst e
 split at hk2<;>try (cases hk2;done)
 rename_i x
 split at hk2<;>try (cases hk2;done)
 rename_i hx
 cases hk2
 simp only[Option.some.injEq,Prod.mk.injEq] at hv
 obtain⟨rfl,rfl,rfl⟩:=hv
 refine⟨Syn.refl _ _ _,fun ρ w args hr _ _ _ _ ha=>⟨hfn,?_⟩⟩
 obtain rfl:=kaz ha
 have:=c1 x.toNat (by omega) w
 rw[Int.toNat_of_nonneg hx.1] at this
 refine this.mono ?_
 rintro e w' ⟨rfl,rfl⟩
 exact⟨_,rfl,jn1 (Below.quiet (Below.refl _ _)) hr (by simp[VR])⟩
end W
end Go.Vm
namespace Go.Vm
namespace W
open Go Go.RowKit
variable {P:Program} {gl:List Nat} {B:Base}
end W
end Go.Vm
namespace Go.Vm
namespace W
open Go Go.RowKit
variable {P:Program} {gl:List Nat} {B:Base}
def j18 (S:List (List Nat)) (sep:List Nat):List Nat:=(Lib.join (S.map u8) (u8 sep)).map UInt8.toNat
end W
end Go.Vm
