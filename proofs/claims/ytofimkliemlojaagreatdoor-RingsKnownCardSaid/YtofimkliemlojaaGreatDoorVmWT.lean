/-
  Functions of the library that are jk9: strconv.Atoi, strconv.ParseUint(s, 10, 8), strings.Split, out of the library's contracts.
  A jk9 function that ranges over a function: strips.Ends; new cells behind a walk of the model.
  Told functions: strings.Join.
  A region that draws its order, whose last operations come behind all others: its first part by itself.
-/
import Derived.Test.YtofimkliemlojaaGreatDoorVmWG
import Derived.Lib.ParseIntB
import Derived.Lib.SplitLaws
import Derived.Lib.AtoiErrMem
import Derived.Lib.ItoaNum
import Derived.Lib.Join
import Derived.Sort.QuietThIn
set_option linter.unusedSimpArgs false
set_option linter.unusedVariables false
set_option linter.unusedSectionVars false
set_option linter.unnecessarySimpa false
namespace Go.Vm
namespace W
open Go Go.RowKit
variable {P:Program} {gl:List Nat} {B:Base}
theorem Below.quiet {w w':World} (h:Below w.heap.size w w'):Quiet w w':=⟨h.os,h.tape,h.output,h.size,h.block⟩
def u8 (s:List Nat):List UInt8:=s.map UInt8.ofNat
theorem kjq {b:ByteArray} {s:List Nat} (h:b.data.toList.map UInt8.toNat=s):b.data.toList=u8 s:=by
 subst h
 unfold u8
 rw[List.map_map]
 have:(UInt8.ofNat∘UInt8.toNat)=id:=by funext x;simp
 rw[this,List.map_id]
theorem jky {ρ:RM} {H:Tr Blk} {nx ro:Nat} {w w':World} {v:AV} {v':Value} (q:Quiet w w') (hr:HR ρ H w) (hv:VR ρ v v'):Ends ρ H nx ro w v H nx v' w':=⟨ρ,q.step,q.hr hr,hv⟩
def ko8 (ty:TypeId) (k:IntKind) (sat:Int):Lib.NumEnd Int→Option (Tr Blk→Nat→Nat→Out)
 | .ok v=>some fun H nx _=>some (.tup [.int k v,.nili],H,nx)
 | Lib.NumEnd.syntax=>some fun H nx _=>some (.tup [.int k 0,.ifc ty (.ptr nx 0)],H,nx+1)
 | .range=>some fun H nx _=>some (.tup [.int k sat,.ifc ty (.ptr nx 0)],H,nx+1)
def kgs (f:FuncId) (ty:TypeId):jqk:=fun g as=>bif Nat.beq g f then(match as with
 | [.str s]=>bif s.length.ble 1000000 then ko8 ty .i64 (Lib.atoiSat (u8 s)) (Lib.atoiAll (u8 s)) else none
 | _=>none) else none
def kgh (P:Program) (f:FuncId):Prop:=∃fn,P.funcs[f]?=some fn∧(fn.name== "runtime.NumGoroutine")=false∧fn.body.isSome=true
theorem kc0 {ρ:RM} {a b:AV} {x y:Value} (h1:VR ρ a x) (h2:VR ρ b y):VR ρ (.tup [a,b]) (.tuple #[x,y]):=by
 simp only[VR]
 exact⟨_,rfl,x,[y],rfl,h1,y,[],rfl,h2,rfl⟩
def kdm (s sep:List Nat):List (List Nat):=(Lib.split (u8 s) (u8 sep)).map fun w=>w.map UInt8.toNat
def kah (f:FuncId):jqk:=fun g as=>bif Nat.beq g f then(match as with
 | [.str s,.str sep]=>bif s.length.ble 1000000&& !(sep.length.beq 0) then
     some fun H nx _=>some (.sl nx 0 (kdm s sep).length (some (kdm s sep).length) 1,H.set nx (.cells (put ((kdm s sep).map AV.str) 0 .e) ((kdm s sep).map AV.str).length),nx+1) else none
 | _=>none) else none
def kaj (f:FuncId):jqk:=fun g as=>bif Nat.beq g f then(match as with
 | [.int .u64 x]=>if 0≤x∧x≤18446744073709551615 then some fun H nx _=>some (.int .i64 (Lib.bitLen x.toNat),H,nx) else none
 | _=>none) else none
theorem kbh {ρ:RM} {k:IntKind} {x:Int} {args:Array Value} (h:VRs ρ [.int k x] args.toList):args=#[.int k x]:=by
 simp only[VRs,VR] at h
 obtain⟨v,vs,h1,rfl,rfl⟩:=h
 apply Array.toList_inj.1
 exact h1
theorem kgo {f:FuncId} (hfn:kgh P f) (c1:∀(x:Int) (w:World) (_:0≤x) (_:x≤18446744073709551615),Calls P f #[.int .u64 x] w fun e w'=>e=.returned (.int .i64 (Lib.bitLen x.toNat))∧w'=w):jjv P gl B (kaj f):=by
 intro g as k hk H nx v H' nx' ro hv hb
 unfold kaj at hk
 obtain⟨e,hk2⟩:=jaf hk
 rw[jac,decide_eq_true_eq] at e
 clear hk
 subst e
 split at hk2<;>try (cases hk2;done)
 rename_i x
 split at hk2<;>try (cases hk2;done)
 rename_i hx
 cases hk2
 simp only[Option.some.injEq,Prod.mk.injEq] at hv
 obtain⟨rfl,rfl,rfl⟩:=hv
 refine⟨Syn.refl _ _ _,fun ρ w args hr _ _ _ _ ha=>⟨hfn,?_⟩⟩
 obtain rfl:=kbh ha
 refine(c1 x w hx.1 hx.2).mono ?_
 rintro e w' ⟨rfl,rfl⟩
 exact⟨_,rfl,jky (Below.quiet (Below.refl _ _)) hr (by simp[VR])⟩
def kai (f:FuncId):jqk:=fun g as=>bif Nat.beq g f then(match as with
 | [.int .i64 x]=>if 0≤x∧x≤64 then some fun H nx _=>some (.int .i64 (Lib.l10 x.toNat),H,nx) else none
 | _=>none) else none
theorem kgm {f:FuncId} (hfn:kgh P f) (c1:∀(x:Nat) (_:x≤64) (w:World),Calls P f #[.int .i64 x] w fun e w'=>e=.returned (.int .i64 (Lib.l10 x))∧w'=w):jjv P gl B (kai f):=by
 intro g as k hk H nx v H' nx' ro hv hb
 unfold kai at hk
 obtain⟨e,hk2⟩:=jaf hk
 rw[jac,decide_eq_true_eq] at e
 clear hk
 subst e
 split at hk2<;>try (cases hk2;done)
 rename_i x
 split at hk2<;>try (cases hk2;done)
 rename_i hx
 cases hk2
 simp only[Option.some.injEq,Prod.mk.injEq] at hv
 obtain⟨rfl,rfl,rfl⟩:=hv
 refine⟨Syn.refl _ _ _,fun ρ w args hr _ _ _ _ ha=>⟨hfn,?_⟩⟩
 obtain rfl:=kbh ha
 have:=c1 x.toNat (by omega) w
 rw[Int.toNat_of_nonneg hx.1] at this
 refine this.mono ?_
 rintro e w' ⟨rfl,rfl⟩
 exact⟨_,rfl,jky (Below.quiet (Below.refl _ _)) hr (by simp[VR])⟩
end W
end Go.Vm
namespace Go.Vm
namespace W
open Go Go.RowKit
variable {P:Program} {gl:List Nat} {B:Base}
theorem kbm {ρ:RM} {H:Tr Blk} {nx ro N nb nx':Nat} {w w':World} {l:List AV} {cs:Array Value} {t:TypeId} (q:Quiet w w') (h1:w.heap.size≤N) (hN:w'.heap[N]?=some (.cells cs t (0,0)))
  (hcs:VRs ρ l cs.toList) (hr:HR ρ H w) (hf:Free ρ nx nx') (hwf:WF H nx) (hnb:nx≤nb) (hnb':nb<nx'):
  ∃ρ',Step ρ H nx ro w ρ' (H.set nb (.cells (put l 0 .e) l.length)) nx' w'∧HR ρ' (H.set nb (.cells (put l 0 .e) l.length)) w'∧ρ' nb=some ⟨N,0,l.length⟩:=by
 have hn:ρ nb=none:=hf nb hnb hnb'
 have hle:ρ.Le (ρ.upd nb ⟨N,0,l.length⟩):=RM.le_upd hn
 have hother:∀b,b≠nb→(ρ.upd nb ⟨N,0,l.length⟩) b=ρ b:=fun b hb=>by unfold RM.upd;rw[if_neg hb]
 have hsame:(ρ.upd nb ⟨N,0,l.length⟩) nb=some ⟨N,0,l.length⟩:=by unfold RM.upd;rw[if_pos rfl]
 have hlive:∀b,(H.get b).isSome→b<nx:=fun b hb=>hwf b hb
 have hr':=q.hr hr
 have h2:N<w'.heap.size:=(Array.getElem?_eq_some_iff.1 hN).1
 have jbg:l.length=cs.size:=by have:=hcs.length;simpa using this
 refine⟨ρ.upd nb ⟨N,0,l.length⟩,⟨q.os,q.tape,q.output,q.size,by omega,fun b hb=>hother b (by omega),fun x hx _=>q.keep x hx,fun b l' hb1 hb2 hl=>?_,fun b hb=>?_,fun b hb hb2=>?_⟩,⟨fun b k l' hk hl=>?_,fun b b' l' l'' e1 e2 g1 g2 e=>?_⟩,hsame⟩
 ·by_cases hb:b=nb
  ·subst hb
   rw[hsame] at hl
   cases hl
   exact .inl ⟨h1,h2⟩
  ·rw[hother b hb,hf b hb1 hb2] at hl
   cases hl
 ·by_cases hbn:b=nb
  ·exact .inl ⟨by omega,by omega⟩
  ·rw[Tr.get_set,if_neg hbn] at hb
   exact .inr hb
 ·rw[Tr.get_set,if_neg (by omega)]
 ·by_cases hbn:b=nb
  ·subst hbn
   rw[Tr.get_set,if_pos rfl] at hk
   cases hk
   rw[hsame] at hl
   cases hl
   refine⟨cs,t,(0,0),hN,by simp,by simp[jbg],fun i _ _=>by simp,fun i hi=>?_⟩
   obtain⟨a,ha⟩:∃a,l[i]?=some a:=⟨l[i],by simp[hi]⟩
   obtain⟨v,hv,hr⟩:=hcs.get ha
   exact⟨a,v,by rw[jfe,if_pos (by omega),Nat.sub_zero,ha],by simpa using hv,VR.mono hle _ _ hr⟩
  ·rw[Tr.get_set,if_neg hbn] at hk
   rw[hother b hbn] at hl
   exact(hr'.blk b k l' hk hl).mono hle rfl
 ·have lt:∀ {b:Nat} {l0:Loc},b≠nb→((H.set nb (.cells (put l 0 .e) l.length)).get b).isSome→(ρ.upd nb ⟨N,0,l.length⟩) b=some l0→(H.get b).isSome∧ρ b=some l0∧l0.blk<w.heap.size:=by
   intro b l0 hb e g
   rw[Tr.get_set,if_neg hb] at e
   rw[hother b hb] at g
   obtain⟨k,hk⟩:=Option.isSome_iff_exists.1 e
   refine⟨e,g,?_⟩
   have:=hr.blk b k l0 hk g
   cases k with
   | cells c n=>
     obtain⟨cs',elem,fr,h,_⟩:=this
     exact(Array.getElem?_eq_some_iff.1 h).1
   | iter s pos=>
     obtain⟨bs,h,_⟩:=this
     exact(Array.getElem?_eq_some_iff.1 h).1
   | mp m=>
     obtain⟨es,cl,h,_⟩:=this
     exact(Array.getElem?_eq_some_iff.1 h).1
  by_cases c1:b=nb<;>by_cases c2:b'=nb
  ·exact .inl (by rw[c1,c2])
  ·subst c1
   rw[hsame] at g1
   cases g1
   have:=(lt c2 e2 g2).2.2
   simp only at e
   omega
  ·subst c2
   rw[hsame] at g2
   cases g2
   have:=(lt c1 e1 g1).2.2
   simp only at e
   omega
  ·exact hr.inj b b' l' l'' (lt c1 e1 g1).1 (lt c2 e2 g2).1 (lt c1 e1 g1).2.1 (lt c2 e2 g2).2.1 e
def jt1 (c:Tr AV):Nat→Nat→Option (List Int)
 | _,0=>some []
 | o,n+1=>match c.get o with
   | some (.int .i64 x)=>(match jt1 c (o+1) n with
     | some L=>some (x::L)
     | none=>none)
   | _=>none
theorem jmu {c:Tr AV}:∀ {n o:Nat} {L:List Int},jt1 c o n=some L→L.length=n∧∀i (h:i<L.length),c.get (o+i)=some (.int .i64 L[i])
 | 0,o,L,h=>by cases h;exact⟨rfl,fun i h=>by simp at h⟩
 | n+1,o,L,h=>by
   unfold jt1 at h
   split at h<;>try (cases h;done)
   rename_i x hx
   split at h<;>try (cases h;done)
   rename_i M hM
   cases h
   obtain⟨h1,h2⟩:=jmu hM
   refine⟨by simp[h1],fun i hi=>?_⟩
   cases i with
   | zero=>exact hx
   | succ i=>
     have:=h2 i (by simpa using hi)
     rw[show o+1+i=o+ (i+1) by omega] at this
     exact this
def okL (L:List Int):Bool:=L.all (fun x=>decide (1≤x∧x≤64))&&(1:Nat).ble L.length&&L.length.ble 32
def jls (call:FuncId→List AV→Tr Blk→Nat→Nat→Out) (fc:FuncId) (E:List Int→List Int) (as:List AV) (rd:Tr Blk→Option (List Int)):Tr Blk→Nat→Nat→Out:=fun H nx _=>match call fc as H nx nx with
 | some (.int .i64 e,_,nxc)=>if e=0 then(match rd H with
    | some L=>bif okL L then some (.tup [.sl nxc 0 (E L).length (some (E L).length) 1,.int .i64 0],H.set nxc (.cells (put ((E L).map (AV.int .i64)) 0 .e) ((E L).map (AV.int .i64)).length),nxc+1) else none
    | none=>none)
   else some (.tup [.nils,.int .i64 e],H,nxc)
 | _=>none
def jq2 (call:FuncId→List AV→Tr Blk→Nat→Nat→Out) (f fc:FuncId) (E:List Int→List Int):jqk:=fun g as=>bif Nat.beq g f then(match as with
 | [.agg [.sl b o n _ 1,_]]=>some (jls call fc E as fun H=>match H.get b with
   | some (.cells c m)=>bif(o+n).ble m then jt1 c o n else none
   | _=>none)
 | [.agg [.nils,_]]=>some (jls call fc E as fun _=>none)
 | _=>none) else none
theorem j77 {ρ:RM}:∀(l:List Int),VRs ρ (l.map (AV.int .i64)) (l.map (Value.int .i64))
 | []=>by simp[VRs]
 | b::l=>by
   simp only[List.map_cons,VRs,VR]
   exact⟨_,_,rfl,rfl,j77 l⟩
theorem jy2 {call:FuncId→List AV→Tr Blk→Nat→Nat→Out} (hcall:jk7 P gl call) {fc:FuncId} {as:List AV} {H Hc:Tr Blk} {nx nxc:Nat} {e:Int} (h:call fc as H nx nx=some (.int .i64 e,Hc,nxc))
  {ρ:RM} {w:World} {args:Array Value} (hr:HR ρ H w) (hf:Free ρ nx nxc) (hgl:GLok gl ρ) (hwf:WF H nx) (ha:VRs ρ as args.toList):
  ∀W,Below w.heap.size w W→Calls P fc args W fun en W'=>en=.returned (.int .i64 e)∧Below W.heap.size W W':=by
 intro W hB
 refine((hcall _ _ _ _ _ _ _ _ h).2 ρ W args ((Below.quiet hB).hr hr) hf (Nat.le_refl _) hgl hwf ha).2.mono ?_
 rintro en W' ⟨v',rfl,ρ',st,_,hv⟩
 simp only[VR] at hv
 subst hv
 exact⟨rfl,st.os,st.tape,st.output,st.size,fun x hx=>st.keep x hx (fun b l _ _ hb=>hwf b hb)⟩
theorem kfr {H:Tr Blk} {nx ro nb:Nat} {k:Blk} (h:nx≤nb):Syn H nx ro (H.set nb k) (nb+1):=
 ⟨by omega,fun b hb=>by
   by_cases e:b=nb
   ·exact .inl ⟨by omega,by omega⟩
   ·rw[Tr.get_set,if_neg e] at hb
    exact .inr hb,fun b _ h2=>by rw[Tr.get_set,if_neg (by omega)]⟩
theorem kkb {L:List Int} (h:okL L=true):(∀x∈L,1≤x∧x≤64)∧1≤L.length∧L.length≤32:=by
 unfold okL at h
 rw[Bool.and_eq_true,Bool.and_eq_true] at h
 exact⟨fun x hx=>by simpa using List.all_eq_true.1 h.1.1 x hx,by simpa using h.1.2,by simpa using h.2⟩
theorem kdu {call:FuncId→List AV→Tr Blk→Nat→Nat→Out} {f fc:FuncId} {E:List Int→List Int} (hcall:jk7 P gl call) (hfn:kgh P f) (hE:∀L,L.length≤32→(E L).length<9223372036854775808)
  (c1:∀(b o c:Nat) (vk:Value) (L:List Int) (_:∀x∈L,1≤x∧x≤64) (_:L.length≤32) (w:World)
    (_:∀W,Below w.heap.size w W→Calls P fc #[.agg #[.slice (some ⟨b,o,none⟩) L.length c,vk]] W fun e W'=>e=.returned (.int .i64 0)∧Below W.heap.size W W')
    (_:b<w.heap.size) (_:∀i (h:i<L.length),w.cell? ⟨b,o+i,none⟩=some (.int .i64 L[i])),
    Calls P f #[.agg #[.slice (some ⟨b,o,none⟩) L.length c,vk]] w fun e W'=>∃N,e=.returned (.tuple #[.slice (some ⟨N,0,none⟩) (E L).length (E L).length,.int .i64 0])∧w.heap.size≤N∧
     (∃t,W'.heap[N]?=some (.cells ((E L).map (Value.int .i64)).toArray t (0,0)))∧Below w.heap.size w W')
  (c2:∀(vl vk:Value) (e:Int) (w:World) (_:e≠0) (_:∀W,Below w.heap.size w W→Calls P fc #[.agg #[vl,vk]] W fun en W'=>en=.returned (.int .i64 e)∧Below W.heap.size W W'),
    Calls P f #[.agg #[vl,vk]] w fun en W'=>en=.returned (.tuple #[.slice none 0 0,.int .i64 e])∧Below w.heap.size w W'):
  jjv P gl B (jq2 call f fc E):=by
 have err:∀ {as:List AV} {a k:AV} {H Hc:Tr Blk} {nx nxc:Nat} {e:Int},as=[.agg [a,k]]→call fc as H nx nx=some (.int .i64 e,Hc,nxc)→e≠0→
   ∀(ro:Nat),Syn H nx ro H nxc∧∀(ρ:RM) (w:World) (args:Array Value),HR ρ H w→Free ρ nx nxc→ro≤nx→GLok gl ρ→WF H nx→VRs ρ as args.toList→
    kgh P f∧Calls P f args w (fun en w'=>∃v',en=.returned v'∧Ends ρ H nx ro w (.tup [.nils,.int .i64 e]) H nxc v' w'):=by
  intro as a k H Hc nx nxc e has hc he ro
  subst has
  have hup:=(hcall _ _ _ _ _ _ _ _ hc).1
  refine⟨⟨hup,fun _ h=>.inr h,fun _ _ _=>rfl⟩,fun ρ w args hr hf hro hgl hwf ha=>⟨hfn,?_⟩⟩
  have hcb:=jy2 hcall hc hr hf hgl hwf ha
  simp only[VRs,VR] at ha
  obtain⟨v,vs,h1,⟨cs,rfl,vl,vs2,h2,_,vk,vs3,rfl,_,rfl⟩,rfl⟩:=ha
  obtain rfl:args=#[.agg cs]:=Array.toList_inj.1 h1
  obtain rfl:cs=#[vl,vk]:=Array.toList_inj.1 h2
  refine(c2 vl vk e w he hcb).mono ?_
  rintro en w' ⟨rfl,hB⟩
  have q:=Below.quiet hB
  refine⟨_,rfl,ρ,⟨q.os,q.tape,q.output,q.size,hup,fun _ _=>rfl,fun x hx _=>q.keep x hx,fun b l hb1 hb2 hl=>?_,fun b hb=>.inr hb,fun _ _ _=>rfl⟩,q.hr hr,kc0 (by simp[VR]) (by simp[VR])⟩
  rw[hf b hb1 hb2] at hl
  cases hl
 intro g as k hk H nx v H' nx' ro hv hb
 unfold jq2 at hk
 obtain⟨e,hk2⟩:=jaf hk
 rw[jac,decide_eq_true_eq] at e
 clear hk
 subst e
 split at hk2
 ·rename_i b o n cap kk
  cases hk2
  unfold jls at hv
  split at hv<;>try (cases hv;done)
  rename_i e Hc nxc hc
  split at hv
  ·rename_i he
   subst he
   split at hv<;>try (cases hv;done)
   rename_i L hL
   obtain⟨hok,hv⟩:=jaf hv
   obtain⟨o1,o2,o3⟩:=kkb hok
   simp only[Option.some.injEq,Prod.mk.injEq] at hv
   obtain⟨rfl,rfl,rfl⟩:=hv
   simp only at hL
   split at hL<;>try (cases hL;done)
   rename_i c m hcm
   obtain⟨hom,hL⟩:=jaf hL
   rw[jad,decide_eq_true_eq] at hom
   obtain⟨hLn,hLc⟩:=jmu hL
   have hup:=(hcall _ _ _ _ _ _ _ _ hc).1
   refine⟨⟨by omega,(kfr (ro:=ro) hup).live,(kfr (ro:=ro) hup).old⟩,fun ρ w args hr hf hro hgl hwf ha=>⟨hfn,?_⟩⟩
   have hf':Free ρ nx nxc:=fun b h1 h2=>hf b h1 (by omega)
   have hcb:=jy2 hcall hc hr hf' hgl hwf ha
   simp only[VRs,VR] at ha
   obtain⟨v,vs,h1,⟨cs,rfl,vl,vs2,h2,⟨l,cp,off,g1,rfl,g2,_,g3,_⟩,vk,vs3,rfl,_,rfl⟩,rfl⟩:=ha
   obtain rfl:args=#[.agg cs]:=Array.toList_inj.1 h1
   obtain rfl:cs=#[.slice (some ⟨l.blk,off,none⟩) n cp,vk]:=Array.toList_inj.1 h2
   obtain rfl:off=l.base+o:=by rcases g3 with h | h;exact h;omega
   obtain⟨cs,elem,fr,q1,_,_,_,q5⟩:=hr.blk b _ l hcm g1
   subst hLn
   refine(c1 l.blk (l.base+o) cp vk L o1 o3 w hcb (Array.getElem?_eq_some_iff.1 q1).1 (fun i hi=>?_)).mono ?_
   ·obtain⟨a,v,a1,a2,a3⟩:=q5 (o+i) (by omega)
    rw[hLc i hi] at a1
    cases a1
    simp only[VR] at a3
    simp only[World.cell?,q1]
    subst a3
    simpa[Nat.add_assoc] using a2
   ·rintro en w' ⟨N,rfl,hN,⟨t,ht⟩,hB⟩
    obtain⟨ρ',st,hr2,hnb⟩:=kbm (ro:=ro) (Below.quiet hB) hN ht (l:=(E L).map (AV.int .i64)) (by simpa using j77 (E L)) hr hf hwf hup (by omega)
    refine⟨_,rfl,ρ',st,hr2,kc0 ?_ (by simp[VR])⟩
    simp only[VR]
    refine⟨_,(E L).length,0,hnb,rfl,Nat.le_refl _,by omega,.inl rfl,.inl ⟨rfl,by simp,fun _=>hE L o3⟩⟩
  ·rename_i he
   simp only[Option.some.injEq,Prod.mk.injEq] at hv
   obtain⟨rfl,rfl,rfl⟩:=hv
   exact err rfl hc he _
 ·rename_i kk
  cases hk2
  unfold jls at hv
  split at hv<;>try (cases hv;done)
  rename_i e Hc nxc hc
  split at hv
  ·cases hv
  ·rename_i he
   simp only[Option.some.injEq,Prod.mk.injEq] at hv
   obtain⟨rfl,rfl,rfl⟩:=hv
   exact err rfl hc he _
 ·cases hk2
end W
end Go.Vm
namespace Go.Vm
namespace W
open Go Go.RowKit
variable {P:Program} {gl:List Nat} {B:Base}
def jvz (c:Tr AV):Nat→Nat→Option (List (List Nat))
 | _,0=>some []
 | o,n+1=>match c.get o with
   | some (.str x)=>(match jvz c (o+1) n with
     | some L=>some (x::L)
     | none=>none)
   | _=>none
theorem j2i {c:Tr AV}:∀ {n o:Nat} {L:List (List Nat)},jvz c o n=some L→L.length=n∧∀i (h:i<L.length),c.get (o+i)=some (.str L[i])
 | 0,o,L,h=>by cases h;exact⟨rfl,fun i h=>by simp at h⟩
 | n+1,o,L,h=>by
   unfold jvz at h
   split at h<;>try (cases h;done)
   rename_i x hx
   split at h<;>try (cases h;done)
   rename_i M hM
   cases h
   obtain⟨h1,h2⟩:=j2i hM
   refine⟨by simp[h1],fun i hi=>?_⟩
   cases i with
   | zero=>exact hx
   | succ i=>
     have:=h2 i (by simpa using hi)
     rw[show o+1+i=o+ (i+1) by omega] at this
     exact this
def jxx (S:List (List Nat)) (sep:List Nat):List Nat:=(Lib.join (S.map u8) (u8 sep)).map UInt8.toNat
def jue (f:FuncId):jqk:=fun g as=>bif Nat.beq g f then(match as with
 | [.sl b o n _ 1,.str sep]=>some fun H nx _=>match H.get b with
   | some (.cells c m)=>bif(o+n).ble m then(match jvz c o n with
     | some S=>bif(jxx S sep).length.ble 1000000&&S.length.ble 1000000 then some (.str (jxx S sep),H,nx) else none
     | none=>none) else none
   | _=>none
 | [.nils,.str _]=>some fun H nx _=>some (.str [],H,nx)
 | _=>none) else none
def mkB (s:List Nat):ByteArray:=⟨(u8 s).toArray⟩
theorem kds {f:FuncId} (hfn:kgh P f)
  (c0:∀(a:Option Addr) (c:Nat) (sep:ByteArray) (w:World),Calls P f #[.slice a 0 c,.string sep] w fun e w'=>e=.returned (.string ⟨#[]⟩)∧w'=w)
  (c1:∀(bk o c:Nat) (xs:List ByteArray) (sep:ByteArray) (w:World) (_:∀(j:Nat) x,xs[j]?=some x→w.cell? ⟨bk,o+j,none⟩=some (.string x)) (_:bk<w.heap.size) (_:xs.length≤140737488355328) (_:xs.length≤c)
    (_:(Lib.join (xs.map (·.data.toList)) sep.data.toList).length≤140737488355328),
    Calls P f #[.slice (some ⟨bk,o,none⟩) xs.length c,.string sep] w fun e w'=>e=.returned (.string ⟨(Lib.join (xs.map (·.data.toList)) sep.data.toList).toArray⟩)∧Below w.heap.size w w'):
  jjv P gl B (jue f):=by
 intro g as k hk H nx v H' nx' ro hv hb
 unfold jue at hk
 obtain⟨e,hk2⟩:=jaf hk
 rw[jac,decide_eq_true_eq] at e
 clear hk
 subst e
 split at hk2
 ·rename_i b o n cap sep
  cases hk2
  simp only at hv
  split at hv<;>try (cases hv;done)
  rename_i c m hcm
  obtain⟨hom,hv⟩:=jaf hv
  rw[jad,decide_eq_true_eq] at hom
  split at hv<;>try (cases hv;done)
  rename_i S hS
  obtain⟨jbg,hv⟩:=jaf hv
  rw[Bool.and_eq_true,jad,jad,decide_eq_true_eq,decide_eq_true_eq] at jbg
  simp only[Option.some.injEq,Prod.mk.injEq] at hv
  obtain⟨rfl,rfl,rfl⟩:=hv
  obtain⟨hSn,hSc⟩:=j2i hS
  refine⟨Syn.refl _ _ _,fun ρ w args hr hf hro hgl hwf ha=>⟨hfn,?_⟩⟩
  simp only[VRs,VR] at ha
  obtain⟨v,vs,h1,⟨l,cp,off,g1,rfl,g2,_,g3,_⟩,v2,vs2,rfl,⟨sb,rfl,hsb⟩,rfl⟩:=ha
  obtain rfl:args=#[.slice (some ⟨l.blk,off,none⟩) n cp,.string sb]:=Array.toList_inj.1 h1
  have hsep:=kjq hsb
  by_cases hn:n=0
  ·subst hn
   have:S=[]:=List.length_eq_zero_iff.1 hSn
   subst this
   refine(c0 _ _ _ _).mono ?_
   rintro e w' ⟨rfl,rfl⟩
   exact⟨_,rfl,jky (Below.quiet (Below.refl _ _)) hr (by simp only[VR];exact⟨⟨#[]⟩,rfl,rfl⟩)⟩
  ·obtain rfl:off=l.base+o:=by rcases g3 with h | h;exact h;omega
   obtain⟨cs,elem,fr,q1,_,_,_,q5⟩:=hr.blk b _ l hcm g1
   have hm:(S.map mkB).map (fun x=>x.data.toList)=S.map u8:=by
    rw[List.map_map]
    apply List.map_congr_left
    intro s _
    simp[mkB]
   have:=c1 l.blk (l.base+o) cp (S.map mkB) sb w (fun j x hx=>?_) (Array.getElem?_eq_some_iff.1 q1).1 (by rw[List.length_map];omega) (by rw[List.length_map];omega) (by rw[hm,hsep];have:=jbg.1;simp only[jxx,List.length_map] at this;omega)
   ·rw[List.length_map,hSn] at this
    refine this.mono ?_
    rintro e w' ⟨rfl,hB⟩
    refine⟨_,rfl,jky (Below.quiet hB) hr ?_⟩
    rw[hm,hsep]
    simp only[VR]
    exact⟨_,rfl,rfl⟩
   ·rw[List.getElem?_map] at hx
    simp only[Option.map_eq_some_iff] at hx
    obtain⟨s,hs,rfl⟩:=hx
    obtain⟨hj,hs⟩:=List.getElem?_eq_some_iff.1 hs
    obtain⟨a,v,a1,a2,a3⟩:=q5 (o+j) (by omega)
    rw[hSc j hj,hs] at a1
    cases a1
    simp only[VR] at a3
    obtain⟨bs,rfl,hbs⟩:=a3
    have:bs=mkB s:=by
     have:=kjq hbs
     unfold mkB
     rw[←this]
    rw[←this]
    simp only[World.cell?,q1]
    simpa[Nat.add_assoc] using a2
 ·cases hk2
  simp only[Option.some.injEq,Prod.mk.injEq] at hv
  obtain⟨rfl,rfl,rfl⟩:=hv
  refine⟨Syn.refl _ _ _,fun ρ w args hr hf hro hgl hwf ha=>⟨hfn,?_⟩⟩
  simp only[VRs,VR] at ha
  obtain⟨v,vs,h1,rfl,v2,vs2,rfl,⟨sb,rfl,hsb⟩,rfl⟩:=ha
  obtain rfl:args=#[.slice none 0 0,.string sb]:=Array.toList_inj.1 h1
  refine(c0 _ _ _ _).mono ?_
  rintro e w' ⟨rfl,rfl⟩
  exact⟨_,rfl,jky (Below.quiet (Below.refl _ _)) hr (by simp only[VR];exact⟨⟨#[]⟩,rfl,rfl⟩)⟩
 ·cases hk2
end W
end Go.Vm
namespace Go.Vm
open Go.RowKit
variable {P:Program} {F:Fence} {n:Nat} {ops:Array Oper} {Q Q1:Exit→Act→World→Prop} {m:Nat}
theorem khg (hQ:∀e a w,Q1 e a w→e=.normal) {o:Oper} {a:Act} {w:World} {K:Act→World→Prop} (h:o.wpIn F n P a w K Q1):o.wpIn F n P a w K Q:=by
 refine⟨h.1,?_⟩
 have h:=h.2
 have np:∀ {ch a w},¬Q1 (.panic ch) a w:=fun h=>by have:=hQ _ _ _ h;cases this
 have no:¬LetsOut Q1:=fun⟨a,w,h⟩=>by have:=hQ _ _ _ h;cases this
 generalize (o.semAt F.round a.eval).run P w=x at h ⊢
 cases x with
 | ok y w'=>
   cases y<;>simp only[Oper.uponIn] at h ⊢
   all_goals first
    | exact h
    | exact⟨h.1,CallsIn.mono h.2 fun e w'' he=>by cases e<;>first | exact he | exact(np he).elim | exact(no he).elim⟩
    | exact⟨h.1,RoundIn.mono h.2 fun e w'' he=>by cases e<;>first | exact he | exact(np he).elim | exact(no he).elim⟩
 | halt y w'=>cases y<;>simp only[Oper.uponIn] at h ⊢<;>first | exact h | exact(np h).elim
def j4o (ops:Array Oper) (m:Nat):Bool:=
 let es:=ops.toList.map jum
 let an:=(Region.before ops).toList
 m.ble ops.size&&jtc es&&kcx es an&&((List.range m).all fun i=>match ops[i]? with | some o=>(match o.guard with | some (k,_)=>k.blt m | none=>true) | none=>true)&&(List.range ops.size).all fun j=>j.blt m||(List.range m).all fun i=>(an.getD j 0).testBit i
def Clo (ops:Array Oper) (listed:Array Bool):Prop:=∀(j:Nat) (o:Oper),listed[j]?=some true→ops[j]?=some o→∀e∈o.after.toList,Region.binds .any e=true→listed.getD e.on false=true
theorem j7q {j:Nat} {o:Oper} (ho:ops[j]?=some o) {k:Nat}:k∈(ops.toList.map jum).getD j []↔∃e∈o.after.toList,Region.binds .any e=true∧e.on=k:=by
 have:(ops.toList.map jum).getD j []=jum o:=by
  rw[List.getD_eq_getElem?_getD,List.getElem?_map]
  have:ops.toList[j]?=some o:=by simpa using ho
  rw[this];rfl
 rw[this]
 unfold jum
 simp only[List.mem_filterMap,Option.ite_none_right_eq_some,Option.some.injEq]
theorem getD_some {l:Array Bool} {k:Nat} (h:l.getD k false=true):l[k]?=some true:=by
 unfold Array.getD at h
 split at h
 ·rename_i hk
  rw[Array.getElem?_eq_getElem hk]
  exact congrArg some h
 ·cases h
theorem j9o (h2:jtc (ops.toList.map jum)=true) (h3:kcx (ops.toList.map jum) (Region.before ops).toList=true) {listed:Array Bool} (hc:Clo ops listed):
  ∀(j i:Nat),j<ops.size→i<ops.size→((Region.before ops).toList.getD j 0).testBit i=true→(∀o,ops[j]?=some o→∀e∈o.after.toList,Region.binds .any e=true→listed.getD e.on false=true)→listed.getD i false=true:=by
 intro j
 induction j using Nat.strongRecOn with
 | _ j ih=>
   intro i hj hi hb hd
   have ho:ops[j]?=some ops[j]:=Array.getElem?_eq_getElem hj
   unfold kcx at h3
   have g1:=List.all_eq_true.1 (List.all_eq_true.1 h3 j (by simpa using hj)) i (by simpa using hi)
   simp only[hb,Bool.not_true,Bool.false_or,List.any_eq_true,Bool.or_eq_true,beq_iff_eq] at g1
   obtain⟨k,hk,hki⟩:=g1
   obtain⟨e,he,hbd,rfl⟩:=(j7q ho).1 hk
   have hl:=hd _ ho e he hbd
   rcases hki with rfl | hki
   ·exact hl
   ·unfold jtc at h2
    have g2:=List.all_eq_true.1 (List.all_eq_true.1 h2 j (by simpa using hj)) e.on hk
    have hlt:e.on<j:=by simpa using g2
    refine ih e.on hlt i (by omega) hi hki fun o' ho' e' he' hb'=>?_
    exact hc _ _ (getD_some hl) ho' e' he' hb'
structure Sub (m N:Nat) (l' l:Array Bool):Prop where
 s1:l'.size=m
 s2:l.size=N
 eq:∀i,i<m→l'.getD i true=l.getD i true
 late:∀i,m≤i→l.getD i false=false
theorem jlq {l:Array Bool} {k:Nat} (h:k<l.size):l.getD k false=l.getD k true:=by simp[Array.getD,h]
theorem kcw (h:j4o ops m=true) (hQ:∀e a w,Q1 e a w→e=.normal) {d:Nat}
  (hnext:∀a w,Q1 .normal a w→∀f listed,listed.size=ops.size→(∀i,i<ops.size→listed.getD i true=decide (i<m))→wpAnyIn F n P .any ops Q (f+d) listed a w):
  ∀(k:Nat) (l' l:Array Bool) (a:Act) (w:World),Sub m ops.size l' l→Clo ops l→wpAnyIn F n P .any (ops.extract 0 m) Q1 k l' a w→wpAnyIn F n P .any ops Q (k+d) l a w:=by
 unfold j4o at h
 simp only[Bool.and_eq_true] at h
 obtain⟨⟨⟨⟨hm,h2⟩,h3⟩,hgu⟩,h4⟩:=h
 rw[jad,decide_eq_true_eq] at hm
 have hsub:∀i,i<m→(ops.extract 0 m)[i]?=ops[i]?:=fun i hi=>by
  rw[Array.getElem?_extract]
  simp only[Nat.zero_add,Nat.sub_zero]
  rw[if_pos (by omega)]
 have hback:∀i o,ops[i]?=some o→∀e∈o.after.toList,Region.binds .any e=true→e.on<i:=fun i o ho e he hb=>by
  have hi:i<ops.size:=(Array.getElem?_eq_some_iff.1 ho).1
  unfold jtc at h2
  have g2:=List.all_eq_true.1 (List.all_eq_true.1 h2 i (by simpa using hi)) e.on ((j7q ho).2 ⟨e,he,hb,rfl⟩)
  simpa using g2
 have rdy:∀ {l' l:Array Bool},Sub m ops.size l' l→∀i,i<m→(i∈Region.ready .any ops l↔i∈Region.ready .any (ops.extract 0 m) l'):=fun {l' l} hs i hi=>by
  rw[mem_ready,mem_ready,hs.eq i hi,hsub i hi]
  refine and_congr Iff.rfl ⟨?_,?_⟩
  ·rintro ⟨o,ho,hall⟩
   refine⟨o,ho,fun e he hb=>?_⟩
   have hlt:=hback i o ho e (by simpa using he) hb
   rw[jlq (by rw[hs.s1];omega),hs.eq _ (by omega),←jlq (by rw[hs.s2];omega)]
   exact hall e he hb
  ·rintro ⟨o,ho,hall⟩
   refine⟨o,ho,fun e he hb=>?_⟩
   have hlt:=hback i o ho e (by simpa using he) hb
   rw[jlq (by rw[hs.s2];omega),←hs.eq _ (by omega),←jlq (by rw[hs.s1];omega)]
   exact hall e he hb
 have full:∀ {l' l:Array Bool},Sub m ops.size l' l→Region.ready .any (ops.extract 0 m) l'=[]→∀i,i<m→l.getD i true=true:=fun {l' l} hs hr i=>by
  induction i using Nat.strongRecOn with
  | _ i ih=>
    intro hi
    cases hli:l.getD i true with
    | true=>rfl
    | false=>
      have:i∈Region.ready .any ops l:=by
       rw[mem_ready]
       refine⟨hli,ops[i]'(by omega),Array.getElem?_eq_getElem (by omega),fun e he hb=>?_⟩
       have hlt:=hback i _ (Array.getElem?_eq_getElem (by omega)) e (by simpa using he) hb
       rw[jlq (by rw[hs.s2];omega)]
       exact ih e.on hlt (by omega)
      rw[rdy hs i hi,hr] at this
      cases this
 have fin:∀ {l' l:Array Bool},Sub m ops.size l' l→Region.ready .any (ops.extract 0 m) l'=[]→∀i,i<ops.size→l.getD i true=decide (i<m):=fun {l' l} hs hr i hi=>by
  by_cases him:i<m
  ·rw[full hs hr i him];simp[him]
  ·rw[←jlq (by rw[hs.s2];exact hi),hs.late i (by omega)];simp[him]
 intro k
 induction k with
 | zero=>
   intro l' l a w hs hc hw
   have:=hnext a w hw.2 0 l hs.s2 (fin hs hw.1)
   exact this
 | succ k ih=>
   intro l' l a w hs hc hw
   obtain⟨w1,w2⟩:=hw
   by_cases hr:Region.ready .any (ops.extract 0 m) l'=[]
   ·exact hnext a w (w1 hr) (k+1) l hs.s2 (fin hs hr)
   ·obtain⟨x,hx⟩:=List.exists_mem_of_ne_nil _ hr
    have hxm:x<m:=by
     rw[mem_ready] at hx
     obtain⟨_,o,ho,_⟩:=hx
     have:=(Array.getElem?_eq_some_iff.1 ho).1
     simp at this;omega
    have hxl:l.getD x true=false:=by
     rw[mem_ready,hs.eq x hxm] at hx;exact hx.1
    have key:∀i∈Region.ready .any ops l,i<m:=fun i hi=>by
     refine Classical.byContradiction fun hge=>?_
     rw[mem_ready] at hi
     obtain⟨_,o,ho,hall⟩:=hi
     have his:i<ops.size:=(Array.getElem?_eq_some_iff.1 ho).1
     have g4:=List.all_eq_true.1 h4 i (by simpa using his)
     have hnb:i.blt m=false:=by
      cases hb:i.blt m with
      | false=>rfl
      | true=>
        have:(i+1).ble m=true:=hb
        rw[jad,decide_eq_true_eq] at this
        omega
     rw[hnb,Bool.false_or] at g4
     have:=j9o h2 h3 hc i x his (by omega) (List.all_eq_true.1 g4 x (by simpa using hxm)) fun o' ho' e he hb=>by
      rw[ho] at ho';cases ho'
      exact hall e (by simpa using he) hb
     rw[jlq (by rw[hs.s2];omega),hxl] at this
     cases this
    have ek:k+1+d=(k+d)+1:=by omega
    rw[ek]
    refine⟨fun he=>?_,fun i hi=>?_⟩
    ·have:=(rdy hs x hxm).2 hx
     rw[he] at this;cases this
    ·have him:=key i hi
     have hi':=(rdy hs i him).1 hi
     have h5:=w2 i hi'
     rw[mem_ready] at hi
     obtain⟨hli,o,ho,hall⟩:=hi
     have his:i<ops.size:=by omega
     have hs':Sub m ops.size (l'.setIfInBounds i true) (l.setIfInBounds i true):=by
      refine⟨by simp[hs.s1],by simp[hs.s2],fun j hj=>?_,fun j hj=>?_⟩
      ·have g:∀(q:Array Bool),j<q.size→(q.setIfInBounds i true).getD j true=if i=j then true else q.getD j true:=fun q hq=>by
        simp only[Array.getD,Array.size_setIfInBounds,hq,dif_pos]
        by_cases e:i=j
        ·subst e;simp[hq]
        ·rw[if_neg e];exact Array.getElem_setIfInBounds_ne _ e
       rw[g _ (by rw[hs.s1];exact hj),g _ (by rw[hs.s2];omega),hs.eq j hj]
      ·by_cases hjl:j<l.size
       ·have:=hs.late j hj
        simp only[Array.getD,hjl,dif_pos] at this
        simp only[Array.getD,Array.size_setIfInBounds,hjl,dif_pos]
        exact(Array.getElem_setIfInBounds_ne _ (by omega)).trans this
       ·simp[Array.getD,hjl]
     have hc':Clo ops (l.setIfInBounds i true):=by
      intro j o' hj ho' e he hb
      have mono:∀q,l.getD q false=true→(l.setIfInBounds i true).getD q false=true:=fun q hq=>by
       have hq1:q<l.size:=by
        unfold Array.getD at hq
        split at hq
        ·assumption
        ·cases hq
       simp only[Array.getD,Array.size_setIfInBounds,hq1,dif_pos] at hq ⊢
       by_cases e:i=q
       ·subst e;exact Array.getElem_setIfInBounds_self _
       ·exact(Array.getElem_setIfInBounds_ne _ e).trans hq
      refine mono _ ?_
      by_cases e1:i=j
      ·subst e1
       rw[ho] at ho';cases ho'
       exact hall e (by simpa using he) hb
      ·refine hc j o' ?_ ho' e he hb
       rw[Array.getElem?_setIfInBounds] at hj
       rw[if_neg e1] at hj
       exact hj
     unfold wpOpIn at h5 ⊢
     rw[hsub i him,ho] at h5
     rw[ho]
     have hyl:Region.wanted o (yielded (ops.extract 0 m) a.tmps)=Region.wanted o (yielded ops a.tmps):=by
      have g5:=List.all_eq_true.1 hgu i (by simpa using him)
      rw[ho] at g5
      simp only at g5
      unfold Region.wanted
      cases hg:o.guard with
      | none=>rfl
      | some y=>
        obtain⟨q,want⟩:=y
        rw[hg] at g5
        have hq:q<m:=by
         have:(q+1).ble m=true:=g5
         rw[jad,decide_eq_true_eq] at this
         exact this
        have:yielded (ops.extract 0 m) a.tmps q=yielded ops a.tmps q:=by
         unfold yielded
         rw[hsub q hq]
        simp only[this]
     simp only[hyl] at h5 ⊢
     split
     ·rename_i hw
      rw[if_pos hw] at h5
      exact khg hQ (Oper.wpIn_mono (fun a w=>ih _ _ a w hs' hc') h5)
     ·rename_i hw
      rw[if_neg hw] at h5
      exact⟨h5.1,ih _ _ _ _ hs' hc' h5.2⟩
def ran (m N:Nat):Array Bool:=((List.range N).map fun i=>decide (i<m)).toArray
theorem kj7 {m N:Nat} {l:Array Bool} (h1:l.size=N) (h2:∀i,i<N→l.getD i true=decide (i<m)):l=ran m N:=by
 apply Array.ext
 ·simp[ran,h1]
 ·intro i hi hi'
  have:=h2 i (by omega)
  simp only[Array.getD,hi,dif_pos] at this
  rw[←Array.getInternal_eq_getElem,this]
  simp[ran]
theorem jjj {id d:Nat} {a:Act} {w:World} {l:List Oper} {R:Act→World→Prop} (hro:F.round=none) (hm:P.follows .mixedOrders=true) (h:j4o ops m=true) (hl:(ops.extract 0 m).toList=l)
  (hB:Region.lexB .any (ops.extract 0 m)=true) (hd:m+d=ops.size)
  (hq:wpQuietIn F n P (ops.extract 0 m) (fun w'=>∃n,w'=w.drewN n) (fun a'=>∀w',(∃n,w'=w.drewN n)→R a' w') l a)
  (hnext:∀a w,R a w→∀f,wpAnyIn F n P .any ops Q (f+d) (ran m ops.size) a w):(Code.region id ops true).wpIn F n P Q a w:=by
 refine wpIn_region_any hm ?_
 have hms:m≤ops.size:=by omega
 have hsz:(ops.extract 0 m).size=m:=by simp;omega
 simp only[Region.lexB,Bool.and_eq_true] at hB
 have jbg:l.length=m:=by rw[←hl];simp;omega
 have h1:=wpAnyQIn_lex (F:=F) (n:=n) (P:=P) (C:=fun w'=>∃n,w'=w.drewN n) (md:=.any) hB.1 l 0 (Array.replicate m false) a (fun j=>by rw[←hl,Array.getElem?_toList,Nat.zero_add]) (by
  have:=hB.2
  rw[hsz] at this
  rw[jbg];exact this) hq
 rw[jbg] at h1
 have h2:=wpAnyIn_of_quiet (Q':=fun e a' w'=>e=.normal∧R a' w') hro (fun _ w' hw' h=>⟨rfl,h w' hw'⟩) _ _ _ _ (⟨1,rfl⟩:∃n,{ w with drawn:=w.drawn+1 }=w.drewN n) h1
 have gr:∀(k i:Nat) (d:Bool),(Array.replicate k false).getD i d=if i<k then false else d:=by
  intro k i d
  by_cases hk:i<k<;>simp[Array.getD,hk]
 have:=kcw (Q:=Q) h (fun e a w h=>h.1) (d:=d) (fun a w hR f listed h1 h2=>by rw[kj7 h1 h2];exact hnext a w hR.2 f) m (Array.replicate m false) (Array.replicate ops.size false) a _ ⟨by simp,by simp,fun i hi=>by rw[gr,gr,if_pos hi,if_pos (by omega)],fun i hi=>by rw[gr];split<;>rfl⟩ (fun j o hj=>by
  rw[Array.getElem?_replicate] at hj
  split at hj<;>cases hj) h2
 rw[hd] at this
 exact this
end Go.Vm
