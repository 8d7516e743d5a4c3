/-
  A ja0 function that ranges over a function: strips.Ends; new cells behind a walk of the model.
  Told functions: strings.Join.
-/
import Derived.Test.YtldgdgacdcenkaaGreatDoorVmWT
import Derived.Lib.Join
set_option linter.unusedSimpArgs false
set_option linter.unusedVariables false
namespace Go.Vm
namespace W
open Go Go.RowKit
variable {P:Program} {gl:List Nat} {B:Base}
theorem j3r {ρ:RM} {H:Tr Blk} {nx ro N nb nx':Nat} {w w':World} {l:List AV} {cs:Array Value} {t:TypeId} (q:Quiet w w') (h1:w.heap.size≤N) (hN:w'.heap[N]?=some (.cells cs t (0,0)))
  (hcs:VRs ρ l cs.toList) (hr:HR ρ H w) (hf:Free ρ nx nx') (hwf:WF H nx) (hnb:nx≤nb) (hnb':nb<nx'):
  ∃ρ',Step ρ H nx ro w ρ' (H.set nb (.cells (put l 0 .e) l.length)) nx' w'∧HR ρ' (H.set nb (.cells (put l 0 .e) l.length)) w'∧ρ' nb=some ⟨N,0,l.length⟩:=by
 have hn:ρ nb=none:=hf nb hnb hnb'
 have hle:ρ.Le (ρ.upd nb ⟨N,0,l.length⟩):=RM.le_upd hn
 have hother:∀b,b≠nb→(ρ.upd nb ⟨N,0,l.length⟩) b=ρ b:=fun b hb=>by unfold RM.upd;rw[if_neg hb]
 have hsame:(ρ.upd nb ⟨N,0,l.length⟩) nb=some ⟨N,0,l.length⟩:=by unfold RM.upd;rw[if_pos rfl]
 have hlive:∀b,(H.get b).isSome→b<nx:=fun b hb=>hwf b hb
 have hr':=q.hr hr
 have h2:N<w'.heap.size:=(Array.getElem?_eq_some_iff.1 hN).1
 have jbj:l.length=cs.size:=by have:=hcs.length;simpa using this
 refine⟨ρ.upd nb ⟨N,0,l.length⟩,⟨q.os,q.tape,q.output,q.size,by omega,fun b hb=>hother b (by omega),fun x hx _=>q.keep x hx,fun b l' hb1 hb2 hl=>?_,fun b hb=>?_,fun b hb hb2=>?_⟩,⟨fun b k l' hk hl=>?_,fun b b' l' l'' e1 e2 g1 g2 e=>?_⟩,hsame⟩
 ·by_cases hb:b=nb
  ·subst hb
   rw[hsame] at hl
   cases hl
   exact .inl ⟨h1,h2⟩
  ·rw[hother b hb,hf b hb1 hb2] at hl
   cases hl
 ·by_cases hbn:b=nb
  ·exact .inl ⟨by omega,by omega⟩
  ·rw[Tr.get_set,if_neg hbn] at hb
   exact .inr hb
 ·rw[Tr.get_set,if_neg (by omega)]
 ·by_cases hbn:b=nb
  ·subst hbn
   rw[Tr.get_set,if_pos rfl] at hk
   cases hk
   rw[hsame] at hl
   cases hl
   refine⟨cs,t,(0,0),hN,by simp,by simp[jbj],fun i _ _=>by simp,fun i hi=>?_⟩
   obtain⟨a,ha⟩:∃a,l[i]?=some a:=⟨l[i],by simp[hi]⟩
   obtain⟨v,hv,hr⟩:=hcs.get ha
   exact⟨a,v,by rw[jex,if_pos (by omega),Nat.sub_zero,ha],by simpa using hv,VR.mono hle _ _ hr⟩
  ·rw[Tr.get_set,if_neg hbn] at hk
   rw[hother b hbn] at hl
   exact(hr'.blk b k l' hk hl).mono hle rfl
 ·have lt:∀ {b:Nat} {l0:Loc},b≠nb→((H.set nb (.cells (put l 0 .e) l.length)).get b).isSome→(ρ.upd nb ⟨N,0,l.length⟩) b=some l0→(H.get b).isSome∧ρ b=some l0∧l0.blk<w.heap.size:=by
   intro b l0 hb e g
   rw[Tr.get_set,if_neg hb] at e
   rw[hother b hb] at g
   obtain⟨k,hk⟩:=Option.isSome_iff_exists.1 e
   refine⟨e,g,?_⟩
   have:=hr.blk b k l0 hk g
   cases k with
   | cells c n=>
     obtain⟨cs',elem,fr,h,_⟩:=this
     exact(Array.getElem?_eq_some_iff.1 h).1
   | iter s pos=>
     obtain⟨bs,h,_⟩:=this
     exact(Array.getElem?_eq_some_iff.1 h).1
  by_cases c1:b=nb<;>by_cases c2:b'=nb
  ·exact .inl (by rw[c1,c2])
  ·subst c1
   rw[hsame] at g1
   cases g1
   have:=(lt c2 e2 g2).2.2
   simp only at e
   omega
  ·subst c2
   rw[hsame] at g2
   cases g2
   have:=(lt c1 e1 g1).2.2
   simp only at e
   omega
  ·exact hr.inj b b' l' l'' (lt c1 e1 g1).1 (lt c2 e2 g2).1 (lt c1 e1 g1).2.1 (lt c2 e2 g2).2.1 e
def jm3 (c:Tr AV):Nat→Nat→Option (List Int)
 | _,0=>some []
 | o,n+1=>match c.get o with
   | some (.int .i64 x)=>(match jm3 c (o+1) n with
     | some L=>some (x::L)
     | none=>none)
   | _=>none
theorem jk2 {c:Tr AV}:∀ {n o:Nat} {L:List Int},jm3 c o n=some L→L.length=n∧∀i (h:i<L.length),c.get (o+i)=some (.int .i64 L[i])
 | 0,o,L,h=>by cases h;exact⟨rfl,fun i h=>by simp at h⟩
 | n+1,o,L,h=>by
   unfold jm3 at h
   split at h<;>try (cases h;done)
   rename_i x hx
   split at h<;>try (cases h;done)
   rename_i M hM
   cases h
   obtain⟨h1,h2⟩:=jk2 hM
   refine⟨by simp[h1],fun i hi=>?_⟩
   cases i with
   | zero=>exact hx
   | succ i=>
     have:=h2 i (by simpa using hi)
     rw[show o+1+i=o+ (i+1) by omega] at this
     exact this
def okL (L:List Int):Bool:=L.all (fun x=>decide (1≤x∧x≤64))&&(1:Nat).ble L.length&&L.length.ble 32
def jhh (call:FuncId→List AV→Tr Blk→Nat→Nat→Out) (fc:FuncId) (E:List Int→List Int) (as:List AV) (rd:Tr Blk→Option (List Int)):Tr Blk→Nat→Nat→Out:=fun H nx _=>match call fc as H nx nx with
 | some (.int .i64 e,_,nxc)=>if e=0 then(match rd H with
    | some L=>bif okL L then some (.tup [.sl nxc 0 (E L).length (some (E L).length) 1,.int .i64 0],H.set nxc (.cells (put ((E L).map (AV.int .i64)) 0 .e) ((E L).map (AV.int .i64)).length),nxc+1) else none
    | none=>none)
   else some (.tup [.nils,.int .i64 e],H,nxc)
 | _=>none
def jjd (call:FuncId→List AV→Tr Blk→Nat→Nat→Out) (f fc:FuncId) (E:List Int→List Int):jlz:=fun g as=>bif Nat.beq g f then(match as with
 | [.agg [.sl b o n _ 1,_]]=>some (jhh call fc E as fun H=>match H.get b with
   | some (.cells c m)=>bif(o+n).ble m then jm3 c o n else none
   | _=>none)
 | [.agg [.nils,_]]=>some (jhh call fc E as fun _=>none)
 | _=>none) else none
theorem jz9 {ρ:RM}:∀(l:List Int),VRs ρ (l.map (AV.int .i64)) (l.map (Value.int .i64))
 | []=>by simp[VRs]
 | b::l=>by
   simp only[List.map_cons,VRs,VR]
   exact⟨_,_,rfl,rfl,jz9 l⟩
theorem jru {call:FuncId→List AV→Tr Blk→Nat→Nat→Out} (hcall:jg4 P gl call) {fc:FuncId} {as:List AV} {H Hc:Tr Blk} {nx nxc:Nat} {e:Int} (h:call fc as H nx nx=some (.int .i64 e,Hc,nxc))
  {ρ:RM} {w:World} {args:Array Value} (hr:HR ρ H w) (hf:Free ρ nx nxc) (hgl:GLok gl ρ) (hwf:WF H nx) (ha:VRs ρ as args.toList):
  ∀W,Below w.heap.size w W→Calls P fc args W fun en W'=>en=.returned (.int .i64 e)∧Below W.heap.size W W':=by
 intro W hB
 refine((hcall _ _ _ _ _ _ _ _ h).2 ρ W args ((Below.quiet hB).hr hr) hf (Nat.le_refl _) hgl hwf ha).2.mono ?_
 rintro en W' ⟨v',rfl,ρ',st,_,hv⟩
 simp only[VR] at hv
 subst hv
 exact⟨rfl,st.os,st.tape,st.output,st.size,fun x hx=>st.keep x hx (fun b l _ _ hb=>hwf b hb)⟩
theorem j8i {H:Tr Blk} {nx ro nb:Nat} {k:Blk} (h:nx≤nb):Syn H nx ro (H.set nb k) (nb+1):=
 ⟨by omega,fun b hb=>by
   by_cases e:b=nb
   ·exact .inl ⟨by omega,by omega⟩
   ·rw[Tr.get_set,if_neg e] at hb
    exact .inr hb,fun b _ h2=>by rw[Tr.get_set,if_neg (by omega)]⟩
theorem kcw {L:List Int} (h:okL L=true):(∀x∈L,1≤x∧x≤64)∧1≤L.length∧L.length≤32:=by
 unfold okL at h
 rw[Bool.and_eq_true,Bool.and_eq_true] at h
 exact⟨fun x hx=>by simpa using List.all_eq_true.1 h.1.1 x hx,by simpa using h.1.2,by simpa using h.2⟩
theorem j6f {call:FuncId→List AV→Tr Blk→Nat→Nat→Out} {f fc:FuncId} {E:List Int→List Int} (hcall:jg4 P gl call) (hfn:j53 P f) (hE:∀L,L.length≤32→(E L).length<9223372036854775808)
  (c1:∀(b o c:Nat) (vk:Value) (L:List Int) (_:∀x∈L,1≤x∧x≤64) (_:L.length≤32) (w:World)
    (_:∀W,Below w.heap.size w W→Calls P fc #[.agg #[.slice (some ⟨b,o,none⟩) L.length c,vk]] W fun e W'=>e=.returned (.int .i64 0)∧Below W.heap.size W W')
    (_:b<w.heap.size) (_:∀i (h:i<L.length),w.cell? ⟨b,o+i,none⟩=some (.int .i64 L[i])),
    Calls P f #[.agg #[.slice (some ⟨b,o,none⟩) L.length c,vk]] w fun e W'=>∃N,e=.returned (.tuple #[.slice (some ⟨N,0,none⟩) (E L).length (E L).length,.int .i64 0])∧w.heap.size≤N∧
     (∃t,W'.heap[N]?=some (.cells ((E L).map (Value.int .i64)).toArray t (0,0)))∧Below w.heap.size w W')
  (c2:∀(vl vk:Value) (e:Int) (w:World) (_:e≠0) (_:∀W,Below w.heap.size w W→Calls P fc #[.agg #[vl,vk]] W fun en W'=>en=.returned (.int .i64 e)∧Below W.heap.size W W'),
    Calls P f #[.agg #[vl,vk]] w fun en W'=>en=.returned (.tuple #[.slice none 0 0,.int .i64 e])∧Below w.heap.size w W'):
  jfc P gl B (jjd call f fc E):=by
 have err:∀ {as:List AV} {a k:AV} {H Hc:Tr Blk} {nx nxc:Nat} {e:Int},as=[.agg [a,k]]→call fc as H nx nx=some (.int .i64 e,Hc,nxc)→e≠0→
   ∀(ro:Nat),Syn H nx ro H nxc∧∀(ρ:RM) (w:World) (args:Array Value),HR ρ H w→Free ρ nx nxc→ro≤nx→GLok gl ρ→WF H nx→VRs ρ as args.toList→
    j53 P f∧Calls P f args w (fun en w'=>∃v',en=.returned v'∧Ends ρ H nx ro w (.tup [.nils,.int .i64 e]) H nxc v' w'):=by
  intro as a k H Hc nx nxc e has hc he ro
  subst has
  have hup:=(hcall _ _ _ _ _ _ _ _ hc).1
  refine⟨⟨hup,fun _ h=>.inr h,fun _ _ _=>rfl⟩,fun ρ w args hr hf hro hgl hwf ha=>⟨hfn,?_⟩⟩
  have hcb:=jru hcall hc hr hf hgl hwf ha
  simp only[VRs,VR] at ha
  obtain⟨v,vs,h1,⟨cs,rfl,vl,vs2,h2,_,vk,vs3,rfl,_,rfl⟩,rfl⟩:=ha
  obtain rfl:args=#[.agg cs]:=Array.toList_inj.1 h1
  obtain rfl:cs=#[vl,vk]:=Array.toList_inj.1 h2
  refine(c2 vl vk e w he hcb).mono ?_
  rintro en w' ⟨rfl,hB⟩
  have q:=Below.quiet hB
  refine⟨_,rfl,ρ,⟨q.os,q.tape,q.output,q.size,hup,fun _ _=>rfl,fun x hx _=>q.keep x hx,fun b l hb1 hb2 hl=>?_,fun b hb=>.inr hb,fun _ _ _=>rfl⟩,q.hr hr,jpz (by simp[VR]) (by simp[VR])⟩
  rw[hf b hb1 hb2] at hl
  cases hl
 intro g as k hk H nx v H' nx' ro hv hb
 unfold jjd at hk
 obtain⟨e,hk2⟩:=jag hk
 rw[jab,decide_eq_true_eq] at e
 clear hk
 subst e
 split at hk2
 ·rename_i b o n cap kk
  cases hk2
  unfold jhh at hv
  split at hv<;>try (cases hv;done)
  rename_i e Hc nxc hc
  split at hv
  ·rename_i he
   subst he
   split at hv<;>try (cases hv;done)
   rename_i L hL
   obtain⟨hok,hv⟩:=jag hv
   obtain⟨o1,o2,o3⟩:=kcw hok
   simp only[Option.some.injEq,Prod.mk.injEq] at hv
   obtain⟨rfl,rfl,rfl⟩:=hv
   simp only at hL
   split at hL<;>try (cases hL;done)
   rename_i c m hcm
   obtain⟨hom,hL⟩:=jag hL
   rw[jad,decide_eq_true_eq] at hom
   obtain⟨hLn,hLc⟩:=jk2 hL
   have hup:=(hcall _ _ _ _ _ _ _ _ hc).1
   refine⟨⟨by omega,(j8i (ro:=ro) hup).live,(j8i (ro:=ro) hup).old⟩,fun ρ w args hr hf hro hgl hwf ha=>⟨hfn,?_⟩⟩
   have hf':Free ρ nx nxc:=fun b h1 h2=>hf b h1 (by omega)
   have hcb:=jru hcall hc hr hf' hgl hwf ha
   simp only[VRs,VR] at ha
   obtain⟨v,vs,h1,⟨cs,rfl,vl,vs2,h2,⟨l,cp,off,g1,rfl,g2,_,g3,_⟩,vk,vs3,rfl,_,rfl⟩,rfl⟩:=ha
   obtain rfl:args=#[.agg cs]:=Array.toList_inj.1 h1
   obtain rfl:cs=#[.slice (some ⟨l.blk,off,none⟩) n cp,vk]:=Array.toList_inj.1 h2
   obtain rfl:off=l.base+o:=by rcases g3 with h | h;exact h;omega
   obtain⟨cs,elem,fr,q1,_,_,_,q5⟩:=hr.blk b _ l hcm g1
   subst hLn
   refine(c1 l.blk (l.base+o) cp vk L o1 o3 w hcb (Array.getElem?_eq_some_iff.1 q1).1 (fun i hi=>?_)).mono ?_
   ·obtain⟨a,v,a1,a2,a3⟩:=q5 (o+i) (by omega)
    rw[hLc i hi] at a1
    cases a1
    simp only[VR] at a3
    simp only[World.cell?,q1]
    subst a3
    simpa[Nat.add_assoc] using a2
   ·rintro en w' ⟨N,rfl,hN,⟨t,ht⟩,hB⟩
    obtain⟨ρ',st,hr2,hnb⟩:=j3r (ro:=ro) (Below.quiet hB) hN ht (l:=(E L).map (AV.int .i64)) (by simpa using jz9 (E L)) hr hf hwf hup (by omega)
    refine⟨_,rfl,ρ',st,hr2,jpz ?_ (by simp[VR])⟩
    simp only[VR]
    refine⟨_,(E L).length,0,hnb,rfl,Nat.le_refl _,by omega,.inl rfl,.inl ⟨rfl,by simp,fun _=>hE L o3⟩⟩
  ·rename_i he
   simp only[Option.some.injEq,Prod.mk.injEq] at hv
   obtain⟨rfl,rfl,rfl⟩:=hv
   exact err rfl hc he _
 ·rename_i kk
  cases hk2
  unfold jhh at hv
  split at hv<;>try (cases hv;done)
  rename_i e Hc nxc hc
  split at hv
  ·cases hv
  ·rename_i he
   simp only[Option.some.injEq,Prod.mk.injEq] at hv
   obtain⟨rfl,rfl,rfl⟩:=hv
   exact err rfl hc he _
 ·cases hk2
end W
end Go.Vm
namespace Go.Vm
namespace W
open Go Go.RowKit
variable {P:Program} {gl:List Nat} {B:Base}
def jon (c:Tr AV):Nat→Nat→Option (List (List Nat))
 | _,0=>some []
 | o,n+1=>match c.get o with
   | some (.str x)=>(match jon c (o+1) n with
     | some L=>some (x::L)
     | none=>none)
   | _=>none
theorem jun {c:Tr AV}:∀ {n o:Nat} {L:List (List Nat)},jon c o n=some L→L.length=n∧∀i (h:i<L.length),c.get (o+i)=some (.str L[i])
 | 0,o,L,h=>by cases h;exact⟨rfl,fun i h=>by simp at h⟩
 | n+1,o,L,h=>by
   unfold jon at h
   split at h<;>try (cases h;done)
   rename_i x hx
   split at h<;>try (cases h;done)
   rename_i M hM
   cases h
   obtain⟨h1,h2⟩:=jun hM
   refine⟨by simp[h1],fun i hi=>?_⟩
   cases i with
   | zero=>exact hx
   | succ i=>
     have:=h2 i (by simpa using hi)
     rw[show o+1+i=o+ (i+1) by omega] at this
     exact this
def jqr (S:List (List Nat)) (sep:List Nat):List Nat:=(Lib.join (S.map u8) (u8 sep)).map UInt8.toNat
def jne (f:FuncId):jlz:=fun g as=>bif Nat.beq g f then(match as with
 | [.sl b o n _ 1,.str sep]=>some fun H nx _=>match H.get b with
   | some (.cells c m)=>bif(o+n).ble m then(match jon c o n with
     | some S=>bif(jqr S sep).length.ble 1000000&&S.length.ble 1000000 then some (.str (jqr S sep),H,nx) else none
     | none=>none) else none
   | _=>none
 | [.nils,.str _]=>some fun H nx _=>some (.str [],H,nx)
 | _=>none) else none
def mkB (s:List Nat):ByteArray:=⟨(u8 s).toArray⟩
theorem j6b {f:FuncId} (hfn:j53 P f)
  (c0:∀(a:Option Addr) (c:Nat) (sep:ByteArray) (w:World),Calls P f #[.slice a 0 c,.string sep] w fun e w'=>e=.returned (.string ⟨#[]⟩)∧w'=w)
  (c1:∀(bk o c:Nat) (xs:List ByteArray) (sep:ByteArray) (w:World) (_:∀(j:Nat) x,xs[j]?=some x→w.cell? ⟨bk,o+j,none⟩=some (.string x)) (_:bk<w.heap.size) (_:xs.length≤140737488355328) (_:xs.length≤c)
    (_:(Lib.join (xs.map (·.data.toList)) sep.data.toList).length≤140737488355328),
    Calls P f #[.slice (some ⟨bk,o,none⟩) xs.length c,.string sep] w fun e w'=>e=.returned (.string ⟨(Lib.join (xs.map (·.data.toList)) sep.data.toList).toArray⟩)∧Below w.heap.size w w'):
  jfc P gl B (jne f):=by
 intro g as k hk H nx v H' nx' ro hv hb
 unfold jne at hk
 obtain⟨e,hk2⟩:=jag hk
 rw[jab,decide_eq_true_eq] at e
 clear hk
 subst e
 split at hk2
 ·rename_i b o n cap sep
  cases hk2
  simp only at hv
  split at hv<;>try (cases hv;done)
  rename_i c m hcm
  obtain⟨hom,hv⟩:=jag hv
  rw[jad,decide_eq_true_eq] at hom
  split at hv<;>try (cases hv;done)
  rename_i S hS
  obtain⟨jbj,hv⟩:=jag hv
  rw[Bool.and_eq_true,jad,jad,decide_eq_true_eq,decide_eq_true_eq] at jbj
  simp only[Option.some.injEq,Prod.mk.injEq] at hv
  obtain⟨rfl,rfl,rfl⟩:=hv
  obtain⟨hSn,hSc⟩:=jun hS
  refine⟨Syn.refl _ _ _,fun ρ w args hr hf hro hgl hwf ha=>⟨hfn,?_⟩⟩
  simp only[VRs,VR] at ha
  obtain⟨v,vs,h1,⟨l,cp,off,g1,rfl,g2,_,g3,_⟩,v2,vs2,rfl,⟨sb,rfl,hsb⟩,rfl⟩:=ha
  obtain rfl:args=#[.slice (some ⟨l.blk,off,none⟩) n cp,.string sb]:=Array.toList_inj.1 h1
  have hsep:=jwm hsb
  by_cases hn:n=0
  ·subst hn
   have:S=[]:=List.length_eq_zero_iff.1 hSn
   subst this
   refine(c0 _ _ _ _).mono ?_
   rintro e w' ⟨rfl,rfl⟩
   exact⟨_,rfl,jfm (Below.quiet (Below.refl _ _)) hr (by simp only[VR];exact⟨⟨#[]⟩,rfl,rfl⟩)⟩
  ·obtain rfl:off=l.base+o:=by rcases g3 with h | h;exact h;omega
   obtain⟨cs,elem,fr,q1,_,_,_,q5⟩:=hr.blk b _ l hcm g1
   have hm:(S.map mkB).map (fun x=>x.data.toList)=S.map u8:=by
    rw[List.map_map]
    apply List.map_congr_left
    intro s _
    simp[mkB]
   have:=c1 l.blk (l.base+o) cp (S.map mkB) sb w (fun j x hx=>?_) (Array.getElem?_eq_some_iff.1 q1).1 (by rw[List.length_map];omega) (by rw[List.length_map];omega) (by rw[hm,hsep];have:=jbj.1;simp only[jqr,List.length_map] at this;omega)
   ·rw[List.length_map,hSn] at this
    refine this.mono ?_
    rintro e w' ⟨rfl,hB⟩
    refine⟨_,rfl,jfm (Below.quiet hB) hr ?_⟩
    rw[hm,hsep]
    simp only[VR]
    exact⟨_,rfl,rfl⟩
   ·rw[List.getElem?_map] at hx
    simp only[Option.map_eq_some_iff] at hx
    obtain⟨s,hs,rfl⟩:=hx
    obtain⟨hj,hs⟩:=List.getElem?_eq_some_iff.1 hs
    obtain⟨a,v,a1,a2,a3⟩:=q5 (o+j) (by omega)
    rw[hSc j hj,hs] at a1
    cases a1
    simp only[VR] at a3
    obtain⟨bs,rfl,hbs⟩:=a3
    have:bs=mkB s:=by
     have:=jwm hbs
     unfold mkB
     rw[←this]
    rw[←this]
    simp only[World.cell?,q1]
    simpa[Nat.add_assoc] using a2
 ·cases hk2
  simp only[Option.some.injEq,Prod.mk.injEq] at hv
  obtain⟨rfl,rfl,rfl⟩:=hv
  refine⟨Syn.refl _ _ _,fun ρ w args hr hf hro hgl hwf ha=>⟨hfn,?_⟩⟩
  simp only[VRs,VR] at ha
  obtain⟨v,vs,h1,rfl,v2,vs2,rfl,⟨sb,rfl,hsb⟩,rfl⟩:=ha
  obtain rfl:args=#[.slice none 0 0,.string sb]:=Array.toList_inj.1 h1
  refine(c0 _ _ _ _).mono ?_
  rintro e w' ⟨rfl,rfl⟩
  exact⟨_,rfl,jfm (Below.quiet (Below.refl _ _)) hr (by simp only[VR];exact⟨⟨#[]⟩,rfl,rfl⟩)⟩
 ·cases hk2
end W
end Go.Vm
