/-
  Told functions that write into a row of ints, or lay a new one: what they leave (slices.Grow, Insert, Replace).
  A jk9 function that sorts a row of slices of ints.
  The order of lists, element by element.
-/
import Derived.Test.YtofimkliemlojaaGreatDoorVmWT
set_option linter.unusedSimpArgs false
set_option linter.unusedVariables false
set_option linter.unusedSectionVars false
set_option linter.unnecessarySimpa false
namespace Go.Vm
namespace W
open Go Go.RowKit
variable {P:Program} {gl:List Nat} {B:Base}
def kc2 (w:World) (b off n c:Nat) (L:List Int):Prop:=∃cs e fr,w.heap[b]?=some (.cells cs e fr)∧off+c≤cs.size∧(∀q,off≤q→¬(fr.1≤q∧q<fr.2))∧L.length=n∧n≤c∧c≤9223372036854775807∧
 ∀j (h:j<L.length),cs[off+j]?=some (.int .i64 L[j])
def jn3 (w w':World) (N:List Int) (v:Value):Prop:=∃c cs t,v=.slice (some ⟨w.heap.size,0,none⟩) N.length c∧N.length≤c∧c≤9223372036854775807∧w'.heap[w.heap.size]?=some (.cells cs t (0,0))∧c≤cs.size∧
 (∀j (h:j<N.length),cs[j]?=some (.int .i64 N[j]))∧Below w.heap.size w w'
def kna (w w':World) (b off c:Nat) (N:List Int) (v:Value):Prop:=v=.slice (some ⟨b,off,none⟩) N.length c∧N.length≤c∧w'.os=w.os∧w'.tape=w.tape∧w'.output=w.output∧w'.heap.size=w.heap.size∧(∀x,x≠b→w'.heap[x]?=w.heap[x]?)∧
 ∀cs e fr,w.heap[b]?=some (.cells cs e fr)→∃cs',w'.heap[b]?=some (.cells cs' e fr)∧cs'.size=cs.size∧∀j (h:j<N.length),cs'[off+j]?=some (.int .i64 N[j])
theorem j60 {N:List Int} {i:Nat} (h:i<N.length):(put (N.map (AV.int .i64)) 0 .e).get i=some (.int .i64 N[i]):=by
 rw[jfe,if_pos (by simpa using h)]
 simp[h]
theorem joh {ρ:RM} {H H2:Tr Blk} {nx ro:Nat} {w w':World} {N:List Int} {v:Value} (hr:HR ρ H w) (hf:Free ρ nx (nx+1)) (hwf:WF H nx) (hro:ro≤nx)
  (hs:∀b,(H2.get b).isSome→H2.get b=H.get b) (ho:∀b,b<ro→b<nx→H2.get b=H.get b) (hw:jn3 w w' N v):
  Ends ρ H nx ro w (.sl nx 0 N.length none 1) (H2.set nx (.cells (put (N.map (AV.int .i64)) 0 .e) N.length)) (nx+1) v w':=by
 obtain⟨c,cs,t,rfl,h1,h2,h3,h4,h5,hB⟩:=hw
 have q:=Below.quiet hB
 have hn:ρ nx=none:=hf nx (Nat.le_refl _) (by omega)
 have hle:ρ.Le (ρ.upd nx ⟨w.heap.size,0,c⟩):=RM.le_upd hn
 have hother:∀b,b≠nx→(ρ.upd nx ⟨w.heap.size,0,c⟩) b=ρ b:=fun b hb=>by unfold RM.upd;rw[if_neg hb]
 have hsame:(ρ.upd nx ⟨w.heap.size,0,c⟩) nx=some ⟨w.heap.size,0,c⟩:=by unfold RM.upd;rw[if_pos rfl]
 have hr':=q.hr hr
 have hsz:w.heap.size<w'.heap.size:=(Array.getElem?_eq_some_iff.1 h3).1
 refine⟨ρ.upd nx ⟨w.heap.size,0,c⟩,⟨q.os,q.tape,q.output,q.size,by omega,fun b hb=>hother b (by omega),fun x hx _=>q.keep x hx,fun b l' hb1 hb2 hl=>?_,fun b hb=>?_,fun b hb hb2=>?_⟩,⟨fun b k l' hk hl=>?_,fun b b' l' l'' e1 e2 g1 g2 e=>?_⟩,?_⟩
 ·have:b=nx:=by omega
  subst this
  rw[hsame] at hl
  cases hl
  exact .inl ⟨Nat.le_refl _,hsz⟩
 ·by_cases hbn:b=nx
  ·exact .inl ⟨by omega,by omega⟩
  ·rw[Tr.get_set,if_neg hbn] at hb
   rw[hs b hb] at hb
   exact .inr hb
 ·rw[Tr.get_set,if_neg (by omega)]
  exact ho b hb hb2
 ·by_cases hbn:b=nx
  ·subst hbn
   rw[hsame] at hl
   cases hl
   rw[Tr.get_set,if_pos rfl] at hk
   cases hk
   refine⟨cs,t,(0,0),h3,by simpa using h1,h4,fun i _ _=>by simp,fun i hi=>?_⟩
   exact⟨_,_,j60 hi,by rw[Nat.zero_add];exact h5 i hi,by simp[VR]⟩
  ·rw[Tr.get_set,if_neg hbn] at hk
   rw[hother b hbn] at hl
   have:(H2.get b).isSome:=by rw[hk];rfl
   rw[hs b this] at hk
   exact(hr'.blk b k l' hk hl).mono hle rfl
 ·have lt:∀x l,(H2.get x).isSome→ρ x=some l→l.blk<w.heap.size:=fun x l hx hl=>by
   rw[hs x hx] at hx
   obtain⟨k,hk⟩:=Option.isSome_iff_exists.1 hx
   exact(hr.blk x k l hk hl).lt
  rw[Tr.get_set] at e1 e2
  by_cases a1:b=nx
  ·by_cases a2:b'=nx
   ·exact .inl (by rw[a1,a2])
   ·rw[if_neg a2] at e2
    rw[hother b' a2] at g2
    rw[a1,hsame] at g1
    cases g1
    have:=lt b' l'' e2 g2
    simp only at e
    omega
  ·rw[if_neg a1] at e1
   rw[hother b a1] at g1
   by_cases a2:b'=nx
   ·rw[a2,hsame] at g2
    cases g2
    have:=lt b l' e1 g1
    simp only at e
    omega
   ·rw[if_neg a2] at e2
    rw[hother b' a2] at g2
    exact hr.inj b b' l' l'' (by rw[←hs b e1];exact e1) (by rw[←hs b' e2];exact e2) g1 g2 e
 ·simp only[VR]
  exact⟨_,c,0,hsame,rfl,h1,by omega,.inl rfl,.inr ⟨trivial,by simp,by omega⟩⟩
theorem j3h {ρ:RM} {H:Tr Blk} {nx ro b o k c:Nat} {ct:Tr AV} {lc:Loc} {w w':World} {N:List Int} {v:Value} (hr:HR ρ H w) (hf:Free ρ nx (nx+1)) (hwf:WF H nx) (hro:rx ro≤b)
  (hb:H.get b=some (.cells ct k)) (hl:ρ b=some lc) (hlim:lc.base+o+c≤lc.lim) (hc:c≤9223372036854775807) (hw:kna w w' lc.blk (lc.base+o) c N v):
  Ends ρ H nx ro w (.sl nx 0 N.length none 1) ((H.del b).set nx (.cells (put (N.map (AV.int .i64)) 0 .e) N.length)) (nx+1) v w':=by
 obtain⟨rfl,h1,w1,w2,w3,w4,w5,w6⟩:=hw
 obtain⟨cs,elem,fr,q1,q2,q3,q4,q5⟩:=hr.blk b _ lc hb hl
 obtain⟨cs',w7,w8,w9⟩:=w6 cs elem fr q1
 obtain⟨hrb,hRO⟩:=jf4 hro
 have hbn:b<nx:=hwf b (by rw[hb];rfl)
 have hn:ρ nx=none:=hf nx (Nat.le_refl _) (by omega)
 have hle:ρ.Le (ρ.upd nx ⟨lc.blk,lc.base+o,lc.base+o+c⟩):=RM.le_upd hn
 have hother:∀x,x≠nx→(ρ.upd nx ⟨lc.blk,lc.base+o,lc.base+o+c⟩) x=ρ x:=fun x hx=>by unfold RM.upd;rw[if_neg hx]
 have hsame:(ρ.upd nx ⟨lc.blk,lc.base+o,lc.base+o+c⟩) nx=some ⟨lc.blk,lc.base+o,lc.base+o+c⟩:=by unfold RM.upd;rw[if_pos rfl]
 have inj1:∀b' l',(H.get b').isSome→ρ b'=some l'→l'.blk=lc.blk→b'=b:=fun b' l' h1 h2 h3=>by
  rcases hr.inj b' b l' lc h1 (by rw[hb];rfl) h2 hl h3 with h4 | h4
  ·exact h4
  ·omega
 have hdel:∀x,((H.del b).get x).isSome→x≠b∧(H.del b).get x=H.get x:=fun x hx=>by
  rw[Tr.get_del] at hx ⊢
  by_cases e:x=b
  ·rw[if_pos e] at hx;cases hx
  ·rw[if_neg e];exact⟨e,rfl⟩
 refine⟨ρ.upd nx ⟨lc.blk,lc.base+o,lc.base+o+c⟩,⟨w1,w2,w3,by omega,by omega,fun x hx=>hother x (by omega),fun x hx hk'=>?_,fun x l' g1 g2 g3=>?_,fun x hx=>?_,fun x g1 g2=>?_⟩,⟨fun x k' l' g1 g2=>?_,fun x y l1 l2 g1 g2 g3 g4 g5=>?_⟩,?_⟩
 ·refine w5 x fun e=>?_
  have:=hk' b lc hl e.symm (by rw[hb];rfl)
  omega
 ·have:x=nx:=by omega
  subst this
  rw[hsame] at g3
  cases g3
  exact .inr ⟨b,lc,hrb,by rw[hb];rfl,hl,rfl⟩
 ·by_cases e:x=nx
  ·exact .inl ⟨by omega,by omega⟩
  ·rw[Tr.get_set,if_neg e] at hx
   exact .inr (by rw[←(hdel x hx).2];exact hx)
 ·rw[Tr.get_set,if_neg (by omega),Tr.get_del,if_neg (by omega)]
 ·by_cases e:x=nx
  ·subst e
   rw[Tr.get_set,if_pos rfl] at g1
   rw[hsame] at g2
   cases g1;cases g2
   refine⟨cs',elem,fr,w7,by simp only;omega,by simp only;omega,fun j j1 _=>q4 j (by simp only at j1;omega) (fun hf=>?_),fun j hj=>⟨_,_,j60 hj,w9 j hj,by simp[VR]⟩⟩
   rw[jad,decide_eq_false_iff_not] at hf
   omega
  ·rw[Tr.get_set,if_neg e] at g1
   rw[hother x e] at g2
   obtain⟨e2,e3⟩:=hdel x (by rw[g1];rfl)
   rw[e3] at g1
   exact(hr.blk x k' l' g1 g2).mono hle (w5 _ fun e4=>e2 (inj1 x l' (by rw[g1];rfl) g2 e4))
 ·have noother:∀b' l',((H.del b).get b').isSome→ρ b'=some l'→l'.blk≠lc.blk:=fun b' l' h2 h3 h4=>by
   obtain⟨e2,e3⟩:=hdel b' h2
   rw[e3] at h2
   exact e2 (inj1 b' l' h2 h3 h4)
  rw[Tr.get_set] at g1 g2
  by_cases e1:x=nx
  ·by_cases e2:y=nx
   ·exact .inl (by rw[e1,e2])
   ·rw[if_neg e2] at g2
    rw[hother y e2] at g4
    rw[e1,hsame] at g3
    cases g3
    exact absurd g5.symm (noother y l2 g2 g4)
  ·rw[if_neg e1] at g1
   rw[hother x e1] at g3
   by_cases e2:y=nx
   ·rw[e2,hsame] at g4
    cases g4
    exact absurd g5 (noother x l1 g1 g3)
   ·rw[if_neg e2] at g2
    rw[hother y e2] at g4
    exact hr.inj x y l1 l2 (by rw[←(hdel x g1).2];exact g1) (by rw[←(hdel y g2).2];exact g2) g3 g4 g5
 ·simp only[VR]
  exact⟨_,c,_,hsame,rfl,h1,by omega,.inl rfl,.inr ⟨trivial,by simp,by omega⟩⟩
def j81 (H:Tr Blk) (b o n:Nat):Option (List Int):=match H.get b with
 | some (.cells c k)=>bif(o+n).ble k then jt1 c o n else none
 | _=>none
theorem jzk {ρ:RM} {H:Tr Blk} {w:World} {b o n:Nat} {cap:Option Nat} {L:List Int} {v:Value} (hr:HR ρ H w) (h:j81 H b o n=some L) (hn:0<n) (hb:RO≤b) (hv:VR ρ (.sl b o n cap 1) v):
  ∃lc c ct k,H.get b=some (.cells ct k)∧ρ b=some lc∧v=.slice (some ⟨lc.blk,lc.base+o,none⟩) n c∧kc2 w lc.blk (lc.base+o) n c L∧lc.base+o+c≤lc.lim∧c≤9223372036854775807:=by
 simp only[VR] at hv
 obtain⟨lc,c,off,g1,rfl,g2,_,g3,g4⟩:=hv
 unfold j81 at h
 split at h<;>try (cases h;done)
 rename_i ct k hk
 obtain⟨h1,h2⟩:=jaf h
 rw[jad,decide_eq_true_eq] at h1
 obtain⟨hL,hLc⟩:=jmu h2
 obtain⟨cs,e,fr,q1,q2,q3,q4,q5⟩:=hr.blk b _ lc hk g1
 obtain rfl:off=lc.base+o:=by omega
 have hlim:lc.base+o+c≤lc.lim∧c≤9223372036854775807:=by
  rcases g4 with⟨e,h⟩ | ⟨e,h⟩
  ·have:=h.2 hb
   omega
  ·omega
 refine⟨lc,c,ct,k,hk,g1,rfl,⟨cs,e,fr,q1,by omega,fun q hq=>q4 q (by omega) (fun hf=>?_),hL,g2,hlim.2,fun j hj=>?_⟩,hlim.1,hlim.2⟩
 ·rw[jad,decide_eq_false_iff_not] at hf
  omega
 ·obtain⟨a,v,a1,a2,a3⟩:=q5 (o+j) (by omega)
  rw[hLc j hj] at a1
  cases a1
  simp only[VR] at a3
  subst a3
  rw[Nat.add_assoc]
  exact a2
def jxy (L:List Int) (i k:Nat) (V:List Int):List Int:=L.take i++V++L.drop k
def kf6 (ro:Nat) (H:Tr Blk) (nx b o n:Nat) (cap:Option Nat) (i k vb vo m:Nat) (vcap:Option Nat):Out:=
 bif i.ble k&&k.ble n&&(1:Nat).ble n&&n.ble 1000000&&(1:Nat).ble m&&m.ble 1000&&(i.beq k||k.ble (i+m)&& !(k.beq (i+m)))&&(rx ro).ble b&&(rx ro).ble vb&& !(b.beq vb) then
  match j81 H b o n,j81 H vb vo m with
  | some L,some V=>some (.sl nx 0 (jxy L i k V).length none 1,(H.del b).set nx (.cells (put ((jxy L i k V).map (AV.int .i64)) 0 .e) (jxy L i k V).length),nx+1)
  | _,_=>none
 else none
def kia (ro:Nat) (H:Tr Blk) (nx b vb vo m:Nat):Out:=
 bif(1:Nat).ble m&&m.ble 1000&&(rx ro).ble b&&RO.ble vb&& !(b.beq vb) then
  match H.get b,j81 H vb vo m with
  | some (.cells _ _),some V=>some (.sl nx 0 V.length none 1,(H.del b).set nx (.cells (put (V.map (AV.int .i64)) 0 .e) V.length),nx+1)
  | _,_=>none
 else none
def kak (f:FuncId):jqk:=fun g as=>bif Nat.beq g f then(match as with
 | [.sl b o n cap 1,.int .i64 (.ofNat i),.sl vb vo m vcap 1]=>some fun H nx ro=>(match n with
   | 0=>bif i.beq 0 then kia ro H nx b vb vo m else none
   | n+1=>kf6 ro H nx b o (n+1) cap i i vb vo m vcap)
 | [.nils,.int .i64 (.ofNat 0),.sl vb vo m vcap 1]=>some fun H nx ro=>bif(1:Nat).ble m&&m.ble 1000&&RO.ble vb then(match j81 H vb vo m with
   | some V=>some (.sl nx 0 V.length none 1,H.set nx (.cells (put (V.map (AV.int .i64)) 0 .e) V.length),nx+1)
   | none=>none) else none
 | _=>none) else none
def jve (f:FuncId):jqk:=fun g as=>bif Nat.beq g f then(match as with
 | [.nils,.int .i64 (.ofNat 0)]=>some fun H nx _=>some (.nils,H,nx)
 | [.nils,.int .i64 (.ofNat (n+1))]=>bif n.ble 1000000 then some fun H nx _=>some (.sl nx 0 0 none 1,H.set nx (.cells .e 0),nx+1) else none
 | _=>none) else none
theorem ket {ro:Nat} {H:Tr Blk} {nx b o n i k vb vo m:Nat} {cap vcap:Option Nat} {v:AV} {H':Tr Blk} {nx':Nat} (h:kf6 ro H nx b o n cap i k vb vo m vcap=some (v,H',nx')):Syn H nx ro H' nx':=by
 unfold kf6 at h
 obtain⟨hc,h⟩:=jaf h
 split at h<;>try (cases h;done)
 simp only[Option.some.injEq,Prod.mk.injEq] at h
 obtain⟨rfl,rfl,rfl⟩:=h
 have hro:rx ro≤b:=by
  simp only[Bool.and_eq_true,jad,decide_eq_true_eq] at hc
  exact hc.1.1.2
 have:=(jf4 hro).1
 refine⟨by omega,fun x hx=>?_,fun x h1 h2=>?_⟩
 ·by_cases e:x=nx
  ·exact .inl ⟨by omega,by omega⟩
  ·rw[Tr.get_set,if_neg e,Tr.get_del] at hx
   split at hx
   ·cases hx
   ·exact .inr hx
 ·rw[Tr.get_set,if_neg (by omega),Tr.get_del,if_neg (by omega)]
theorem kh9 {f:FuncId} {mk:Value→Value→Array Value} {ro:Nat} {H:Tr Blk} {nx b o n i k vb vo m:Nat} {cap vcap:Option Nat} {v:AV} {H':Tr Blk} {nx':Nat} (h:kf6 ro H nx b o n cap i k vb vo m vcap=some (v,H',nx'))
  (c1:∀(B off n c VB voff m vc:Nat) (L V:List Int) (w:World) (_:kc2 w B off n c L) (_:kc2 w VB voff m vc V) (_:B≠VB) (_:i≤k) (_:k≤n) (_:0<n) (_:0<m) (_:n≤1000000) (_:m≤1000) (_:i=k∨k<i+m),
    Calls P f (mk (.slice (some ⟨B,off,none⟩) n c) (.slice (some ⟨VB,voff,none⟩) m vc)) w fun e w'=>∃v,e=.returned v∧(kna w w' B off c (jxy L i k V) v∨jn3 w w' (jxy L i k V) v))
  {ρ:RM} {w:World} {X Y:Value} (hr:HR ρ H w) (hf:Free ρ nx nx') (hro:ro≤nx) (hwf:WF H nx) (hX:VR ρ (.sl b o n cap 1) X) (hY:VR ρ (.sl vb vo m vcap 1) Y):
  Calls P f (mk X Y) w (fun en w'=>∃v',en=.returned v'∧Ends ρ H nx ro w v H' nx' v' w'):=by
 unfold kf6 at h
 obtain⟨hc,h⟩:=jaf h
 split at h<;>try (cases h;done)
 rename_i L V hL hV
 simp only[Option.some.injEq,Prod.mk.injEq] at h
 obtain⟨rfl,rfl,rfl⟩:=h
 simp only[Bool.and_eq_true,Bool.or_eq_true,jad,jac,decide_eq_true_eq,Bool.not_eq_true',decide_eq_false_iff_not] at hc
 obtain⟨⟨⟨⟨⟨⟨⟨⟨⟨d1,d2⟩,d3⟩,d4⟩,d5⟩,d6⟩,d7⟩,d8⟩,d9⟩,d10⟩:=hc
 obtain⟨lc,c,ct,kk,e1,e2,rfl,e4,e5,e6⟩:=jzk hr hL (by omega) (jf4 d8).2 hX
 obtain⟨lv,vc,ct2,kk2,f1,f2,rfl,f4,f5,f6⟩:=jzk hr hV (by omega) (jf4 d9).2 hY
 have hne:lc.blk≠lv.blk:=fun e=>by
  rcases hr.inj b vb lc lv (by rw[e1];rfl) (by rw[f1];rfl) e2 f2 e with h | h
  ·exact d10 h
  ·have:=(jf4 d8).2
   omega
 refine(c1 lc.blk (lc.base+o) n c lv.blk (lv.base+vo) m vc L V w e4 f4 hne d1 d2 (by omega) (by omega) d4 d6 (by omega)).mono ?_
 rintro e w' ⟨v,rfl,hw | hw⟩
 ·exact⟨v,rfl,j3h hr hf hwf d8 e1 e2 e5 e6 hw⟩
 ·refine⟨v,rfl,joh hr hf hwf hro (fun x hx=>?_) (fun x h1 h2=>?_) hw⟩
  ·rw[Tr.get_del] at hx ⊢
   split at hx
   ·cases hx
   ·rename_i e;rw[if_neg e]
  ·rw[Tr.get_del,if_neg (by have:=(jf4 d8).1;omega)]
abbrev ko5 (P:Program) (f:FuncId) (i k:Nat) (mk:Value→Value→Array Value):Prop:=
 ∀(B off n c VB voff m vc:Nat) (L V:List Int) (w:World) (_:kc2 w B off n c L) (_:kc2 w VB voff m vc V) (_:B≠VB) (_:i≤k) (_:k≤n) (_:0<n) (_:0<m) (_:n≤1000000) (_:m≤1000) (_:i=k∨k<i+m),
  Calls P f (mk (.slice (some ⟨B,off,none⟩) n c) (.slice (some ⟨VB,voff,none⟩) m vc)) w fun e w'=>∃v,e=.returned v∧(kna w w' B off c (jxy L i k V) v∨jn3 w w' (jxy L i k V) v)
theorem keu {ro:Nat} {H:Tr Blk} {nx b vb vo m:Nat} {v:AV} {H':Tr Blk} {nx':Nat} (h:kia ro H nx b vb vo m=some (v,H',nx')):Syn H nx ro H' nx':=by
 unfold kia at h
 obtain⟨hc,h⟩:=jaf h
 split at h<;>try (cases h;done)
 simp only[Option.some.injEq,Prod.mk.injEq] at h
 obtain⟨rfl,rfl,rfl⟩:=h
 have hro:rx ro≤b:=by
  simp only[Bool.and_eq_true,jad,decide_eq_true_eq] at hc
  exact hc.1.1.2
 have:=(jf4 hro).1
 refine⟨by omega,fun x hx=>?_,fun x h1 h2=>?_⟩
 ·by_cases e:x=nx
  ·exact .inl ⟨by omega,by omega⟩
  ·rw[Tr.get_set,if_neg e,Tr.get_del] at hx
   split at hx
   ·cases hx
   ·exact .inr hx
 ·rw[Tr.get_set,if_neg (by omega),Tr.get_del,if_neg (by omega)]
abbrev ko6 (P:Program) (f:FuncId):Prop:=∀(B off c VB voff m vc:Nat) (V:List Int) (w:World) (_:0<c→kc2 w B off 0 c []) (_:kc2 w VB voff m vc V) (_:B≠VB) (_:0<m) (_:m≤1000),
 Calls P f #[.slice (some ⟨B,off,none⟩) 0 c,.int .i64 (0:Nat),.slice (some ⟨VB,voff,none⟩) m vc] w fun e w'=>∃v,e=.returned v∧(kna w w' B off c V v∨jn3 w w' V v)
theorem kgq {f:FuncId} (hfn:kgh P f) (c1:∀i,ko5 P f i i fun x y=>#[x,.int .i64 i,y])
  (c0:∀(VB voff m vc:Nat) (V:List Int) (w:World) (_:kc2 w VB voff m vc V) (_:0<m) (_:m≤1000),Calls P f #[.slice none 0 0,.int .i64 (0:Nat),.slice (some ⟨VB,voff,none⟩) m vc] w fun e w'=>∃v,e=.returned v∧jn3 w w' V v) (c00:ko6 P f):jjv P gl B (kak f):=by
 intro g as k hk H nx v H' nx' ro hv hb
 unfold kak at hk
 obtain⟨e,hk2⟩:=jaf hk
 rw[jac,decide_eq_true_eq] at e
 clear hk
 subst e
 split at hk2<;>try (cases hk2;done)
 ·rename_i b o n cap i vb vo m vcap
  cases hk2
  cases n with
  | zero=>
    obtain⟨e0,hv0⟩:=jaf hv
    clear hv
    have hv:=hv0
    clear hv0
    rw[jac,decide_eq_true_eq] at e0
    subst e0
    refine⟨keu hv,fun ρ w args hr hf hro hgl hwf ha=>⟨hfn,?_⟩⟩
    unfold kia at hv
    obtain⟨hc,hv⟩:=jaf hv
    split at hv<;>try (cases hv;done)
    rename_i ct kk V hb hV
    simp only[Option.some.injEq,Prod.mk.injEq] at hv
    obtain⟨rfl,rfl,rfl⟩:=hv
    simp only[Bool.and_eq_true,jad,jac,decide_eq_true_eq,Bool.not_eq_true',decide_eq_false_iff_not] at hc
    obtain⟨⟨⟨⟨d1,d2⟩,d3⟩,d4⟩,d5⟩:=hc
    simp only[VRs] at ha
    obtain⟨X,l1,h1,hX,y,l2,rfl,hy,Y,l3,rfl,hY,rfl⟩:=ha
    obtain rfl:args=#[X,y,Y]:=Array.toList_inj.1 h1
    simp only[VR] at hy hX
    subst hy
    obtain⟨lc,c,off,g1,rfl,g2,_,g3,g4⟩:=hX
    obtain⟨lv,vc,ct2,kk2,f1,f2,rfl,f4,f5,f6⟩:=jzk hr hV (by omega) d4 hY
    obtain⟨hro2,hRO⟩:=jf4 d3
    have hne:lc.blk≠lv.blk:=fun e=>by
     rcases hr.inj b vb lc lv (by rw[hb];rfl) (by rw[f1];rfl) g1 f2 e with h | h
     ·exact d5 h
     ·omega
    have hlim:lc.base+o+c≤lc.lim∧c≤9223372036854775807:=by
     rcases g4 with⟨e,h⟩ | ⟨e,h⟩
     ·have:=h.2 hRO
      omega
     ·omega
    obtain⟨cs,e,fr,q1,q2,q3,q4,q5⟩:=hr.blk b _ lc hb g1
    have hVl:V.length=m:=by
     obtain⟨_,_,_,_,_,_,h,_⟩:=f4
     exact h
    refine(c00 lc.blk off c lv.blk (lv.base+vo) m vc V w (fun hc=>?_) f4 hne d1 d2).mono ?_
    ·obtain rfl:off=lc.base+o:=by omega
     exact⟨cs,e,fr,q1,by omega,fun q hq=>q4 q (by omega) (fun hf=>by rw[jad,decide_eq_false_iff_not] at hf;omega),rfl,by omega,hlim.2,fun j hj=>absurd hj (by simp)⟩
    ·rintro e w' ⟨v,rfl,hw | hw⟩
     ·have hc:0<c:=by
       have:=hw.2.1
       omega
      obtain rfl:off=lc.base+o:=by omega
      exact⟨v,rfl,j3h hr hf hwf d3 hb g1 hlim.1 hlim.2 hw⟩
     ·refine⟨v,rfl,joh hr hf hwf hro (fun x hx=>?_) (fun x h1 h2=>?_) hw⟩
      ·rw[Tr.get_del] at hx ⊢
       split at hx
       ·cases hx
       ·rename_i e;rw[if_neg e]
      ·rw[Tr.get_del,if_neg (by omega)]
  | succ n=>
  refine⟨ket hv,fun ρ w args hr hf hro hgl hwf ha=>⟨hfn,?_⟩⟩
  simp only[VRs] at ha
  obtain⟨X,l1,h1,hX,y,l2,rfl,hy,Y,l3,rfl,hY,rfl⟩:=ha
  obtain rfl:args=#[X,y,Y]:=Array.toList_inj.1 h1
  simp only[VR] at hy
  subst hy
  exact kh9 hv (mk:=fun x y=>#[x,.int .i64 i,y]) (c1 i) hr hf hro hwf hX hY
 ·rename_i vb vo m vcap
  cases hk2
  obtain⟨hc,hv⟩:=jaf hv
  split at hv<;>try (cases hv;done)
  rename_i V hV
  simp only[Option.some.injEq,Prod.mk.injEq] at hv
  obtain⟨rfl,rfl,rfl⟩:=hv
  simp only[Bool.and_eq_true,jad,decide_eq_true_eq] at hc
  refine⟨Syn.new _ _ _ _,fun ρ w args hr hf hro hgl hwf ha=>⟨hfn,?_⟩⟩
  simp only[VRs] at ha
  obtain⟨X,l1,h1,hX,y,l2,rfl,hy,Y,l3,rfl,hY,rfl⟩:=ha
  obtain rfl:args=#[X,y,Y]:=Array.toList_inj.1 h1
  simp only[VR] at hX hy
  subst hX;subst hy
  obtain⟨lv,vc,ct2,kk2,f1,f2,rfl,f4,f5,f6⟩:=jzk hr hV (by omega) hc.2 hY
  refine(c0 lv.blk (lv.base+vo) m vc V w f4 (by omega) hc.1.2).mono ?_
  rintro e w' ⟨v,rfl,hw⟩
  exact⟨v,rfl,joh hr hf hwf hro (fun _ _=>rfl) (fun _ _ _=>rfl) hw⟩
theorem j6j {f:FuncId} (hfn:kgh P f) (c0:∀(w:World),Calls P f #[.slice none 0 0,.int .i64 (0:Nat)] w fun e w'=>e=.returned (.slice none 0 0)∧w'=w)
  (c1:∀(n:Nat) (w:World) (_:0<n) (_:n≤1000001),Calls P f #[.slice none 0 0,.int .i64 n] w fun e w'=>∃v,e=.returned v∧jn3 w w' [] v):jjv P gl B (jve f):=by
 intro g as k hk H nx v H' nx' ro hv hb
 unfold jve at hk
 obtain⟨e,hk2⟩:=jaf hk
 rw[jac,decide_eq_true_eq] at e
 clear hk
 subst e
 split at hk2<;>try (cases hk2;done)
 ·cases hk2
  simp only[Option.some.injEq,Prod.mk.injEq] at hv
  obtain⟨rfl,rfl,rfl⟩:=hv
  refine⟨Syn.refl _ _ _,fun ρ w args hr hf hro hgl hwf ha=>⟨hfn,?_⟩⟩
  simp only[VRs] at ha
  obtain⟨X,l1,h1,hX,y,l2,rfl,hy,rfl⟩:=ha
  obtain rfl:args=#[X,y]:=Array.toList_inj.1 h1
  simp only[VR] at hX hy
  subst hX;subst hy
  refine(c0 w).mono ?_
  rintro e w' ⟨rfl,rfl⟩
  exact⟨_,rfl,ρ,Step.refl _ _ _ _ _,hr,by simp[VR]⟩
 ·rename_i n
  obtain⟨hn,hk2⟩:=jaf hk2
  rw[jad,decide_eq_true_eq] at hn
  cases hk2
  simp only[Option.some.injEq,Prod.mk.injEq] at hv
  obtain⟨rfl,rfl,rfl⟩:=hv
  refine⟨Syn.new _ _ _ _,fun ρ w args hr hf hro hgl hwf ha=>⟨hfn,?_⟩⟩
  simp only[VRs] at ha
  obtain⟨X,l1,h1,hX,y,l2,rfl,hy,rfl⟩:=ha
  obtain rfl:args=#[X,y]:=Array.toList_inj.1 h1
  simp only[VR] at hX hy
  subst hX;subst hy
  refine(c1 (n+1) w (by omega) (by omega)).mono ?_
  rintro e w' ⟨v,rfl,hw⟩
  exact⟨v,rfl,joh hr hf hwf hro (fun _ _=>rfl) (fun _ _ _=>rfl) hw⟩
end W
end Go.Vm
namespace Go.Vm
namespace W
open Go Go.RowKit
variable {P:Program} {gl:List Nat} {B:Base}
def je2:List Int→List Int→Int
 | [],[]=>0
 | [],_::_=> -1
 | _::_,[]=>1
 | x::xs,y::ys=>if x<y then -1 else if y<x then 1 else je2 xs ys
def pick {α:Type} (d:α) (l:List α) (o:List Nat):List α:=o.map fun i=>l.getD i d
theorem jrf {α:Type} (d:α) (l:List α) (o:List Nat):(pick d l o).length=o.length:=by simp[pick]
def j40 (H:Tr Blk) (b:Nat):List AV→Option (List (List Int))
 | []=>some []
 | a::l=>match a with
   | .sl vb vo m _ 1=>bif(1:Nat).ble m&&m.ble 1000000&& !(vb.beq b) then(match j81 H vb vo m with
     | some V=>(match j40 H b l with
       | some L=>some (V::L)
       | none=>none)
     | none=>none) else none
   | _=>none
def kns (H:Tr Blk) (b:Nat) (a:AV) (V:List Int):Prop:=∃vb vo m cap,a=.sl vb vo m cap 1∧0<m∧m≤1000000∧vb≠b∧j81 H vb vo m=some V
theorem j6z {H:Tr Blk} {b:Nat}:∀ {A:List AV} {L:List (List Int)},j40 H b A=some L→L.length=A.length∧∀(i:Nat) (a:AV) (V:List Int),A[i]?=some a→L[i]?=some V→kns H b a V
 | [],L,h=>by
   cases h
   exact⟨rfl,fun i a V h=>by simp at h⟩
 | a::l,L,h=>by
   simp only[j40] at h
   split at h<;>try (cases h;done)
   rename_i vb vo m cap
   obtain⟨hc,h⟩:=jaf h
   split at h<;>try (cases h;done)
   rename_i V hV
   split at h<;>try (cases h;done)
   rename_i L hL
   cases h
   simp only[Bool.and_eq_true,jad,jac,decide_eq_true_eq,Bool.not_eq_true',decide_eq_false_iff_not] at hc
   obtain⟨h1,h2⟩:=j6z hL
   refine⟨by simp[h1],fun i a V' e1 e2=>?_⟩
   cases i with
   | zero=>
     simp only[List.getElem?_cons_zero,Option.some.injEq] at e1 e2
     subst e1;subst e2
     exact⟨vb,vo,m,cap,rfl,hc.1.1,hc.1.2,hc.2,hV⟩
   | succ i=>
     simp only[List.getElem?_cons_succ] at e1 e2
     exact h2 i a V' e1 e2
theorem j6y {H:Tr Blk} {b:Nat}:∀ {A:List AV} {L:List (List Int)},L.length=A.length→(∀(i:Nat) (a:AV) (V:List Int),A[i]?=some a→L[i]?=some V→kns H b a V)→j40 H b A=some L
 | [],L,h,_=>by rw[List.length_eq_zero_iff.1 h];rfl
 | a::A,[],h,_=>by simp at h
 | a::A,V::L,h,h2=>by
   obtain⟨vb,vo,m,cap,rfl,e1,e0,e2,e3⟩:=h2 0 _ _ rfl rfl
   have:=j6y (A:=A) (L:=L) (by simpa using h) fun i a V k1 k2=>h2 (i+1) a V (by simpa using k1) (by simpa using k2)
   simp only[j40]
   rw[show((1:Nat).ble m&&m.ble 1000000&& !(vb.beq b))=true by simp only[Bool.and_eq_true,jad,jac,decide_eq_true_eq,Bool.not_eq_true',decide_eq_false_iff_not];exact⟨⟨e1,e0⟩,e2⟩]
   simp only[cond_true,e3,this]
def j8s (ord:List (List Int)→List Nat) (ro:Nat) (H:Tr Blk) (nx b o n:Nat):Out:=
 bif(rx ro).ble b&&(1:Nat).ble n&&n.ble 1000000 then(match H.get b with
  | some (.cells c m)=>bif(o+n).ble m then(match take c o n with
    | some A=>(match j40 H b A with
      | some L=>some (.tup [],H.set b (.cells (put (pick .nils A (ord L)) o c) m),nx)
      | none=>none)
    | none=>none) else none
  | _=>none) else none
def j1x (ord:List (List Int)→List Nat) (f fc:FuncId):jqk:=fun g as=>bif Nat.beq g f then(match as with
 | [.sl b o n _ 1,.fn (.func k) [] []]=>bif Nat.beq k fc then some fun H nx ro=>(match n with
   | 0=>some (.tup [],H,nx)
   | n+1=>j8s ord ro H nx b o (n+1)) else none
 | [.nils,.fn (.func k) [] []]=>bif Nat.beq k fc then some fun H nx _=>some (.tup [],H,nx) else none
 | _=>none) else none
def kpg (w:World) (b off:Nat) (L:List Int):Prop:=∀j (h:j<L.length),w.cell? ⟨b,off+j,none⟩=some (.int .i64 L[j])
def km9 (w:World) (blk:Nat) (v:Value) (l:List Int):Prop:=∃vb vo vc,v=.slice (some ⟨vb,vo,none⟩) l.length vc∧0<l.length∧l.length≤1000000∧vb≠blk∧kpg w vb vo l
def ki2 (w w':World) (blk off:Nat) (V:List Value):Prop:=
 w'.os=w.os∧w'.tape=w.tape∧w'.output=w.output∧w.heap.size≤w'.heap.size∧(∀x,x<w.heap.size→x≠blk→w'.heap[x]?=w.heap[x]?)∧
 ∀cs e fr,w.heap[blk]?=some (.cells cs e fr)→∃cs',w'.heap[blk]?=some (.cells cs' e fr)∧cs'.size=cs.size∧∀j,j<cs.size→cs'[j]?=if off≤j∧j<off+V.length then V[j-off]? else cs[j]?
abbrev ko4 (P:Program) (ord:List (List Int)→List Nat) (f fc:FuncId):Prop:=
 ∀(blk off n c:Nat) (V:List Value) (L:List (List Int)) (w:World) (_:V.length=n) (_:L.length=n) (_:0<n) (_:n≤1000000) (_:n≤c)
  (_:∀(j:Nat) (v:Value),V[j]?=some v→w.cell? ⟨blk,off+j,none⟩=some v∧w.frozen? ⟨blk,off+j,none⟩=false) (_:∀(j:Nat) (v:Value) (l:List Int),V[j]?=some v→L[j]?=some l→km9 w blk v l),
  Calls P f #[.slice (some ⟨blk,off,none⟩) n c,.func (.func fc) #[] #[]] w fun e w'=>e=.returned (.tuple #[])∧ki2 w w' blk off (pick (.slice none 0 0) V (ord L))
theorem kfj {ρ:RM} {A:List AV} {V:List Value} (h:VRs ρ A V) {o:List Nat} (ho:∀i∈o,i<A.length):VRs ρ (pick .nils A o) (pick (.slice none 0 0) V o):=by
 have hl:=h.length
 rw[jix]
 refine⟨by simp[pick],fun i a v ha hv=>?_⟩
 unfold pick at ha hv
 rw[List.getElem?_map] at ha hv
 cases ho':o[i]? with
 | none=>rw[ho'] at ha;cases ha
 | some k=>
   rw[ho'] at ha hv
   simp only[Option.map_some,Option.some.injEq] at ha hv
   have hk:=ho k (List.mem_of_getElem? ho')
   rw[List.getD_eq_getElem?_getD,List.getElem?_eq_getElem hk,Option.getD_some] at ha
   rw[List.getD_eq_getElem?_getD,List.getElem?_eq_getElem (by omega),Option.getD_some] at hv
   obtain⟨v2,h2,h3⟩:=h.get (i:=k) (a:=A[k]) (List.getElem?_eq_getElem hk)
   rw[List.getElem?_eq_getElem (by omega)] at h2
   cases h2
   rw[←ha,←hv]
   exact h3
theorem kez {ρ:RM} {H:Tr Blk} {w:World} {b:Nat} {lb:Loc} {a:AV} {V:List Int} {v:Value} (hr:HR ρ H w) (hb:(H.get b).isSome) (hlb:ρ b=some lb) (hRO:RO≤b) (h:kns H b a V) (hv:VR ρ a v):km9 w lb.blk v V:=by
 obtain⟨vb,vo,m,cap,rfl,h1,h0,h2,h3⟩:=h
 simp only[VR] at hv
 obtain⟨lc,c,off,g1,rfl,g2,_,g3,g4⟩:=hv
 unfold j81 at h3
 split at h3<;>try (cases h3;done)
 rename_i ct k hk
 obtain⟨e1,e2⟩:=jaf h3
 rw[jad,decide_eq_true_eq] at e1
 obtain⟨hL,hLc⟩:=jmu e2
 obtain⟨cs,e,fr,q1,q2,q3,q4,q5⟩:=hr.blk vb _ lc hk g1
 obtain rfl:off=lc.base+vo:=by omega
 refine⟨lc.blk,lc.base+vo,c,by rw[hL],by omega,by omega,fun e=>?_,fun j hj=>?_⟩
 ·rcases hr.inj vb b lc lb (by rw[hk];rfl) hb g1 hlb e with h | h
  ·exact h2 h
  ·omega
 ·obtain⟨a,v,a1,a2,a3⟩:=q5 (vo+j) (by omega)
  rw[hLc j hj] at a1
  cases a1
  simp only[VR] at a3
  subst a3
  simp only[World.cell?,q1,Option.isSome_none,Bool.false_eq_true,if_false]
  rw[Nat.add_assoc]
  exact a2
theorem kdq {ord:List (List Int)→List Nat} {f fc:FuncId} (hfn:kgh P f) (ho:∀L,(ord L).length=L.length∧∀i∈ord L,i<L.length)
  (c0:∀(p:Option Addr) (c:Nat) (w:World),Calls P f #[.slice p 0 c,.func (.func fc) #[] #[]] w fun e w'=>e=.returned (.tuple #[])∧w'=w) (c1:ko4 P ord f fc):jjv P gl B (j1x ord f fc):=by
 intro g as k hk H nx v H' nx' ro hv hb
 unfold j1x at hk
 obtain⟨e,hk2⟩:=jaf hk
 rw[jac,decide_eq_true_eq] at e
 clear hk
 subst e
 split at hk2<;>try (cases hk2;done)
 ·rename_i b o n cap k2
  obtain⟨e2,hk3⟩:=jaf hk2
  rw[jac,decide_eq_true_eq] at e2
  clear hk2
  subst e2
  cases hk3
  cases n with
  | zero=>
    simp only[Option.some.injEq,Prod.mk.injEq] at hv
    obtain⟨rfl,rfl,rfl⟩:=hv
    refine⟨Syn.refl _ _ _,fun ρ w args hr hf hro hgl hwf ha=>⟨hfn,?_⟩⟩
    simp only[VRs] at ha
    obtain⟨X,l1,h1,hX,Y,l2,rfl,hY,rfl⟩:=ha
    obtain rfl:args=#[X,Y]:=Array.toList_inj.1 h1
    simp only[VR] at hX hY
    obtain⟨xs,ys,rfl,hxs,hys⟩:=hY
    obtain rfl:xs=#[]:=Array.toList_inj.1 (by simpa[VRs] using hxs)
    obtain rfl:ys=#[]:=Array.toList_inj.1 (by simpa[VRs] using hys)
    obtain⟨lc,cc,off,g1,rfl,g2,_,g3,g4⟩:=hX
    refine(c0 _ _ w).mono ?_
    rintro e w' ⟨rfl,rfl⟩
    exact⟨_,rfl,ρ,Step.refl _ _ _ _ _,hr,by simp[VR,VRs]⟩
  | succ n=>
  obtain⟨N,hN⟩:∃N,N=n+1:=⟨_,rfl⟩
  simp only[←hN] at hv
  unfold j8s at hv
  obtain⟨hc,hv⟩:=jaf hv
  simp only[Bool.and_eq_true,jad,decide_eq_true_eq] at hc
  obtain⟨⟨hrx,hn⟩,hn6⟩:=hc
  obtain⟨hro,hRO⟩:=jf4 hrx
  split at hv<;>try (cases hv;done)
  rename_i c m hbk
  obtain⟨hm,hv⟩:=jaf hv
  rw[jad,decide_eq_true_eq] at hm
  split at hv<;>try (cases hv;done)
  rename_i A hA
  split at hv<;>try (cases hv;done)
  rename_i L hL
  simp only[Option.some.injEq,Prod.mk.injEq] at hv
  obtain⟨rfl,rfl,rfl⟩:=hv
  obtain⟨tA,_⟩:=jqz N c o A hA
  obtain⟨lL,hL2⟩:=j6z hL
  have hs:(H.get b).isSome:=by rw[hbk];rfl
  refine⟨⟨Nat.le_refl _,fun x hx=>?_,fun x h1 h2=>?_⟩,fun ρ w args hr hf hro' hgl hwf ha=>⟨hfn,?_⟩⟩
  ·by_cases e:x=b
   ·exact .inr (by rw[e];exact hs)
   ·rw[Tr.get_set,if_neg e] at hx
    exact .inr hx
  ·rw[Tr.get_set,if_neg (by omega)]
  ·simp only[VRs] at ha
   obtain⟨X,l1,h1,hX,Y,l2,rfl,hY,rfl⟩:=ha
   obtain rfl:args=#[X,Y]:=Array.toList_inj.1 h1
   rw[←hN] at hX
   simp only[VR] at hX hY
   obtain⟨lc,cc,off,g1,rfl,g2,_,g3,g4⟩:=hX
   obtain⟨xs,ys,rfl,hxs,hys⟩:=hY
   obtain rfl:xs=#[]:=Array.toList_inj.1 (by simpa[VRs] using hxs)
   obtain rfl:ys=#[]:=Array.toList_inj.1 (by simpa[VRs] using hys)
   obtain rfl:off=lc.base+o:=by omega
   obtain⟨cs,elem,fr,q1,q2,q3,q4,q5⟩:=hr.blk b _ lc hbk g1
   obtain⟨V,v1,v2,v3,_⟩:=jh8 (P:=P) hr hbk g1 hm hA
   refine(c1 lc.blk (lc.base+o) N cc V L w v2 (by omega) (by omega) hn6 g2 (fun j v hj=>⟨?_,?_⟩) (fun j v l hj hl=>?_)).mono ?_
   ·have:=v3 j v hj
    rwa[jgt] at this
   ·have hjn:j<N:=by rw[←v2];exact(List.getElem?_eq_some_iff.1 hj).1
    have:=q4 (lc.base+o+j) (by omega) (fun hf=>by rw[jad,decide_eq_false_iff_not] at hf;omega)
    simp only[World.frozen?,q1]
    simp only[Bool.and_eq_false_iff,decide_eq_false_iff_not]
    omega
   ·obtain⟨hjA,hj2⟩:∃a,A[j]?=some a∧VR ρ a v:=by
     have hjn:j<A.length:=by rw[v1.length];exact(List.getElem?_eq_some_iff.1 hj).1
     obtain⟨v2',h2,h3⟩:=v1.get (i:=j) (a:=A[j]) (List.getElem?_eq_getElem hjn)
     rw[hj] at h2
     cases h2
     exact⟨_,List.getElem?_eq_getElem hjn,h3⟩
    exact kez hr hs g1 hRO (hL2 j _ l hj2.1 hl) hj2.2
   ·rintro en w' ⟨rfl,w1,w2,w3,w4,w5,w6⟩
    obtain⟨cs2,w7,w8,w9⟩:=w6 cs elem fr q1
    obtain⟨o1,o2⟩:=ho L
    have hp:=kfj v1 (o:=ord L) (fun i hi=>by have:=o2 i hi;omega)
    have hpl:(pick (.slice none 0 0) V (ord L)).length=N:=by rw[jrf];omega
    have hpl2:(pick .nils A (ord L)).length=N:=by rw[jrf];omega
    obtain⟨a1,a2,a3,a4,a5,cs',a6,a7,a8⟩:=setCells_facts lc.blk (pick (.slice none 0 0) V (ord L)) (lc.base+o) w cs elem fr q1
    have hcc:cs2=cs':=by
     apply Array.ext_getElem?
     intro j
     by_cases hj:j<cs.size
     ·rw[w9 j hj,a8 j hj]
     ·rw[Array.getElem?_eq_none (by omega),Array.getElem?_eq_none (by omega)]
    subst hcc
    obtain⟨k1,k2⟩:=hr.write (nx:=nx) (.cells (put (pick .nils A (ord L)) o c) m) lc hs g1 hrx a1 a2 a3 a4 a5 ⟨cs2,elem,fr,a6,q2,by omega,q4,fun i hi=>by
     rw[jfe,a8 _ (by omega)]
     by_cases hc:o≤i∧i<o+ (pick .nils A (ord L)).length
     ·rw[if_pos hc,if_pos (by omega)]
      obtain⟨v2,h2,h3⟩:=hp.get (i:=i-o) (a:=(pick .nils A (ord L))[i-o]) (by rw[List.getElem?_eq_getElem])
      refine⟨_,v2,by rw[List.getElem?_eq_getElem],?_,h3⟩
      rw[show lc.base+i-(lc.base+o)=i-o by omega]
      exact h2
     ·rw[if_neg hc,if_neg (by omega)]
      exact q5 i hi⟩
    have hblk:lc.blk<w.heap.size:=(Array.getElem?_eq_some_iff.1 q1).1
    have q:Quiet (w.setCells lc.blk (lc.base+o) (pick (.slice none 0 0) V (ord L))) w':=⟨w1.trans a1.symm,w2.trans a2.symm,w3.trans a3.symm,by omega,fun x hx=>by
     by_cases e:x=lc.blk
     ·rw[e,w7,a6]
     ·rw[w5 x (by omega) e,a5 x e]⟩
    exact⟨_,rfl,ρ,k2.trans q.step,q.hr k1,by simp[VR,VRs]⟩
 ·rename_i k2
  obtain⟨e2,hk3⟩:=jaf hk2
  rw[jac,decide_eq_true_eq] at e2
  clear hk2
  subst e2
  cases hk3
  simp only[Option.some.injEq,Prod.mk.injEq] at hv
  obtain⟨rfl,rfl,rfl⟩:=hv
  refine⟨Syn.refl _ _ _,fun ρ w args hr hf hro hgl hwf ha=>⟨hfn,?_⟩⟩
  simp only[VRs] at ha
  obtain⟨X,l1,h1,hX,Y,l2,rfl,hY,rfl⟩:=ha
  obtain rfl:args=#[X,Y]:=Array.toList_inj.1 h1
  simp only[VR] at hX hY
  obtain⟨xs,ys,rfl,hxs,hys⟩:=hY
  obtain rfl:xs=#[]:=Array.toList_inj.1 (by simpa[VRs] using hxs)
  obtain rfl:ys=#[]:=Array.toList_inj.1 (by simpa[VRs] using hys)
  subst hX
  refine(c0 _ _ w).mono ?_
  rintro e w' ⟨rfl,rfl⟩
  exact⟨_,rfl,ρ,Step.refl _ _ _ _ _,hr,by simp[VR,VRs]⟩
end W
end Go.Vm
namespace Go.Vm
namespace W
theorem jkz:∀x:List Int,je2 x x=0
 | []=>rfl
 | a::x=>by simp only[je2,Int.lt_irrefl,if_false];exact jkz x
theorem jha:∀x y:List Int,je2 y x= - je2 x y
 | [],[]=>rfl
 | [],_::_=>rfl
 | _::_,[]=>rfl
 | a::x,b::y=>by
   simp only[je2]
   by_cases h1:a<b
   ·rw[if_neg (by omega),if_pos h1,if_pos h1];rfl
   ·by_cases h2:b<a
    ·rw[if_pos h2,if_neg h1,if_pos h2]
    ·rw[if_neg h2,if_neg h1,if_neg h1,if_neg h2];exact jha x y
theorem jnp:∀ {x y:List Int},je2 x y=0→x=y
 | [],[],_=>rfl
 | [],_::_,h=>by simp[je2] at h
 | _::_,[],h=>by simp[je2] at h
 | a::x,b::y,h=>by
   simp only[je2] at h
   by_cases h1:a<b
   ·rw[if_pos h1] at h;omega
   ·by_cases h2:b<a
    ·rw[if_neg h1,if_pos h2] at h;omega
    ·rw[if_neg h1,if_neg h2] at h
     rw[jnp h,show a=b by omega]
theorem jtd:∀ {x y z:List Int},je2 x y<0→je2 y z<0→je2 x z<0
 | [],[],_,h,_=>by simp[je2] at h
 | _::_,[],_,h,_=>by simp[je2] at h
 | [],_::_,[],_,h=>by simp[je2] at h
 | [],_::_,_::_,_,_=>by simp[je2]
 | _::_,_::_,[],_,h=>by simp[je2] at h
 | a::x,b::y,c::z,h,k=>by
   simp only[je2] at h k ⊢
   by_cases h1:a<b
   ·by_cases k1:b<c
    ·rw[if_pos (by omega)];omega
    ·by_cases k2:c<b
     ·rw[if_neg k1,if_pos k2] at k;omega
     ·rw[if_pos (by omega)];omega
   ·by_cases h2:b<a
    ·rw[if_neg h1,if_pos h2] at h;omega
    ·rw[if_neg h1,if_neg h2] at h
     by_cases k1:b<c
     ·rw[if_pos (by omega)];omega
     ·by_cases k2:c<b
      ·rw[if_neg k1,if_pos k2] at k;omega
      ·rw[if_neg k1,if_neg k2] at k
       rw[if_neg (by omega),if_neg (by omega)]
       exact jtd h k
theorem jr9 {x y z:List Int} (h:je2 x y≤0) (k:je2 y z≤0):je2 x z≤0:=by
 by_cases h0:je2 x y=0
 ·rw[jnp h0];exact k
 ·by_cases k0:je2 y z=0
  ·rw[←jnp k0];exact h
  ·exact Int.le_of_lt (jtd (y:=y) (by omega) (by omega))
theorem j0s {x y:List Int} (h:je2 x y≤0) (k:je2 y x≤0):x=y:=by
 rw[jha x y] at k
 exact jnp (by omega)
def kjj (x:List Int):List (List Int)→List (List Int)
 | []=>[x]
 | y::l=>bif decide (je2 x y≤0) then x::y::l else y::kjj x l
def jpk:List (List Int)→List (List Int)
 | []=>[]
 | x::l=>kjj x (jpk l)
theorem jwl (x:List Int):∀l,(kjj x l).Perm (x::l)
 | []=>List.Perm.refl _
 | y::l=>by
   simp only[kjj]
   cases decide (je2 x y≤0) with
   | true=>exact List.Perm.refl _
   | false=>exact((jwl x l).cons y).trans (List.Perm.swap x y l)
theorem jkc:∀l,(jpk l).Perm l
 | []=>List.Perm.refl _
 | x::l=>(jwl x _).trans ((jkc l).cons x)
theorem jwk (x:List Int):∀ {l:List (List Int)},l.Pairwise (fun a b=>je2 a b≤0)→(kjj x l).Pairwise (fun a b=>je2 a b≤0)
 | [],_=>List.pairwise_singleton _ _
 | y::l,h=>by
   simp only[kjj]
   rw[List.pairwise_cons] at h
   cases hc:decide (je2 x y≤0) with
   | true=>
     simp only[cond_true]
     have hc:=of_decide_eq_true hc
     refine List.pairwise_cons.2 ⟨fun a ha=>?_,List.pairwise_cons.2 h⟩
     rcases List.mem_cons.1 ha with rfl | ha
     ·exact hc
     ·exact jr9 hc (h.1 a ha)
   | false=>
     simp only[cond_false]
     have hc:=of_decide_eq_false hc
     refine List.pairwise_cons.2 ⟨fun a ha=>?_,jwk x h.2⟩
     rcases List.mem_cons.1 ((jwl x l).subset ha) with rfl | ha
     ·rw[jha];omega
     ·exact h.1 a ha
theorem jmp:∀l,(jpk l).Pairwise (fun a b=>je2 a b≤0)
 | []=>List.Pairwise.nil
 | x::l=>jwk x (jmp l)
theorem j18:∀ {l m:List (List Int)},l.Pairwise (fun a b=>je2 a b≤0)→m.Pairwise (fun a b=>je2 a b≤0)→l.Perm m→l=m
 | [],m,_,_,h=>(List.Perm.nil_eq h)
 | a::l,[],_,_,h=>by have:=h.length_eq;simp at this
 | a::l,b::m,h1,h2,h=>by
   rw[List.pairwise_cons] at h1 h2
   have e:a=b:=by
    rcases List.mem_cons.1 (h.subset (List.mem_cons_self)) with e | e
    ·exact e
    ·rcases List.mem_cons.1 (h.symm.subset (List.mem_cons_self)) with e2 | e2
     ·exact e2.symm
     ·exact j0s (h1.1 b e2) (h2.1 a e)
   subst e
   rw[j18 h1.2 h2.2 (List.Perm.cons_inv h)]
end W
end Go.Vm
