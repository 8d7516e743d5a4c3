/-
  Told functions that write into a row of ints, or lay a new one: what they leave (slices.Grow, Insert, Replace).
-/
import Derived.Test.YtldgdgacdcenkaaDoorVmWS
import Derived.Test.YtldgdgacdcenkaaDoorVmA5
set_option linter.unusedSimpArgs false
set_option linter.unusedVariables false
set_option linter.unusedSectionVars false
set_option linter.unnecessarySimpa false
namespace Go.Vm
namespace W
open Go Go.RowKit
variable {P:Program} {gl:List Nat} {B:Base}
def SlAt (w:World) (b off n c:Nat) (L:List Int):Prop:=∃cs e fr,w.heap[b]?=some (.cells cs e fr)∧off+c≤cs.size∧(∀q,off≤q→¬(fr.1≤q∧q<fr.2))∧L.length=n∧n≤c∧c≤9223372036854775807∧
 ∀j (h:j<L.length),cs[off+j]?=some (.int .i64 L[j])
def FreshR (w w':World) (N:List Int) (v:Value):Prop:=∃c cs t,v=.slice (some ⟨w.heap.size,0,none⟩) N.length c∧N.length≤c∧c≤9223372036854775807∧w'.heap[w.heap.size]?=some (.cells cs t (0,0))∧c≤cs.size∧
 (∀j (h:j<N.length),cs[j]?=some (.int .i64 N[j]))∧Below w.heap.size w w'
def InPl (w w':World) (b off c:Nat) (N:List Int) (v:Value):Prop:=v=.slice (some ⟨b,off,none⟩) N.length c∧N.length≤c∧w'.os=w.os∧w'.tape=w.tape∧w'.output=w.output∧w'.heap.size=w.heap.size∧(∀x,x≠b→w'.heap[x]?=w.heap[x]?)∧
 ∀cs e fr,w.heap[b]?=some (.cells cs e fr)→∃cs',w'.heap[b]?=some (.cells cs' e fr)∧cs'.size=cs.size∧∀j (h:j<N.length),cs'[off+j]?=some (.int .i64 N[j])
theorem put_ints {N:List Int} {i:Nat} (h:i<N.length):(put (N.map (AV.int .i64)) 0 .e).get i=some (.int .i64 N[i]):=by
 rw[get_put,if_pos (by simpa using h)]
 simp[h]
theorem ends_fresh {ρ:RM} {H H2:Tr Blk} {nx ro:Nat} {w w':World} {N:List Int} {v:Value} (hr:HR ρ H w) (hf:Free ρ nx (nx+1)) (hwf:WF H nx) (hro:ro≤nx)
  (hs:∀b,(H2.get b).isSome→H2.get b=H.get b) (ho:∀b,b<ro→b<nx→H2.get b=H.get b) (hw:FreshR w w' N v):
  Ends ρ H nx ro w (.sl nx 0 N.length none 1) (H2.set nx (.cells (put (N.map (AV.int .i64)) 0 .e) N.length)) (nx+1) v w':=by
 obtain⟨c,cs,t,rfl,h1,h2,h3,h4,h5,hB⟩:=hw
 have q:=Below.quiet hB
 have hn:ρ nx=none:=hf nx (Nat.le_refl _) (by omega)
 have hle:ρ.Le (ρ.upd nx ⟨w.heap.size,0,c⟩):=RM.le_upd hn
 have hother:∀b,b≠nx→(ρ.upd nx ⟨w.heap.size,0,c⟩) b=ρ b:=fun b hb=>by unfold RM.upd;rw[if_neg hb]
 have hsame:(ρ.upd nx ⟨w.heap.size,0,c⟩) nx=some ⟨w.heap.size,0,c⟩:=by unfold RM.upd;rw[if_pos rfl]
 have hr':=q.hr hr
 have hsz:w.heap.size<w'.heap.size:=(Array.getElem?_eq_some_iff.1 h3).1
 refine⟨ρ.upd nx ⟨w.heap.size,0,c⟩,⟨q.os,q.tape,q.output,q.size,by omega,fun b hb=>hother b (by omega),fun x hx _=>q.keep x hx,fun b l' hb1 hb2 hl=>?_,fun b hb=>?_,fun b hb hb2=>?_⟩,⟨fun b k l' hk hl=>?_,fun b b' l' l'' e1 e2 g1 g2 e=>?_⟩,?_⟩
 ·have:b=nx:=by omega
  subst this
  rw[hsame] at hl
  cases hl
  exact .inl ⟨Nat.le_refl _,hsz⟩
 ·by_cases hbn:b=nx
  ·exact .inl ⟨by omega,by omega⟩
  ·rw[Tr.get_set,if_neg hbn] at hb
   rw[hs b hb] at hb
   exact .inr hb
 ·rw[Tr.get_set,if_neg (by omega)]
  exact ho b hb hb2
 ·by_cases hbn:b=nx
  ·subst hbn
   rw[hsame] at hl
   cases hl
   rw[Tr.get_set,if_pos rfl] at hk
   cases hk
   refine⟨cs,t,(0,0),h3,by simpa using h1,h4,fun i _ _=>by simp,fun i hi=>?_⟩
   exact⟨_,_,put_ints hi,by rw[Nat.zero_add];exact h5 i hi,by simp[VR]⟩
  ·rw[Tr.get_set,if_neg hbn] at hk
   rw[hother b hbn] at hl
   have:(H2.get b).isSome:=by rw[hk];rfl
   rw[hs b this] at hk
   exact(hr'.blk b k l' hk hl).mono hle rfl
 ·have lt:∀x l,(H2.get x).isSome→ρ x=some l→l.blk<w.heap.size:=fun x l hx hl=>by
   rw[hs x hx] at hx
   obtain⟨k,hk⟩:=Option.isSome_iff_exists.1 hx
   exact(hr.blk x k l hk hl).lt
  rw[Tr.get_set] at e1 e2
  by_cases a1:b=nx
  ·by_cases a2:b'=nx
   ·exact .inl (by rw[a1,a2])
   ·rw[if_neg a2] at e2
    rw[hother b' a2] at g2
    rw[a1,hsame] at g1
    cases g1
    have:=lt b' l'' e2 g2
    simp only at e
    omega
  ·rw[if_neg a1] at e1
   rw[hother b a1] at g1
   by_cases a2:b'=nx
   ·rw[a2,hsame] at g2
    cases g2
    have:=lt b l' e1 g1
    simp only at e
    omega
   ·rw[if_neg a2] at e2
    rw[hother b' a2] at g2
    exact hr.inj b b' l' l'' (by rw[←hs b e1];exact e1) (by rw[←hs b' e2];exact e2) g1 g2 e
 ·simp only[VR]
  exact⟨_,c,0,hsame,rfl,h1,by omega,.inl rfl,.inr ⟨trivial,by simp,by omega⟩⟩
theorem ends_inpl {ρ:RM} {H:Tr Blk} {nx ro b o k c:Nat} {ct:Tr AV} {lc:Loc} {w w':World} {N:List Int} {v:Value} (hr:HR ρ H w) (hf:Free ρ nx (nx+1)) (hwf:WF H nx) (hro:rx ro≤b)
  (hb:H.get b=some (.cells ct k)) (hl:ρ b=some lc) (hlim:lc.base+o+c≤lc.lim) (hc:c≤9223372036854775807) (hw:InPl w w' lc.blk (lc.base+o) c N v):
  Ends ρ H nx ro w (.sl nx 0 N.length none 1) ((H.del b).set nx (.cells (put (N.map (AV.int .i64)) 0 .e) N.length)) (nx+1) v w':=by
 obtain⟨rfl,h1,w1,w2,w3,w4,w5,w6⟩:=hw
 obtain⟨cs,elem,fr,q1,q2,q3,q4,q5⟩:=hr.blk b _ lc hb hl
 obtain⟨cs',w7,w8,w9⟩:=w6 cs elem fr q1
 obtain⟨hrb,hRO⟩:=le_rx hro
 have hbn:b<nx:=hwf b (by rw[hb];rfl)
 have hn:ρ nx=none:=hf nx (Nat.le_refl _) (by omega)
 have hle:ρ.Le (ρ.upd nx ⟨lc.blk,lc.base+o,lc.base+o+c⟩):=RM.le_upd hn
 have hother:∀x,x≠nx→(ρ.upd nx ⟨lc.blk,lc.base+o,lc.base+o+c⟩) x=ρ x:=fun x hx=>by unfold RM.upd;rw[if_neg hx]
 have hsame:(ρ.upd nx ⟨lc.blk,lc.base+o,lc.base+o+c⟩) nx=some ⟨lc.blk,lc.base+o,lc.base+o+c⟩:=by unfold RM.upd;rw[if_pos rfl]
 have inj1:∀b' l',(H.get b').isSome→ρ b'=some l'→l'.blk=lc.blk→b'=b:=fun b' l' h1 h2 h3=>by
  rcases hr.inj b' b l' lc h1 (by rw[hb];rfl) h2 hl h3 with h4 | h4
  ·exact h4
  ·omega
 have hdel:∀x,((H.del b).get x).isSome→x≠b∧(H.del b).get x=H.get x:=fun x hx=>by
  rw[Tr.get_del] at hx ⊢
  by_cases e:x=b
  ·rw[if_pos e] at hx;cases hx
  ·rw[if_neg e];exact⟨e,rfl⟩
 refine⟨ρ.upd nx ⟨lc.blk,lc.base+o,lc.base+o+c⟩,⟨w1,w2,w3,by omega,by omega,fun x hx=>hother x (by omega),fun x hx hk'=>?_,fun x l' g1 g2 g3=>?_,fun x hx=>?_,fun x g1 g2=>?_⟩,⟨fun x k' l' g1 g2=>?_,fun x y l1 l2 g1 g2 g3 g4 g5=>?_⟩,?_⟩
 ·refine w5 x fun e=>?_
  have:=hk' b lc hl e.symm (by rw[hb];rfl)
  omega
 ·have:x=nx:=by omega
  subst this
  rw[hsame] at g3
  cases g3
  exact .inr ⟨b,lc,hrb,by rw[hb];rfl,hl,rfl⟩
 ·by_cases e:x=nx
  ·exact .inl ⟨by omega,by omega⟩
  ·rw[Tr.get_set,if_neg e] at hx
   exact .inr (by rw[←(hdel x hx).2];exact hx)
 ·rw[Tr.get_set,if_neg (by omega),Tr.get_del,if_neg (by omega)]
 ·by_cases e:x=nx
  ·subst e
   rw[Tr.get_set,if_pos rfl] at g1
   rw[hsame] at g2
   cases g1;cases g2
   refine⟨cs',elem,fr,w7,by simp only;omega,by simp only;omega,fun j j1 _=>q4 j (by simp only at j1;omega) (fun hf=>?_),fun j hj=>⟨_,_,put_ints hj,w9 j hj,by simp[VR]⟩⟩
   rw[ble_dec,decide_eq_false_iff_not] at hf
   omega
  ·rw[Tr.get_set,if_neg e] at g1
   rw[hother x e] at g2
   obtain⟨e2,e3⟩:=hdel x (by rw[g1];rfl)
   rw[e3] at g1
   exact(hr.blk x k' l' g1 g2).mono hle (w5 _ fun e4=>e2 (inj1 x l' (by rw[g1];rfl) g2 e4))
 ·have noother:∀b' l',((H.del b).get b').isSome→ρ b'=some l'→l'.blk≠lc.blk:=fun b' l' h2 h3 h4=>by
   obtain⟨e2,e3⟩:=hdel b' h2
   rw[e3] at h2
   exact e2 (inj1 b' l' h2 h3 h4)
  rw[Tr.get_set] at g1 g2
  by_cases e1:x=nx
  ·by_cases e2:y=nx
   ·exact .inl (by rw[e1,e2])
   ·rw[if_neg e2] at g2
    rw[hother y e2] at g4
    rw[e1,hsame] at g3
    cases g3
    exact absurd g5.symm (noother y l2 g2 g4)
  ·rw[if_neg e1] at g1
   rw[hother x e1] at g3
   by_cases e2:y=nx
   ·rw[e2,hsame] at g4
    cases g4
    exact absurd g5 (noother x l1 g1 g3)
   ·rw[if_neg e2] at g2
    rw[hother y e2] at g4
    exact hr.inj x y l1 l2 (by rw[←(hdel x g1).2];exact g1) (by rw[←(hdel y g2).2];exact g2) g3 g4 g5
 ·simp only[VR]
  exact⟨_,c,_,hsame,rfl,h1,by omega,.inl rfl,.inr ⟨trivial,by simp,by omega⟩⟩
def rdSl (H:Tr Blk) (b o n:Nat):Option (List Int):=match H.get b with
 | some (.cells c k)=>bif(o+n).ble k then rdInts c o n else none
 | _=>none
theorem slAt_of {ρ:RM} {H:Tr Blk} {w:World} {b o n:Nat} {cap:Option Nat} {L:List Int} {v:Value} (hr:HR ρ H w) (h:rdSl H b o n=some L) (hn:0<n) (hb:RO≤b) (hv:VR ρ (.sl b o n cap 1) v):
  ∃lc c ct k,H.get b=some (.cells ct k)∧ρ b=some lc∧v=.slice (some ⟨lc.blk,lc.base+o,none⟩) n c∧SlAt w lc.blk (lc.base+o) n c L∧lc.base+o+c≤lc.lim∧c≤9223372036854775807:=by
 simp only[VR] at hv
 obtain⟨lc,c,off,g1,rfl,g2,_,g3,g4⟩:=hv
 unfold rdSl at h
 split at h<;>try (cases h;done)
 rename_i ct k hk
 obtain⟨h1,h2⟩:=of_bif h
 rw[ble_dec,decide_eq_true_eq] at h1
 obtain⟨hL,hLc⟩:=rdInts_at h2
 obtain⟨cs,e,fr,q1,q2,q3,q4,q5⟩:=hr.blk b _ lc hk g1
 obtain rfl:off=lc.base+o:=by omega
 have hlim:lc.base+o+c≤lc.lim∧c≤9223372036854775807:=by
  rcases g4 with⟨e,h⟩ | ⟨e,h⟩
  ·have:=h.2 hb
   omega
  ·omega
 refine⟨lc,c,ct,k,hk,g1,rfl,⟨cs,e,fr,q1,by omega,fun q hq=>q4 q (by omega) (fun hf=>?_),hL,g2,hlim.2,fun j hj=>?_⟩,hlim.1,hlim.2⟩
 ·rw[ble_dec,decide_eq_false_iff_not] at hf
  omega
 ·obtain⟨a,v,a1,a2,a3⟩:=q5 (o+j) (by omega)
  rw[hLc j hj] at a1
  cases a1
  simp only[VR] at a3
  subst a3
  rw[Nat.add_assoc]
  exact a2
def insL (L:List Int) (i k:Nat) (V:List Int):List Int:=L.take i++V++L.drop k
def insM (ro:Nat) (H:Tr Blk) (nx b o n:Nat) (cap:Option Nat) (i k vb vo m:Nat) (vcap:Option Nat):Out:=
 bif i.ble k&&k.ble n&&(1:Nat).ble n&&n.ble 1000000&&(1:Nat).ble m&&m.ble 1000&&(i.beq k||k.ble (i+m)&& !(k.beq (i+m)))&&(rx ro).ble b&&(rx ro).ble vb&& !(b.beq vb) then
  match rdSl H b o n,rdSl H vb vo m with
  | some L,some V=>some (.sl nx 0 (insL L i k V).length none 1,(H.del b).set nx (.cells (put ((insL L i k V).map (AV.int .i64)) 0 .e) (insL L i k V).length),nx+1)
  | _,_=>none
 else none
def tIns (f:FuncId):Memo:=fun g as=>bif Nat.beq g f then(match as with
 | [.sl b o n cap 1,.int .i64 (.ofNat i),.sl vb vo m vcap 1]=>some fun H nx ro=>insM ro H nx b o n cap i i vb vo m vcap
 | [.nils,.int .i64 (.ofNat 0),.sl vb vo m vcap 1]=>some fun H nx ro=>bif(1:Nat).ble m&&m.ble 1000&&RO.ble vb then(match rdSl H vb vo m with
   | some V=>some (.sl nx 0 V.length none 1,H.set nx (.cells (put (V.map (AV.int .i64)) 0 .e) V.length),nx+1)
   | none=>none) else none
 | _=>none) else none
def tRep (f:FuncId):Memo:=fun g as=>bif Nat.beq g f then(match as with
 | [.sl b o n cap 1,.int .i64 (.ofNat i),.int .i64 (.ofNat k),.sl vb vo m vcap 1]=>some fun H nx ro=>bif i.beq k then none else insM ro H nx b o n cap i k vb vo m vcap
 | _=>none) else none
def tGrow (f:FuncId):Memo:=fun g as=>bif Nat.beq g f then(match as with
 | [.nils,.int .i64 (.ofNat 0)]=>some fun H nx _=>some (.nils,H,nx)
 | [.nils,.int .i64 (.ofNat (n+1))]=>bif n.ble 1000000 then some fun H nx _=>some (.sl nx 0 0 none 1,H.set nx (.cells .e 0),nx+1) else none
 | _=>none) else none
theorem insM_syn {ro:Nat} {H:Tr Blk} {nx b o n i k vb vo m:Nat} {cap vcap:Option Nat} {v:AV} {H':Tr Blk} {nx':Nat} (h:insM ro H nx b o n cap i k vb vo m vcap=some (v,H',nx')):Syn H nx ro H' nx':=by
 unfold insM at h
 obtain⟨hc,h⟩:=of_bif h
 split at h<;>try (cases h;done)
 simp only[Option.some.injEq,Prod.mk.injEq] at h
 obtain⟨rfl,rfl,rfl⟩:=h
 have hro:rx ro≤b:=by
  simp only[Bool.and_eq_true,ble_dec,decide_eq_true_eq] at hc
  exact hc.1.1.2
 have:=(le_rx hro).1
 refine⟨by omega,fun x hx=>?_,fun x h1 h2=>?_⟩
 ·by_cases e:x=nx
  ·exact .inl ⟨by omega,by omega⟩
  ·rw[Tr.get_set,if_neg e,Tr.get_del] at hx
   split at hx
   ·cases hx
   ·exact .inr hx
 ·rw[Tr.get_set,if_neg (by omega),Tr.get_del,if_neg (by omega)]
theorem insM_ok {f:FuncId} {mk:Value→Value→Array Value} {ro:Nat} {H:Tr Blk} {nx b o n i k vb vo m:Nat} {cap vcap:Option Nat} {v:AV} {H':Tr Blk} {nx':Nat} (h:insM ro H nx b o n cap i k vb vo m vcap=some (v,H',nx'))
  (c1:∀(B off n c VB voff m vc:Nat) (L V:List Int) (w:World) (_:SlAt w B off n c L) (_:SlAt w VB voff m vc V) (_:B≠VB) (_:i≤k) (_:k≤n) (_:0<n) (_:0<m) (_:n≤1000000) (_:m≤1000) (_:i=k∨k<i+m),
    Calls P f (mk (.slice (some ⟨B,off,none⟩) n c) (.slice (some ⟨VB,voff,none⟩) m vc)) w fun e w'=>∃v,e=.returned v∧(InPl w w' B off c (insL L i k V) v∨FreshR w w' (insL L i k V) v))
  {ρ:RM} {w:World} {X Y:Value} (hr:HR ρ H w) (hf:Free ρ nx nx') (hro:ro≤nx) (hwf:WF H nx) (hX:VR ρ (.sl b o n cap 1) X) (hY:VR ρ (.sl vb vo m vcap 1) Y):
  Calls P f (mk X Y) w (fun en w'=>∃v',en=.returned v'∧Ends ρ H nx ro w v H' nx' v' w'):=by
 unfold insM at h
 obtain⟨hc,h⟩:=of_bif h
 split at h<;>try (cases h;done)
 rename_i L V hL hV
 simp only[Option.some.injEq,Prod.mk.injEq] at h
 obtain⟨rfl,rfl,rfl⟩:=h
 simp only[Bool.and_eq_true,Bool.or_eq_true,ble_dec,beq_dec,decide_eq_true_eq,Bool.not_eq_true',decide_eq_false_iff_not] at hc
 obtain⟨⟨⟨⟨⟨⟨⟨⟨⟨d1,d2⟩,d3⟩,d4⟩,d5⟩,d6⟩,d7⟩,d8⟩,d9⟩,d10⟩:=hc
 obtain⟨lc,c,ct,kk,e1,e2,rfl,e4,e5,e6⟩:=slAt_of hr hL (by omega) (le_rx d8).2 hX
 obtain⟨lv,vc,ct2,kk2,f1,f2,rfl,f4,f5,f6⟩:=slAt_of hr hV (by omega) (le_rx d9).2 hY
 have hne:lc.blk≠lv.blk:=fun e=>by
  rcases hr.inj b vb lc lv (by rw[e1];rfl) (by rw[f1];rfl) e2 f2 e with h | h
  ·exact d10 h
  ·have:=(le_rx d8).2
   omega
 refine(c1 lc.blk (lc.base+o) n c lv.blk (lv.base+vo) m vc L V w e4 f4 hne d1 d2 (by omega) (by omega) d4 d6 (by omega)).mono ?_
 rintro e w' ⟨v,rfl,hw | hw⟩
 ·exact⟨v,rfl,ends_inpl hr hf hwf d8 e1 e2 e5 e6 hw⟩
 ·refine⟨v,rfl,ends_fresh hr hf hwf hro (fun x hx=>?_) (fun x h1 h2=>?_) hw⟩
  ·rw[Tr.get_del] at hx ⊢
   split at hx
   ·cases hx
   ·rename_i e;rw[if_neg e]
  ·rw[Tr.get_del,if_neg (by have:=(le_rx d8).1;omega)]
abbrev RowC (P:Program) (f:FuncId) (i k:Nat) (mk:Value→Value→Array Value):Prop:=
 ∀(B off n c VB voff m vc:Nat) (L V:List Int) (w:World) (_:SlAt w B off n c L) (_:SlAt w VB voff m vc V) (_:B≠VB) (_:i≤k) (_:k≤n) (_:0<n) (_:0<m) (_:n≤1000000) (_:m≤1000) (_:i=k∨k<i+m),
  Calls P f (mk (.slice (some ⟨B,off,none⟩) n c) (.slice (some ⟨VB,voff,none⟩) m vc)) w fun e w'=>∃v,e=.returned v∧(InPl w w' B off c (insL L i k V) v∨FreshR w w' (insL L i k V) v)
theorem tIns_ok {f:FuncId} (hfn:FnOK P f) (c1:∀i,RowC P f i i fun x y=>#[x,.int .i64 i,y])
  (c0:∀(VB voff m vc:Nat) (V:List Int) (w:World) (_:SlAt w VB voff m vc V) (_:0<m) (_:m≤1000),Calls P f #[.slice none 0 0,.int .i64 (0:Nat),.slice (some ⟨VB,voff,none⟩) m vc] w fun e w'=>∃v,e=.returned v∧FreshR w w' V v):MemoOK P gl B (tIns f):=by
 intro g as k hk H nx v H' nx' ro hv hb
 unfold tIns at hk
 obtain⟨e,hk2⟩:=of_bif hk
 rw[beq_dec,decide_eq_true_eq] at e
 clear hk
 subst e
 split at hk2<;>try (cases hk2;done)
 ·rename_i b o n cap i vb vo m vcap
  cases hk2
  refine⟨insM_syn hv,fun ρ w args hr hf hro hgl hwf ha=>⟨hfn,?_⟩⟩
  simp only[VRs] at ha
  obtain⟨X,l1,h1,hX,y,l2,rfl,hy,Y,l3,rfl,hY,rfl⟩:=ha
  obtain rfl:args=#[X,y,Y]:=Array.toList_inj.1 h1
  simp only[VR] at hy
  subst hy
  exact insM_ok hv (mk:=fun x y=>#[x,.int .i64 i,y]) (c1 i) hr hf hro hwf hX hY
 ·rename_i vb vo m vcap
  cases hk2
  obtain⟨hc,hv⟩:=of_bif hv
  split at hv<;>try (cases hv;done)
  rename_i V hV
  simp only[Option.some.injEq,Prod.mk.injEq] at hv
  obtain⟨rfl,rfl,rfl⟩:=hv
  simp only[Bool.and_eq_true,ble_dec,decide_eq_true_eq] at hc
  refine⟨Syn.new _ _ _ _,fun ρ w args hr hf hro hgl hwf ha=>⟨hfn,?_⟩⟩
  simp only[VRs] at ha
  obtain⟨X,l1,h1,hX,y,l2,rfl,hy,Y,l3,rfl,hY,rfl⟩:=ha
  obtain rfl:args=#[X,y,Y]:=Array.toList_inj.1 h1
  simp only[VR] at hX hy
  subst hX;subst hy
  obtain⟨lv,vc,ct2,kk2,f1,f2,rfl,f4,f5,f6⟩:=slAt_of hr hV (by omega) hc.2 hY
  refine(c0 lv.blk (lv.base+vo) m vc V w f4 (by omega) hc.1.2).mono ?_
  rintro e w' ⟨v,rfl,hw⟩
  exact⟨v,rfl,ends_fresh hr hf hwf hro (fun _ _=>rfl) (fun _ _ _=>rfl) hw⟩
theorem tRep_ok {f:FuncId} (hfn:FnOK P f) (c1:∀i k,i≠k→RowC P f i k fun x y=>#[x,.int .i64 i,.int .i64 k,y]):MemoOK P gl B (tRep f):=by
 intro g as kk hk H nx v H' nx' ro hv hb
 unfold tRep at hk
 obtain⟨e,hk2⟩:=of_bif hk
 rw[beq_dec,decide_eq_true_eq] at e
 clear hk
 subst e
 split at hk2<;>try (cases hk2;done)
 rename_i b o n cap i k vb vo m vcap
 cases hk2
 obtain⟨hne,hv⟩:=of_bif' hv
 rw[beq_dec,decide_eq_false_iff_not] at hne
 refine⟨insM_syn hv,fun ρ w args hr hf hro hgl hwf ha=>⟨hfn,?_⟩⟩
 simp only[VRs] at ha
 obtain⟨X,l1,h1,hX,y,l2,rfl,hy,y2,l4,rfl,hy2,Y,l3,rfl,hY,rfl⟩:=ha
 obtain rfl:args=#[X,y,y2,Y]:=Array.toList_inj.1 h1
 simp only[VR] at hy hy2
 subst hy;subst hy2
 exact insM_ok hv (mk:=fun x y=>#[x,.int .i64 i,.int .i64 k,y]) (c1 i k hne) hr hf hro hwf hX hY
theorem tGrow_ok {f:FuncId} (hfn:FnOK P f) (c0:∀(w:World),Calls P f #[.slice none 0 0,.int .i64 (0:Nat)] w fun e w'=>e=.returned (.slice none 0 0)∧w'=w)
  (c1:∀(n:Nat) (w:World) (_:0<n) (_:n≤1000001),Calls P f #[.slice none 0 0,.int .i64 n] w fun e w'=>∃v,e=.returned v∧FreshR w w' [] v):MemoOK P gl B (tGrow f):=by
 intro g as k hk H nx v H' nx' ro hv hb
 unfold tGrow at hk
 obtain⟨e,hk2⟩:=of_bif hk
 rw[beq_dec,decide_eq_true_eq] at e
 clear hk
 subst e
 split at hk2<;>try (cases hk2;done)
 ·cases hk2
  simp only[Option.some.injEq,Prod.mk.injEq] at hv
  obtain⟨rfl,rfl,rfl⟩:=hv
  refine⟨Syn.refl _ _ _,fun ρ w args hr hf hro hgl hwf ha=>⟨hfn,?_⟩⟩
  simp only[VRs] at ha
  obtain⟨X,l1,h1,hX,y,l2,rfl,hy,rfl⟩:=ha
  obtain rfl:args=#[X,y]:=Array.toList_inj.1 h1
  simp only[VR] at hX hy
  subst hX;subst hy
  refine(c0 w).mono ?_
  rintro e w' ⟨rfl,rfl⟩
  exact⟨_,rfl,ρ,Step.refl _ _ _ _ _,hr,by simp[VR]⟩
 ·rename_i n
  obtain⟨hn,hk2⟩:=of_bif hk2
  rw[ble_dec,decide_eq_true_eq] at hn
  cases hk2
  simp only[Option.some.injEq,Prod.mk.injEq] at hv
  obtain⟨rfl,rfl,rfl⟩:=hv
  refine⟨Syn.new _ _ _ _,fun ρ w args hr hf hro hgl hwf ha=>⟨hfn,?_⟩⟩
  simp only[VRs] at ha
  obtain⟨X,l1,h1,hX,y,l2,rfl,hy,rfl⟩:=ha
  obtain rfl:args=#[X,y]:=Array.toList_inj.1 h1
  simp only[VR] at hX hy
  subst hX;subst hy
  refine(c1 (n+1) w (by omega) (by omega)).mono ?_
  rintro e w' ⟨v,rfl,hw⟩
  exact⟨v,rfl,ends_fresh hr hf hwf hro (fun _ _=>rfl) (fun _ _ _=>rfl) hw⟩
end W
end Go.Vm
