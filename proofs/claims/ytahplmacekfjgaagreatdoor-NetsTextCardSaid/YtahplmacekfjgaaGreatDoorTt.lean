/-
  A jkm function: nets.Text.
  The extraction: nets.Text, jkm.
  A jkm function: strings.SplitAfter.
  The extraction: strings.SplitAfter, jkm.
-/
import Derived.Test.YtahplmacekfjgaaGreatDoorNOf
set_option linter.unusedSimpArgs false
set_option linter.unusedVariables false
set_option linter.unusedSectionVars false
set_option linter.unnecessarySimpa false
namespace Go.Vm
namespace W
open Go Go.RowKit Go.Vm.X
variable {P:Program} {gl:List Nat} {B:Base}
def tl5 (xs:List ByteArray):List UInt8:=Lib.join (xs.map (·.data.toList)) [32]++[10]
def tlS (it:Int→ByteArray) (s:SqT):List UInt8:=tl5 [⟨#[115,113,117,97,114,101]⟩,it s.1,it s.2]
def tlH (it:Int→ByteArray) (g:HgT):List UInt8:=tl5 [⟨#[104,105,110,103,101]⟩,it g.1.1,it g.1.2,bif g.2.1 then⟨#[117,112]⟩ else⟨#[114,105,103,104,116]⟩,it g.2.2]
def tlT (it:Int→ByteArray) (S:List SqT) (H:List HgT):List UInt8:=S.flatMap (tlS it)++H.flatMap (tlH it)
def jp4 (S:List SqT) (H:List HgT):List Int:=S.flatMap (fun s=>[s.1,s.2])++H.flatMap fun g=>[g.1.1,g.1.2,g.2.2]
def itB (it:Int→Option (List Nat)) (x:Int):ByteArray:=match it x with | some s=>bif s.length.ble 100 then mkB s else⟨#[]⟩ | none=>⟨#[]⟩
def okI (it:Int→Option (List Nat)) (L:List Int):Bool:=L.all fun x=>match it x with | some s=>s.length.ble 100 | none=>false
def kfc (S:List SqT) (H:List HgT):Bool:=S.length.ble 1000&&H.length.ble 1000&&H.all fun g=>decide (-1000≤g.2.2∧g.2.2≤1000)
def khc (w:World) (b o:Nat) (H:List HgT):Prop:=∀j (h:j<H.length),w.cell? ⟨b,o+j*4,none⟩=some (.int .i64 H[j].1.1)∧w.cell? ⟨b,o+j*4+1,none⟩=some (.int .i64 H[j].1.2)∧w.cell? ⟨b,o+j*4+2,none⟩=some (.bool H[j].2.1)∧w.cell? ⟨b,o+j*4+3,none⟩=some (.int .i8 H[j].2.2)
def itM (call:FuncId→List AV→Tr Blk→Nat→Nat→Out) (fI:FuncId) (H:Tr Blk) (nx:Nat) (x:Int):Option (List Nat×Nat):=match call fI [.int .i64 x] H nx nx with
 | some (.str s,_,n)=>some (s,n)
 | _=>none
def kh4 (it:Int→Option (List Nat×Nat)) (L:List Int) (n:Nat):Nat:=L.foldl (fun m x=>match it x with | some (_,k)=>max m k | none=>m) n
theorem jzm (it:Int→Option (List Nat×Nat)):∀(L:List Int) (n:Nat),n≤kh4 it L n∧∀x∈L,∀s k,it x=some (s,k)→k≤kh4 it L n
 | [],n=>⟨Nat.le_refl _,fun x h=>by cases h⟩
 | y::L,n=>by
   obtain⟨h1,h2⟩:=jzm it L (match it y with | some (_,k)=>max n k | none=>n)
   refine⟨Nat.le_trans ?_ h1,fun x hx s k e=>?_⟩
   ·split
    ·omega
    ·exact Nat.le_refl _
   ·rcases List.mem_cons.1 hx with rfl | hx
    ·refine Nat.le_trans ?_ h1
     rw[e]
     exact Nat.le_max_right _ _
    ·exact h2 x hx s k e
def kh6 (H:Tr Blk):AV→Option (List SqT)
 | .sl b o n _ 2=>match H.get b with
   | some (.cells c m)=>bif(o+n*2).ble m&& !(n.beq 0) then rdS c o n else none
   | _=>none
 | _=>none
def kh7 (H:Tr Blk):AV→Option (List HgT)
 | .nils=>some []
 | .sl b o n _ 4=>match H.get b with
   | some (.cells c m)=>bif(o+n*4).ble m then rdG c o n else none
   | _=>none
 | _=>none
def jka (call:FuncId→List AV→Tr Blk→Nat→Nat→Out) (fC fI:FuncId) (sv hv:AV) (H:Tr Blk) (nx:Nat):Out:=match call fC [.agg [sv,hv]] H nx nx with
 | some (.int .i64 c,_,n1)=>bif decide (c=0) then(match kh6 H sv,kh7 H hv with
   | some S,some G=>bif kfc S G&&okI (fun x=>(itM call fI H nx x).map (·.1)) (jp4 S G) then some (.str ((tlT (itB fun x=>(itM call fI H nx x).map (·.1)) S G).map UInt8.toNat),H,kh4 (itM call fI H nx) (jp4 S G) n1) else none
   | _,_=>none) else some (.str [],H,n1)
 | _=>none
def j3h (call:FuncId→List AV→Tr Blk→Nat→Nat→Out) (f fC fI:FuncId):jky:=fun g az=>bif Nat.beq g f then(match az with
 | [.agg [sv,hv]]=>some fun H nx _=>jka call fC fI sv hv H nx
 | _=>none) else none
theorem kbz {ρ:RM} {H:Tr Blk} {W:World} {a:AV} {v:Value} {S:List SqT} (hr:HR ρ H W) (hv:VR ρ a v) (h:kh6 H a=some S):∃sb so sc,v=.slice (some ⟨sb,so,none⟩) S.length sc∧j8r W sb so S:=by
 unfold kh6 at h
 split at h<;>try (cases h;done)
 rename_i b o n cp
 split at h<;>try (cases h;done)
 rename_i c m hb
 obtain⟨hc,h⟩:=jaf h
 simp only[Bool.and_eq_true,jab,jaa,decide_eq_true_eq,Bool.not_eq_true',decide_eq_false_iff_not] at hc
 simp only[VR] at hv
 obtain⟨l,cc,off,q1,rfl,q3,_,q5,_⟩:=hv
 obtain⟨hl,hat⟩:=j50 h
 obtain⟨cs,el,fr,r1,_,_,_,r5⟩:=hr.blk b _ l hb q1
 refine⟨l.blk,off,cc,by rw[hl],fun j hj=>?_⟩
 have ho:off=l.base+o:=by rcases q5 with h | h<;>omega
 obtain⟨a1,a2⟩:=hat j hj
 have e1:=r5 (o+j*2) (by omega)
 have e2:=r5 (o+j*2+1) (by omega)
 rw[a1] at e1
 rw[a2] at e2
 obtain⟨_,v1,g1,g2,g3⟩:=e1
 obtain⟨_,v2,g4,g5,g6⟩:=e2
 cases g1
 cases g4
 simp only[VR] at g3 g6
 subst g3 g6
 have cell:∀i,W.cell? ⟨l.blk,i,none⟩=cs[i]?:=fun i=>by simp only[World.cell?,r1,Option.isSome_none,Bool.false_eq_true,if_false]
 rw[cell,cell,ho]
 exact⟨by rw[Nat.add_assoc];exact g2,by rw[show l.base+o+j*2+1=l.base+ (o+j*2+1) by omega];exact g5⟩
theorem kb1 {ρ:RM} {H:Tr Blk} {W:World} {a:AV} {v:Value} {G:List HgT} (hr:HR ρ H W) (hv:VR ρ a v) (h:kh7 H a=some G):∃ao hb ho hc,v=.slice ao G.length hc∧(0<G.length→ao=some ⟨hb,ho,none⟩)∧khc W hb ho G:=by
 unfold kh7 at h
 split at h<;>try (cases h;done)
 ·cases h
  simp only[VR] at hv
  exact⟨none,0,0,0,hv,fun h=>by simp at h,fun j hj=>by simp at hj⟩
 rename_i b o n cp
 split at h<;>try (cases h;done)
 rename_i c m hb
 obtain⟨hc,h⟩:=jaf h
 simp only[jab,decide_eq_true_eq] at hc
 simp only[VR] at hv
 obtain⟨l,cc,off,q1,rfl,q3,_,q5,_⟩:=hv
 obtain⟨hl,hat⟩:=j53 h
 obtain⟨cs,el,fr,r1,_,_,_,r5⟩:=hr.blk b _ l hb q1
 refine⟨some ⟨l.blk,off,none⟩,l.blk,off,cc,by rw[hl],fun _=>rfl,fun j hj=>?_⟩
 have ho:off=l.base+o:=by rcases q5 with h | h<;>omega
 have cell:∀i,W.cell? ⟨l.blk,i,none⟩=cs[i]?:=fun i=>by simp only[World.cell?,r1,Option.isSome_none,Bool.false_eq_true,if_false]
 have key:∀k,k<4→W.cell? ⟨l.blk,off+j*4+k,none⟩=(j33 G[j])[k]?:=fun k hk=>by
  obtain⟨a,v,a1,a2,a3⟩:=r5 (o+j*4+k) (by omega)
  rw[hat j hj k hk] at a1
  rw[kas hk ⟨a,a1,a3⟩,cell,ho,←a2]
  congr 1
  omega
 exact⟨key 0 (by omega),key 1 (by omega),key 2 (by omega),key 3 (by omega)⟩
theorem j83 (s:List Nat):(mkB s).size=s.length:=by show(mkB s).data.size=_;simp[mkB,u8]
theorem j9c (it:Int→Option (List Nat)) (x:Int):(itB it x).size≤100:=by
 unfold itB
 split
 ·rename_i s _
  cases h:s.length.ble 100
  ·exact Nat.zero_le _
  ·rw[jab,decide_eq_true_eq] at h
   rw[cond_true,j83]
   exact h
 ·exact Nat.zero_le _
theorem jjv {S:List SqT} {H:List HgT} {x:Int} (h:(∃s∈S,x=s.1∨x=s.2)∨∃g∈H,x=g.1.1∨x=g.1.2∨x=g.2.2):x∈jp4 S H:=by
 unfold jp4
 rw[List.mem_append,List.mem_flatMap,List.mem_flatMap]
 rcases h with⟨s,hs,h⟩ | ⟨g,hg,h⟩
 ·exact .inl ⟨s,hs,by simpa using h⟩
 ·exact .inr ⟨g,hg,by simpa using h⟩
theorem jp7 {call:FuncId→List AV→Tr Blk→Nat→Nat→Out} (hcall:ji2 P gl call) {f:FuncId} {az:List AV} {H H':Tr Blk} {nx nx':Nat} {v:AV} (h:call f az H nx nx=some (v,H',nx')) {ρ:RM} {w w':World} {args:Array Value}
  (hr:HR ρ H w) (hf:Free ρ nx nx') (hgl:GLok gl ρ) (hwf:WF H nx) (ha:VRs ρ az args.toList) (hB:Below w.heap.size w w'):
  Calls P f args w' fun e w''=>(∃ρ' v',e=.returned v'∧VR ρ' v v')∧Below w'.heap.size w' w'':=by
 refine((hcall _ _ _ _ _ _ _ _ h).2 ρ w' args ((Below.quiet hB).hr hr) hf (Nat.le_refl _) hgl hwf ha).2.mono ?_
 rintro en w1 ⟨v',rfl,ρ',st,hr',hv'⟩
 exact⟨⟨ρ',v',rfl,hv'⟩,st.os,st.tape,st.output,st.size,fun y hy=>st.keep y hy (fun b l _ _ hb=>hwf b hb)⟩
theorem jyh {ρ:RM} {H:Tr Blk} {nx nx' ro:Nat} {w w':World} {v:AV} {v':Value} (q:Quiet w w') (hr:HR ρ H w) (hn:nx≤nx') (hf:Free ρ nx nx') (hv:VR ρ v v'):Ends ρ H nx ro w v H nx' v' w':=
 ⟨ρ,⟨q.os,q.tape,q.output,q.size,hn,fun _ _=>rfl,fun x hx _=>q.keep x hx,fun b l h h' e=>(by rw[hf b h h'] at e;cases e),fun _ h=>.inr h,fun _ _ _=>rfl⟩,q.hr hr,hv⟩
theorem j8k {call:FuncId→List AV→Tr Blk→Nat→Nat→Out} {f fC fI:FuncId} (hcall:ji2 P gl call) (hfn:ka6 P f)
  (c1:∀(it:Int→ByteArray) (S:List SqT) (H:List HgT) (sb so sc hb ho hc:Nat) (ao:Option Addr) (w:World) (_:j8r w sb so S) (_:khc w hb ho H) (_:0<H.length→ao=some ⟨hb,ho,none⟩) (_:S.length≤1000∧H.length≤1000)
    (_:∀x,(it x).size≤100) (_:∀g∈H,∀bd,g.2.2=bd→IntKind.i64.wrap bd=bd)
    (_:∀w',Below w.heap.size w w'→Calls P fC #[.agg #[.slice (some ⟨sb,so,none⟩) S.length sc,.slice ao H.length hc]] w' fun e w''=>e=.returned (.int .i64 0)∧Below w'.heap.size w' w'')
    (_:∀x,((∃s∈S,x=s.1∨x=s.2)∨∃g∈H,x=g.1.1∨x=g.1.2∨x=g.2.2)→∀w',Below w.heap.size w w'→Calls P fI #[.int .i64 x] w' fun e w''=>e=.returned (.string (it x))∧Below w'.heap.size w' w''),
    Calls P f #[.agg #[.slice (some ⟨sb,so,none⟩) S.length sc,.slice ao H.length hc]] w fun e w'=>e=.returned (.string ⟨(tlT it S H).toArray⟩)∧Below w.heap.size w w')
  (c0:∀(sv hv:Value) (c:Int) (w:World) (_:c≠0) (_:∀w',Below w.heap.size w w'→Calls P fC #[.agg #[sv,hv]] w' fun e w''=>e=.returned (.int .i64 c)∧Below w'.heap.size w' w''),
    Calls P f #[.agg #[sv,hv]] w fun e w'=>e=.returned (.string ⟨#[]⟩)∧Below w.heap.size w w'):
  jgm P gl B (j3h call f fC fI):=by
 intro g az k hk H nx v H' nx' ro hv hb
 unfold j3h at hk
 obtain⟨e,hk2⟩:=jaf hk
 rw[jaa,decide_eq_true_eq] at e
 clear hk
 subst e
 split at hk2<;>try (cases hk2;done)
 rename_i sv hv2
 cases hk2
 replace hv:jka call fC fI sv hv2 H nx=some (v,H',nx'):=hv
 unfold jka at hv
 split at hv<;>try (cases hv;done)
 rename_i c Hc n1 hc
 have up1:=(hcall _ _ _ _ _ _ _ _ hc).1
 cases h0:decide (c=0) with
 | false=>
   rw[h0,cond_false] at hv
   simp only[Option.some.injEq,Prod.mk.injEq] at hv
   obtain⟨rfl,rfl,rfl⟩:=hv
   refine⟨⟨up1,fun _ h=>.inr h,fun _ _ _=>rfl⟩,fun ρ w args hr hf hro hgl hwf ha=>⟨hfn,?_⟩⟩
   have ha0:=ha
   simp only[VRs,VR] at ha
   obtain⟨v,vs,h1,⟨cs2,rfl,xv,vs2,h2,hx,yv,vs3,rfl,hy,rfl⟩,rfl⟩:=ha
   obtain rfl:args=#[.agg cs2]:=Array.toList_inj.1 h1
   obtain rfl:cs2=#[xv,yv]:=Array.toList_inj.1 h2
   refine(c0 xv yv c w (by simpa using h0) fun w' hB=>(jp7 hcall hc hr hf hgl hwf ha0 hB).mono ?_).mono ?_
   ·rintro e w2 ⟨⟨ρ',v',rfl,hv'⟩,hB2⟩
    simp only[VR] at hv'
    exact⟨by rw[hv'],hB2⟩
   ·rintro e w2 ⟨rfl,hB2⟩
    exact⟨_,rfl,jyh (Below.quiet hB2) hr up1 hf (by simp only[VR];exact⟨⟨#[]⟩,rfl,rfl⟩)⟩
 | true=>
   rw[h0,cond_true] at hv
   rw[decide_eq_true_eq] at h0
   subst h0
   split at hv<;>try (cases hv;done)
   rename_i S G hS hG
   obtain⟨hok,hv⟩:=jaf hv
   simp only[Option.some.injEq,Prod.mk.injEq] at hv
   obtain⟨rfl,rfl,rfl⟩:=hv
   simp only[Bool.and_eq_true] at hok
   obtain⟨hok,hoi⟩:=hok
   obtain⟨t1,t2⟩:=jzm (itM call fI H nx) (jp4 S G) n1
   refine⟨⟨Nat.le_trans up1 t1,fun _ h=>.inr h,fun _ _ _=>rfl⟩,fun ρ w args hr hf hro hgl hwf ha=>⟨hfn,?_⟩⟩
   have ha0:=ha
   simp only[VRs] at ha
   obtain⟨v,vs,h1,hagg,rfl⟩:=ha
   simp only[VR,VRs] at hagg
   obtain⟨cs2,rfl,xv,vs2,h2,hx,yv,vs3,rfl,hy,rfl⟩:=hagg
   obtain rfl:args=#[.agg cs2]:=Array.toList_inj.1 h1
   obtain rfl:cs2=#[xv,yv]:=Array.toList_inj.1 h2
   obtain⟨sb,so,sc,rfl,hsq⟩:=kbz hr hx hS
   obtain⟨ao,hb,ho,hcp,rfl,hao,hhg⟩:=kb1 hr hy hG
   unfold kfc at hok
   simp only[Bool.and_eq_true,jab,decide_eq_true_eq,List.all_eq_true] at hok
   obtain⟨⟨k1,k2⟩,k3⟩:=hok
   refine(c1 (itB fun x=>(itM call fI H nx x).map (·.1)) S G sb so sc hb ho hcp ao w hsq hhg hao ⟨k1,k2⟩ (j9c _) (fun g hg bd e=>?_) (fun w' hB=>(jp7 hcall hc hr (hf.left t1) hgl hwf ha0 hB).mono ?_) (fun x hx w' hB=>?_)).mono ?_
   ·subst e
    have:=k3 g hg
    simp[IntKind.wrap,IntKind.bits,IntKind.signed]
    omega
   ·rintro e w2 ⟨⟨ρ',v',rfl,hv'⟩,hB2⟩
    simp only[VR] at hv'
    exact⟨by rw[hv'],hB2⟩
   ·have hmem:=jjv hx
    have hxo:=List.all_eq_true.1 hoi x hmem
    simp only at hxo
    cases hi:itM call fI H nx x with
    | none=>rw[hi] at hxo;cases hxo
    | some p=>
      obtain⟨s,n2⟩:=p
      have t3:=t2 x hmem s n2 hi
      rw[hi] at hxo
      simp only[Option.map_some] at hxo
      have hi0:=hi
      unfold itM at hi
      split at hi<;>try (cases hi;done)
      rename_i hcI
      cases hi
      refine(jp7 hcall hcI hr (hf.left t3) hgl hwf (by simp only[VRs,VR];exact⟨_,_,rfl,rfl,rfl⟩) hB).mono ?_
      rintro e w2 ⟨⟨ρ',v',rfl,hv'⟩,hB2⟩
      simp only[VR] at hv'
      obtain⟨bs,rfl,hbs⟩:=hv'
      refine⟨?_,hB2⟩
      have e1:itB (fun x=>(itM call fI H nx x).map (·.1)) x=mkB s:=by
       unfold itB
       simp only[hi0,Option.map_some,hxo,cond_true]
      rw[e1]
      have:=jw5 hbs
      unfold mkB
      rw[←this]
   ·rintro e w2 ⟨rfl,hB2⟩
    exact⟨_,rfl,jyh (Below.quiet hB2) hr (Nat.le_trans up1 t1) hf (by simp only[VR];exact⟨_,rfl,rfl⟩)⟩
end W
end Go.Vm
namespace Go.Vm
namespace X
open W
variable {B:Base} {memo:jky} {prog:Tr CFn} {ro:Nat} {O:List Ent} {H:Tr Blk} {nx:Nat} {F:jai}
abbrev tNT:Ty:=.prod (.sl tSQ) (.sl tHG)
def j3f (runC:jho [.d tNT]→Option Int) (runI:Int→Option (List Nat)) (a:jho [.d tNT]):Option (List Nat):=
 (runC a).bind fun c=>bif decide (c=0) then(bif kfc a.1 a.2&&okI runI (jp4 a.1 a.2)&& !(List.length (α:=SqT) a.1).beq 0 then some ((tlT (itB runI) a.1 a.2).map UInt8.toNat) else none) else some []
theorem j46 {it it':Int→ByteArray} {S:List SqT} {G:List HgT} (h:∀x∈jp4 S G,it x=it' x):tlT it S G=tlT it' S G:=by
 unfold tlT
 have cg:∀ {α:Type} (L:List α) (f f':α→List UInt8),(∀x∈L,f x=f' x)→L.flatMap f=L.flatMap f':=fun L f f' h=>by
  induction L with
  | nil=>rfl
  | cons x L ih=>rw[List.flatMap_cons,List.flatMap_cons,h x (List.mem_cons_self ..),ih fun y hy=>h y (List.mem_cons_of_mem _ hy)]
 refine congr (congrArg _ ?_) ?_
 ·refine cg _ _ _ fun s hs=>?_
  unfold tlS
  rw[h s.1 (jjv (.inl ⟨s,hs,.inl rfl⟩)),h s.2 (jjv (.inl ⟨s,hs,.inr rfl⟩))]
 ·refine cg _ _ _ fun g hg=>?_
  unfold tlH
  rw[h g.1.1 (jjv (.inr ⟨g,hg,.inl rfl⟩)),h g.1.2 (jjv (.inr ⟨g,hg,.inr (.inl rfl)⟩)),h g.2.2 (jjv (.inr ⟨g,hg,.inr (.inr rfl)⟩))]
theorem kby {A:jai} (hk:HK B ro O H nx) (hA:∀x∈A,Has O x.1 x.2∨jjc B x) {L:List SqT} {v:AV} (h:SlR A 2 (jcv (jbo A tSQ)) L v) (hne:(List.length (α:=SqT) L).beq 0=false):kh6 H v=some L:=by
 rcases h with⟨rfl,_⟩ | ⟨b,o,cap,l,rfl,hb,_,hl,hr⟩
 ·cases hne
 ·obtain⟨c,h1,h2⟩:=j7a hk hA hb
  have a4:=jjn (f:=sqA) (fun x l h=>j06 h) hr
  have e:rdS c o L.length=some L:=jz5 fun j hj=>by
   have key:∀k,k<2→c.get (o+j*2+k)=(sqA L[j])[k]?:=fun k hk2=>by
    have e:=jlg (f:=sqA) (z:=2) (fun _=>rfl) L hj hk2
    have hlt:j*2+k<L.length*2:=by omega
    rw[←e,h2 _ (by omega),←a4,List.getElem?_take,if_pos hlt,List.getElem?_drop]
    congr 1
    omega
   exact⟨key 0 (by omega),key 1 (by omega)⟩
  have e1:(o+L.length*2).ble l.length=true:=by rw[jab];exact decide_eq_true hl
  show(match H.get b with
   | some (.cells c m)=>bif(o+L.length*2).ble m&& !(L.length.beq 0) then rdS c o L.length else none
   | _=>none)=some L
  rw[h1]
  simp only[e1,hne,Bool.not_false,Bool.and_true,cond_true]
  exact e
theorem kb0 {A:jai} (hk:HK B ro O H nx) (hA:∀x∈A,Has O x.1 x.2∨jjc B x) {L:List HgT} {v:AV} (h:SlR A 4 (jcv (jbo A tHG)) L v):kh7 H v=some L:=by
 rcases h with⟨rfl,rfl⟩ | ⟨b,o,cap,l,rfl,hb,_,hl,hr⟩
 ·rfl
 ·obtain⟨c,h1,h2⟩:=j7a hk hA hb
  have a4:=jjn (f:=hgA) (fun x l h=>j78 h) hr
  have e:rdG c o L.length=some L:=jz6 fun j hj k hk4=>by
   have e:=jlg (f:=hgA) (z:=4) (fun _=>rfl) L hj hk4
   have hlt:j*4+k<L.length*4:=by omega
   rw[←e,h2 _ (by omega),←a4,List.getElem?_take,if_pos hlt,List.getElem?_drop]
   congr 1
   omega
  have e1:(o+L.length*4).ble l.length=true:=by rw[jab];exact decide_eq_true hl
  show(match H.get b with
   | some (.cells c m)=>bif(o+L.length*4).ble m then rdG c o L.length else none
   | _=>none)=some L
  rw[h1]
  simp only[e1,cond_true]
  exact e
theorem j8l {call0:FuncId→List AV→Tr Blk→Nat→Nat→Out} {f fC fI:FuncId} {runC:jho [.d tNT]→Option Int} {runI:Int→Option (List Nat)} (hC:TE.OK B call0 ⟨fC,[.d tNT],[.d (.int .i64)],runC⟩) (hI:TE.OK B call0 ⟨fI,[.d (.int .i64)],[.d .str],runI⟩)
  (hm:∀az g,j3h call0 f fC fI f az=some g→memo f az=some g):OKs B memo prog 1 [⟨f,[.d tNT],[.d .str],j3f runC runI⟩]:=by
 refine jm9 fun a r hr ro O H nx hk A hA vs hv=>?_
 obtain⟨v,rfl,hv'⟩:=hv
 have hv0:=hv'
 unfold jqf at hv'
 simp only[Rep.agg,Ty.agg,cond_true] at hv'
 obtain⟨m,rfl,_,⟨l1,l2,rfl,⟨v1,rfl,h1⟩,⟨v2,rfl,h2⟩⟩,_⟩:=hv'
 have hr:j3f runC runI a=some r:=hr
 unfold j3f at hr
 cases he:runC a with
 | none=>rw[he] at hr;cases hr
 | some e=>
 rw[he,Option.bind_some] at hr
 have hq:HK B nx (O.map unw) H nx:=hk.quiet
 have hAq:∀x∈A,Has (O.map unw) x.1 x.2∨jjc B x:=fun x hx=>(hA x hx).imp (fun h=>h.quiet) id
 obtain⟨u,EE,NN,Hc,nxc,F',k1,k2,k3,k4,vs',rfl,u',e1,k5⟩:=hC a e he nx _ [] H nx hq (fun _ h=>by cases h) A hAq _ ⟨_,rfl,hv0⟩
 subst e1
 unfold jqf at k5
 simp only[Rep.agg,Ty.agg,cond_false] at k5
 obtain⟨_,k6,_⟩:=k5
 have k6:u'=AV.int .i64 e:=by simpa[jbo] using k6
 subst k6
 have hup:nx≤nxc:=(ji8 k2.r1).1
 have hcall:call0 fC [.agg [v1,v2]] H nx nx=some (.int .i64 e,Hc,nxc):=k1
 by_cases h0:e=0
 ·subst h0
  simp only[decide_true,cond_true] at hr
  obtain⟨hok,hr⟩:=jaf hr
  simp only[Option.some.injEq] at hr
  subst hr
  simp only[Bool.and_eq_true,Bool.not_eq_true'] at hok
  obtain⟨⟨o1,o2⟩,o3⟩:=hok
  have hS:=kby hk hA h1 o3
  have hG:=kb0 hk hA h2
  have hit:∀x∈jp4 a.1 a.2,(itM call0 fI H nx x).map (·.1)=runI x:=fun x hx=>by
   have hx:=List.all_eq_true.1 o2 x hx
   cases hs:runI x with
   | none=>simp only[hs] at hx;cases hx
   | some s=>
     obtain⟨u,EE,NN,Hi,nxi,F',i1,i2,i3,i4,vs',rfl,u',e1,i5⟩:=hI x s hs nx _ [] H nx hq (fun _ h=>by cases h) A hAq [.int .i64 x] ⟨_,rfl,rfl,rfl,rfl⟩
     subst e1
     unfold jqf at i5
     simp only[Rep.agg,Ty.agg,cond_false] at i5
     obtain⟨_,i6,_⟩:=i5
     have i6:u'=AV.str s:=by simpa[jbo] using i6
     subst i6
     have hi:call0 fI [.int .i64 x] H nx nx=some (.str s,Hi,nxi):=i1
     simp only[itM,hi,Option.map_some]
  have hok2:okI (fun x=>(itM call0 fI H nx x).map (·.1)) (jp4 a.1 a.2)=true:=List.all_eq_true.2 fun x hx=>by
   simp only[hit x hx]
   exact List.all_eq_true.1 o2 x hx
  have htl:tlT (itB fun x=>(itM call0 fI H nx x).map (·.1)) a.1 a.2=tlT (itB runI) a.1 a.2:=j46 fun x hx=>by
   unfold itB
   simp only[hit x hx]
  obtain⟨t1,_⟩:=jzm (itM call0 fI H nx) (jp4 a.1 a.2) nxc
  refine⟨fun H nx _=>jka call0 fC fI v1 v2 H nx,.str ((tlT (itB runI) a.1 a.2).map UInt8.toNat),[],[],H,kh4 (itM call0 fI H nx) (jp4 a.1 a.2) nxc,[],hm _ _ (by simp only[j3h,jaa,decide_true,cond_true];rfl),?_,j96 hk (Nat.le_trans hup t1),j0b,jm4,[_],rfl,_,rfl,rfl,rfl,rfl⟩
  show jka call0 fC fI v1 v2 H nx=_
  unfold jka
  simp only[hcall,decide_true,cond_true]
  erw[hS,hG]
  simp only[o1,hok2,Bool.and_self,cond_true,htl]
 ·simp only[h0,decide_false,cond_false,Option.some.injEq] at hr
  subst hr
  refine⟨fun H nx _=>jka call0 fC fI v1 v2 H nx,.str [],[],[],H,nxc,[],hm _ _ (by simp only[j3h,jaa,decide_true,cond_true];rfl),?_,j96 hk hup,j0b,jm4,[_],rfl,_,rfl,rfl,rfl,rfl⟩
  show jka call0 fC fI v1 v2 H nx=_
  unfold jka
  simp only[hcall,h0,decide_false,cond_false]
end X
end Go.Vm
namespace Go.Vm
namespace W
open Go Go.RowKit
variable {P:Program} {gl:List Nat} {B:Base}
def jvc (s sep:List UInt8):List (List UInt8):=Lib.splitK sep sep.length (Lib.count s sep) s
def jca (s sep:List Nat):List (List Nat):=(jvc (u8 s) (u8 sep)).map fun w=>w.map UInt8.toNat
def jpj (f:FuncId):jky:=fun g az=>bif Nat.beq g f then(match az with
 | [.str s,.str sep]=>bif s.length.ble 1000000&& !(sep.length.beq 0) then
     some fun H nx _=>some (.sl nx 0 (jca s sep).length (some (jca s sep).length) 1,H.set nx (.cells (put ((jca s sep).map AV.str) 0 .e) ((jca s sep).map AV.str).length),nx+1) else none
 | _=>none) else none
theorem j3i {f:FuncId} {t9 g1:Nat} (hfn:ka6 P f) (hg1:gl.contains g1=true) (hi:j9f B g1=true)
  (c1:∀(s sep:ByteArray) (m:Int) (w:World) (_:s.size<4294967281) (_:w.cell? ⟨g1,0,none⟩=some (.int .i64 m)) (_:1≤sep.size),Calls P f #[.string s,.string sep] w fun e w'=>
    e=.returned (.slice (some ⟨w.heap.size,0,none⟩) (Lib.countB s sep+1) (Lib.countB s sep+1))∧w'=w.alloc (.cells ((Lib.splitB sep sep.size (Lib.countB s sep) s).map Value.string).toArray t9)):
  jgm P gl B (jpj f):=by
 intro g az k hk H nx v H' nx' ro hv hb
 unfold jpj at hk
 obtain⟨e,hk2⟩:=jaf hk
 rw[jaa,decide_eq_true_eq] at e
 clear hk
 subst e
 have hk:=hk2
 clear hk2
 split at hk<;>try (cases hk;done)
 rename_i s sep
 obtain⟨jbh,hk2⟩:=jaf hk
 clear hk
 have hk:=hk2
 clear hk2
 rw[Bool.and_eq_true,jab,decide_eq_true_eq,jaa] at jbh
 have hsep:sep.length≠0:=by simpa using jbh.2
 cases hk
 simp only[Option.some.injEq,Prod.mk.injEq] at hv
 obtain⟨rfl,rfl,rfl⟩:=hv
 refine⟨Syn.new _ _ _ _,fun ρ w args hr hf hro hgl hwf ha=>⟨hfn,?_⟩⟩
 obtain⟨b,c,rfl,hbs,hcs⟩:=j1e ha
 have h1:=jw5 hbs
 have h2:=jnc hbs
 have h3:=jw5 hcs
 have h4:=jnc hcs
 have h4':c.data.toList.length=c.size:=Array.length_toList
 obtain⟨m,q1⟩:=j2b hr hb hgl hg1 hi
 refine(c1 b c m w (by omega) q1 (by omega)).mono ?_
 rintro e w' ⟨rfl,rfl⟩
 have hw:(jca s sep).map AV.str=(Lib.splitB c c.size (Lib.countB b c) b).map fun x=>AV.str (x.data.toList.map UInt8.toNat):=by
  have:=Lib.splitB_data c c.size (Lib.countB b c) b
  unfold jca jvc
  rw[←h1,←h3,h4',←this,List.map_map,List.map_map]
  rfl
 have hl:(Lib.splitB c c.size (Lib.countB b c) b).length=Lib.countB b c+1:=Lib.splitB_all c (by omega) c.size _ b rfl
 have hwl:(jca s sep).length=Lib.countB b c+1:=by
  have:=congrArg List.length hw
  simpa[hl] using this
 have hn:ρ nx=none:=hf nx (Nat.le_refl _) (by omega)
 obtain⟨ρ',st,hr2,hv2⟩:∃ρ',Step ρ H nx ro w ρ' (H.set nx (.cells (put ((jca s sep).map AV.str) 0 .e) ((jca s sep).map AV.str).length)) (nx+1) (w.alloc (.cells ((Lib.splitB c c.size (Lib.countB b c) b).map Value.string).toArray t9))∧
   HR ρ' (H.set nx (.cells (put ((jca s sep).map AV.str) 0 .e) ((jca s sep).map AV.str).length)) (w.alloc (.cells ((Lib.splitB c c.size (Lib.countB b c) b).map Value.string).toArray t9))∧ρ' nx=some ⟨w.heap.size,0,Lib.countB b c+1⟩:=by
  have hc:=jj1 (l:=(jca s sep).map AV.str) (cs:=((Lib.splitB c c.size (Lib.countB b c) b).map Value.string).toArray) (elem:=t9) (fr:=(0,0)) (lim:=Lib.countB b c+1) hr hn hro
   (by rw[List.length_map,hwl,hw,List.take_of_length_le (by simp[hl])];exact jwp _) (by rw[List.length_map,hwl];exact Nat.le_refl _) (by simp[hl]) (fun i=>by simp)
  exact⟨_,hc.2,hc.1,by unfold RM.upd;rw[if_pos rfl]⟩
 refine⟨_,rfl,ρ',st,hr2,?_⟩
 simp only[VR]
 refine⟨_,Lib.countB b c+1,0,hv2,by rw[hwl],by omega,by omega,.inl rfl,.inl ⟨by rw[hwl],by simp,fun _=>by have:=Lib.countB_le c (by omega) b.size b (Nat.le_refl _);have:=jbh.1;omega⟩⟩
end W
end Go.Vm
namespace Go.Vm
namespace X
open W
variable {B:Base} {memo:jky} {prog:Tr CFn}
def jzr (a:List Nat×List Nat):Option (List (List Nat)):=bif a.1.length.ble 1000000&& !(a.2.length.beq 0) then some (jca a.1 a.2) else none
theorem j3j {f:FuncId} (hm:∀az g,jpj f f az=some g→memo f az=some g):OKs B memo prog 1 [⟨f,[.d .str,.d .str],[.ownx .str],jzr⟩]:=by
 refine jm9 fun a r hr ro O H nx hk A hA vs hv=>?_
 obtain⟨v1,_,_,_,rfl,_,⟨_,h1,_⟩,v2,rfl,_,h2,_⟩:=hv
 obtain⟨s,t⟩:=a
 have h1:v1=AV.str s:=by simpa[jbo] using h1
 have h2:v2=AV.str t:=by simpa[jbo] using h2
 subst h1;subst h2
 obtain⟨hb,hr⟩:=jaf hr
 cases hr
 refine⟨fun H nx _=>some (.sl nx 0 (jca s t).length (some (jca s t).length) 1,H.set nx (.cells (put ((jca s t).map AV.str) 0 .e) ((jca s t).map AV.str).length),nx+1),_,[⟨nx,true,.cells ((jca s t).map AV.str)⟩],[],_,_,[],hm _ _ ?_,rfl,hk.cells _,fun x hx=>?_,jm4,[_],rfl,_,rfl,_,rfl,j27 (t:=.str) rfl (f:=AV.str) (fun _=>rfl) (fun _=>rfl) (jca s t)⟩
 ·have e:jpj f f [.str s,.str t]=bif s.length.ble 1000000&& !(t.length.beq 0) then some (fun H nx _=>some (.sl nx 0 (jca s t).length (some (jca s t).length) 1,H.set nx (.cells (put ((jca s t).map AV.str) 0 .e) ((jca s t).map AV.str).length),nx+1)) else none:=by
   simp only[jpj,jaa,decide_true,cond_true]
  exact e.trans (by erw[hb];rfl)
 ·rw[List.mem_singleton.1 hx]
end X
end Go.Vm
