/-
  A region that draws its order, whose last operations come behind all others: its first part by itself.
  Told functions that write into a row of ints, or lay a new one: what they leave (slices.Grow, Insert, Replace).
-/
import Derived.Sort.QuietThIn
import Derived.Test.YtldgdgacdcenkaaGreatDoorVmWS
set_option linter.unusedSimpArgs false
set_option linter.unusedVariables false
namespace Go.Vm
open Go.RowKit
variable {P:Program} {F:Fence} {n:Nat} {ops:Array Oper} {Q Q1:Exit→Act→World→Prop} {m:Nat}
theorem j91 (hQ:∀e a w,Q1 e a w→e=.normal) {o:Oper} {a:Act} {w:World} {K:Act→World→Prop} (h:o.wpIn F n P a w K Q1):o.wpIn F n P a w K Q:=by
 refine⟨h.1,?_⟩
 have h:=h.2
 have np:∀ {ch a w},¬Q1 (.panic ch) a w:=fun h=>by have:=hQ _ _ _ h;cases this
 have no:¬LetsOut Q1:=fun⟨a,w,h⟩=>by have:=hQ _ _ _ h;cases this
 generalize (o.semAt F.round a.eval).run P w=x at h ⊢
 cases x with
 | ok y w'=>
   cases y<;>simp only[Oper.uponIn] at h ⊢
   all_goals first
    | exact h
    | exact⟨h.1,CallsIn.mono h.2 fun e w'' he=>by cases e<;>first | exact he | exact(np he).elim | exact(no he).elim⟩
    | exact⟨h.1,RoundIn.mono h.2 fun e w'' he=>by cases e<;>first | exact he | exact(np he).elim | exact(no he).elim⟩
 | halt y w'=>cases y<;>simp only[Oper.uponIn] at h ⊢<;>first | exact h | exact(np h).elim
def jwq (ops:Array Oper) (m:Nat):Bool:=
 let es:=ops.toList.map jnn
 let an:=(Region.before ops).toList
 m.ble ops.size&&jms es&&j5j es an&&((List.range m).all fun i=>match ops[i]? with | some o=>(match o.guard with | some (k,_)=>k.blt m | none=>true) | none=>true)&&(List.range ops.size).all fun j=>j.blt m||(List.range m).all fun i=>(an.getD j 0).testBit i
def Clo (ops:Array Oper) (listed:Array Bool):Prop:=∀(j:Nat) (o:Oper),listed[j]?=some true→ops[j]?=some o→∀e∈o.after.toList,Region.binds .any e=true→listed.getD e.on false=true
theorem jzv {j:Nat} {o:Oper} (ho:ops[j]?=some o) {k:Nat}:k∈(ops.toList.map jnn).getD j []↔∃e∈o.after.toList,Region.binds .any e=true∧e.on=k:=by
 have:(ops.toList.map jnn).getD j []=jnn o:=by
  rw[List.getD_eq_getElem?_getD,List.getElem?_map]
  have:ops.toList[j]?=some o:=by simpa using ho
  rw[this];rfl
 rw[this]
 unfold jnn
 simp only[List.mem_filterMap,Option.ite_none_right_eq_some,Option.some.injEq]
theorem getD_some {l:Array Bool} {k:Nat} (h:l.getD k false=true):l[k]?=some true:=by
 unfold Array.getD at h
 split at h
 ·rename_i hk
  rw[Array.getElem?_eq_getElem hk]
  exact congrArg some h
 ·cases h
theorem j1v (h2:jms (ops.toList.map jnn)=true) (h3:j5j (ops.toList.map jnn) (Region.before ops).toList=true) {listed:Array Bool} (hc:Clo ops listed):
  ∀(j i:Nat),j<ops.size→i<ops.size→((Region.before ops).toList.getD j 0).testBit i=true→(∀o,ops[j]?=some o→∀e∈o.after.toList,Region.binds .any e=true→listed.getD e.on false=true)→listed.getD i false=true:=by
 intro j
 induction j using Nat.strongRecOn with
 | _ j ih=>
   intro i hj hi hb hd
   have ho:ops[j]?=some ops[j]:=Array.getElem?_eq_getElem hj
   unfold j5j at h3
   have g1:=List.all_eq_true.1 (List.all_eq_true.1 h3 j (by simpa using hj)) i (by simpa using hi)
   simp only[hb,Bool.not_true,Bool.false_or,List.any_eq_true,Bool.or_eq_true,beq_iff_eq] at g1
   obtain⟨k,hk,hki⟩:=g1
   obtain⟨e,he,hbd,rfl⟩:=(jzv ho).1 hk
   have hl:=hd _ ho e he hbd
   rcases hki with rfl | hki
   ·exact hl
   ·unfold jms at h2
    have g2:=List.all_eq_true.1 (List.all_eq_true.1 h2 j (by simpa using hj)) e.on hk
    have hlt:e.on<j:=by simpa using g2
    refine ih e.on hlt i (by omega) hi hki fun o' ho' e' he' hb'=>?_
    exact hc _ _ (getD_some hl) ho' e' he' hb'
structure Sub (m N:Nat) (l' l:Array Bool):Prop where
 s1:l'.size=m
 s2:l.size=N
 eq:∀i,i<m→l'.getD i true=l.getD i true
 late:∀i,m≤i→l.getD i false=false
theorem jhf {l:Array Bool} {k:Nat} (h:k<l.size):l.getD k false=l.getD k true:=by simp[Array.getD,h]
theorem j5i (h:jwq ops m=true) (hQ:∀e a w,Q1 e a w→e=.normal) {d:Nat}
  (hnext:∀a w,Q1 .normal a w→∀f listed,listed.size=ops.size→(∀i,i<ops.size→listed.getD i true=decide (i<m))→wpAnyIn F n P .any ops Q (f+d) listed a w):
  ∀(k:Nat) (l' l:Array Bool) (a:Act) (w:World),Sub m ops.size l' l→Clo ops l→wpAnyIn F n P .any (ops.extract 0 m) Q1 k l' a w→wpAnyIn F n P .any ops Q (k+d) l a w:=by
 unfold jwq at h
 simp only[Bool.and_eq_true] at h
 obtain⟨⟨⟨⟨hm,h2⟩,h3⟩,hgu⟩,h4⟩:=h
 rw[jad,decide_eq_true_eq] at hm
 have hsub:∀i,i<m→(ops.extract 0 m)[i]?=ops[i]?:=fun i hi=>by
  rw[Array.getElem?_extract]
  simp only[Nat.zero_add,Nat.sub_zero]
  rw[if_pos (by omega)]
 have hback:∀i o,ops[i]?=some o→∀e∈o.after.toList,Region.binds .any e=true→e.on<i:=fun i o ho e he hb=>by
  have hi:i<ops.size:=(Array.getElem?_eq_some_iff.1 ho).1
  unfold jms at h2
  have g2:=List.all_eq_true.1 (List.all_eq_true.1 h2 i (by simpa using hi)) e.on ((jzv ho).2 ⟨e,he,hb,rfl⟩)
  simpa using g2
 have rdy:∀ {l' l:Array Bool},Sub m ops.size l' l→∀i,i<m→(i∈Region.ready .any ops l↔i∈Region.ready .any (ops.extract 0 m) l'):=fun {l' l} hs i hi=>by
  rw[mem_ready,mem_ready,hs.eq i hi,hsub i hi]
  refine and_congr Iff.rfl ⟨?_,?_⟩
  ·rintro ⟨o,ho,hall⟩
   refine⟨o,ho,fun e he hb=>?_⟩
   have hlt:=hback i o ho e (by simpa using he) hb
   rw[jhf (by rw[hs.s1];omega),hs.eq _ (by omega),←jhf (by rw[hs.s2];omega)]
   exact hall e he hb
  ·rintro ⟨o,ho,hall⟩
   refine⟨o,ho,fun e he hb=>?_⟩
   have hlt:=hback i o ho e (by simpa using he) hb
   rw[jhf (by rw[hs.s2];omega),←hs.eq _ (by omega),←jhf (by rw[hs.s1];omega)]
   exact hall e he hb
 have full:∀ {l' l:Array Bool},Sub m ops.size l' l→Region.ready .any (ops.extract 0 m) l'=[]→∀i,i<m→l.getD i true=true:=fun {l' l} hs hr i=>by
  induction i using Nat.strongRecOn with
  | _ i ih=>
    intro hi
    cases hli:l.getD i true with
    | true=>rfl
    | false=>
      have:i∈Region.ready .any ops l:=by
       rw[mem_ready]
       refine⟨hli,ops[i]'(by omega),Array.getElem?_eq_getElem (by omega),fun e he hb=>?_⟩
       have hlt:=hback i _ (Array.getElem?_eq_getElem (by omega)) e (by simpa using he) hb
       rw[jhf (by rw[hs.s2];omega)]
       exact ih e.on hlt (by omega)
      rw[rdy hs i hi,hr] at this
      cases this
 have fin:∀ {l' l:Array Bool},Sub m ops.size l' l→Region.ready .any (ops.extract 0 m) l'=[]→∀i,i<ops.size→l.getD i true=decide (i<m):=fun {l' l} hs hr i hi=>by
  by_cases him:i<m
  ·rw[full hs hr i him];simp[him]
  ·rw[←jhf (by rw[hs.s2];exact hi),hs.late i (by omega)];simp[him]
 intro k
 induction k with
 | zero=>
   intro l' l a w hs hc hw
   have:=hnext a w hw.2 0 l hs.s2 (fin hs hw.1)
   exact this
 | succ k ih=>
   intro l' l a w hs hc hw
   obtain⟨w1,w2⟩:=hw
   by_cases hr:Region.ready .any (ops.extract 0 m) l'=[]
   ·exact hnext a w (w1 hr) (k+1) l hs.s2 (fin hs hr)
   ·obtain⟨x,hx⟩:=List.exists_mem_of_ne_nil _ hr
    have hxm:x<m:=by
     rw[mem_ready] at hx
     obtain⟨_,o,ho,_⟩:=hx
     have:=(Array.getElem?_eq_some_iff.1 ho).1
     simp at this;omega
    have hxl:l.getD x true=false:=by
     rw[mem_ready,hs.eq x hxm] at hx;exact hx.1
    have key:∀i∈Region.ready .any ops l,i<m:=fun i hi=>by
     refine Classical.byContradiction fun hge=>?_
     rw[mem_ready] at hi
     obtain⟨_,o,ho,hall⟩:=hi
     have his:i<ops.size:=(Array.getElem?_eq_some_iff.1 ho).1
     have g4:=List.all_eq_true.1 h4 i (by simpa using his)
     have hnb:i.blt m=false:=by
      cases hb:i.blt m with
      | false=>rfl
      | true=>
        have:(i+1).ble m=true:=hb
        rw[jad,decide_eq_true_eq] at this
        omega
     rw[hnb,Bool.false_or] at g4
     have:=j1v h2 h3 hc i x his (by omega) (List.all_eq_true.1 g4 x (by simpa using hxm)) fun o' ho' e he hb=>by
      rw[ho] at ho';cases ho'
      exact hall e (by simpa using he) hb
     rw[jhf (by rw[hs.s2];omega),hxl] at this
     cases this
    have ek:k+1+d=(k+d)+1:=by omega
    rw[ek]
    refine⟨fun he=>?_,fun i hi=>?_⟩
    ·have:=(rdy hs x hxm).2 hx
     rw[he] at this;cases this
    ·have him:=key i hi
     have hi':=(rdy hs i him).1 hi
     have h5:=w2 i hi'
     rw[mem_ready] at hi
     obtain⟨hli,o,ho,hall⟩:=hi
     have his:i<ops.size:=by omega
     have hs':Sub m ops.size (l'.setIfInBounds i true) (l.setIfInBounds i true):=by
      refine⟨by simp[hs.s1],by simp[hs.s2],fun j hj=>?_,fun j hj=>?_⟩
      ·have g:∀(q:Array Bool),j<q.size→(q.setIfInBounds i true).getD j true=if i=j then true else q.getD j true:=fun q hq=>by
        simp only[Array.getD,Array.size_setIfInBounds,hq,dif_pos]
        by_cases e:i=j
        ·subst e;simp[hq]
        ·rw[if_neg e];exact Array.getElem_setIfInBounds_ne _ e
       rw[g _ (by rw[hs.s1];exact hj),g _ (by rw[hs.s2];omega),hs.eq j hj]
      ·by_cases hjl:j<l.size
       ·have:=hs.late j hj
        simp only[Array.getD,hjl,dif_pos] at this
        simp only[Array.getD,Array.size_setIfInBounds,hjl,dif_pos]
        exact(Array.getElem_setIfInBounds_ne _ (by omega)).trans this
       ·simp[Array.getD,hjl]
     have hc':Clo ops (l.setIfInBounds i true):=by
      intro j o' hj ho' e he hb
      have mono:∀q,l.getD q false=true→(l.setIfInBounds i true).getD q false=true:=fun q hq=>by
       have hq1:q<l.size:=by
        unfold Array.getD at hq
        split at hq
        ·assumption
        ·cases hq
       simp only[Array.getD,Array.size_setIfInBounds,hq1,dif_pos] at hq ⊢
       by_cases e:i=q
       ·subst e;exact Array.getElem_setIfInBounds_self _
       ·exact(Array.getElem_setIfInBounds_ne _ e).trans hq
      refine mono _ ?_
      by_cases e1:i=j
      ·subst e1
       rw[ho] at ho';cases ho'
       exact hall e (by simpa using he) hb
      ·refine hc j o' ?_ ho' e he hb
       rw[Array.getElem?_setIfInBounds] at hj
       rw[if_neg e1] at hj
       exact hj
     unfold wpOpIn at h5 ⊢
     rw[hsub i him,ho] at h5
     rw[ho]
     have hyl:Region.wanted o (yielded (ops.extract 0 m) a.tmps)=Region.wanted o (yielded ops a.tmps):=by
      have g5:=List.all_eq_true.1 hgu i (by simpa using him)
      rw[ho] at g5
      simp only at g5
      unfold Region.wanted
      cases hg:o.guard with
      | none=>rfl
      | some y=>
        obtain⟨q,want⟩:=y
        rw[hg] at g5
        have hq:q<m:=by
         have:(q+1).ble m=true:=g5
         rw[jad,decide_eq_true_eq] at this
         exact this
        have:yielded (ops.extract 0 m) a.tmps q=yielded ops a.tmps q:=by
         unfold yielded
         rw[hsub q hq]
        simp only[this]
     simp only[hyl] at h5 ⊢
     split
     ·rename_i hw
      rw[if_pos hw] at h5
      exact j91 hQ (Oper.wpIn_mono (fun a w=>ih _ _ a w hs' hc') h5)
     ·rename_i hw
      rw[if_neg hw] at h5
      exact⟨h5.1,ih _ _ _ _ hs' hc' h5.2⟩
def ran (m N:Nat):Array Bool:=((List.range N).map fun i=>decide (i<m)).toArray
theorem kcs {m N:Nat} {l:Array Bool} (h1:l.size=N) (h2:∀i,i<N→l.getD i true=decide (i<m)):l=ran m N:=by
 apply Array.ext
 ·simp[ran,h1]
 ·intro i hi hi'
  have:=h2 i (by omega)
  simp only[Array.getD,hi,dif_pos] at this
  rw[←Array.getInternal_eq_getElem,this]
  simp[ran]
theorem jm2 {id d:Nat} {a:Act} {w:World} {l:List Oper} {R:Act→World→Prop} (hro:F.round=none) (hm:P.follows .mixedOrders=true) (h:jwq ops m=true) (hl:(ops.extract 0 m).toList=l)
  (hB:Region.lexB .any (ops.extract 0 m)=true) (hd:m+d=ops.size)
  (hq:wpQuietIn F n P (ops.extract 0 m) (fun w'=>∃n,w'=w.drewN n) (fun a'=>∀w',(∃n,w'=w.drewN n)→R a' w') l a)
  (hnext:∀a w,R a w→∀f,wpAnyIn F n P .any ops Q (f+d) (ran m ops.size) a w):(Code.region id ops true).wpIn F n P Q a w:=by
 refine wpIn_region_any hm ?_
 have hms:m≤ops.size:=by omega
 have hsz:(ops.extract 0 m).size=m:=by simp;omega
 simp only[Region.lexB,Bool.and_eq_true] at hB
 have jbj:l.length=m:=by rw[←hl];simp;omega
 have h1:=wpAnyQIn_lex (F:=F) (n:=n) (P:=P) (C:=fun w'=>∃n,w'=w.drewN n) (md:=.any) hB.1 l 0 (Array.replicate m false) a (fun j=>by rw[←hl,Array.getElem?_toList,Nat.zero_add]) (by
  have:=hB.2
  rw[hsz] at this
  rw[jbj];exact this) hq
 rw[jbj] at h1
 have h2:=wpAnyIn_of_quiet (Q':=fun e a' w'=>e=.normal∧R a' w') hro (fun _ w' hw' h=>⟨rfl,h w' hw'⟩) _ _ _ _ (⟨1,rfl⟩:∃n,{ w with drawn:=w.drawn+1 }=w.drewN n) h1
 have gr:∀(k i:Nat) (d:Bool),(Array.replicate k false).getD i d=if i<k then false else d:=by
  intro k i d
  by_cases hk:i<k<;>simp[Array.getD,hk]
 have:=j5i (Q:=Q) h (fun e a w h=>h.1) (d:=d) (fun a w hR f listed h1 h2=>by rw[kcs h1 h2];exact hnext a w hR.2 f) m (Array.replicate m false) (Array.replicate ops.size false) a _ ⟨by simp,by simp,fun i hi=>by rw[gr,gr,if_pos hi,if_pos (by omega)],fun i hi=>by rw[gr];split<;>rfl⟩ (fun j o hj=>by
  rw[Array.getElem?_replicate] at hj
  split at hj<;>cases hj) h2
 rw[hd] at this
 exact this
end Go.Vm
namespace Go.Vm
namespace W
open Go Go.RowKit
variable {P:Program} {gl:List Nat} {B:Base}
def j77 (w:World) (b off n c:Nat) (L:List Int):Prop:=∃cs e fr,w.heap[b]?=some (.cells cs e fr)∧off+c≤cs.size∧(∀q,off≤q→¬(fr.1≤q∧q<fr.2))∧L.length=n∧n≤c∧c≤9223372036854775807∧
 ∀j (h:j<L.length),cs[off+j]?=some (.int .i64 L[j])
def jj0 (w w':World) (N:List Int) (v:Value):Prop:=∃c cs t,v=.slice (some ⟨w.heap.size,0,none⟩) N.length c∧N.length≤c∧c≤9223372036854775807∧w'.heap[w.heap.size]?=some (.cells cs t (0,0))∧c≤cs.size∧
 (∀j (h:j<N.length),cs[j]?=some (.int .i64 N[j]))∧Below w.heap.size w w'
def kfs (w w':World) (b off c:Nat) (N:List Int) (v:Value):Prop:=v=.slice (some ⟨b,off,none⟩) N.length c∧N.length≤c∧w'.os=w.os∧w'.tape=w.tape∧w'.output=w.output∧w'.heap.size=w.heap.size∧(∀x,x≠b→w'.heap[x]?=w.heap[x]?)∧
 ∀cs e fr,w.heap[b]?=some (.cells cs e fr)→∃cs',w'.heap[b]?=some (.cells cs' e fr)∧cs'.size=cs.size∧∀j (h:j<N.length),cs'[off+j]?=some (.int .i64 N[j])
theorem jyw {N:List Int} {i:Nat} (h:i<N.length):(put (N.map (AV.int .i64)) 0 .e).get i=some (.int .i64 N[i]):=by
 rw[jex,if_pos (by simpa using h)]
 simp[h]
theorem jmr {ρ:RM} {H H2:Tr Blk} {nx ro:Nat} {w w':World} {N:List Int} {v:Value} (hr:HR ρ H w) (hf:Free ρ nx (nx+1)) (hwf:WF H nx) (hro:ro≤nx)
  (hs:∀b,(H2.get b).isSome→H2.get b=H.get b) (ho:∀b,b<ro→b<nx→H2.get b=H.get b) (hw:jj0 w w' N v):
  Ends ρ H nx ro w (.sl nx 0 N.length none 1) (H2.set nx (.cells (put (N.map (AV.int .i64)) 0 .e) N.length)) (nx+1) v w':=by
 obtain⟨c,cs,t,rfl,h1,h2,h3,h4,h5,hB⟩:=hw
 have q:=Below.quiet hB
 have hn:ρ nx=none:=hf nx (Nat.le_refl _) (by omega)
 have hle:ρ.Le (ρ.upd nx ⟨w.heap.size,0,c⟩):=RM.le_upd hn
 have hother:∀b,b≠nx→(ρ.upd nx ⟨w.heap.size,0,c⟩) b=ρ b:=fun b hb=>by unfold RM.upd;rw[if_neg hb]
 have hsame:(ρ.upd nx ⟨w.heap.size,0,c⟩) nx=some ⟨w.heap.size,0,c⟩:=by unfold RM.upd;rw[if_pos rfl]
 have hr':=q.hr hr
 have hsz:w.heap.size<w'.heap.size:=(Array.getElem?_eq_some_iff.1 h3).1
 refine⟨ρ.upd nx ⟨w.heap.size,0,c⟩,⟨q.os,q.tape,q.output,q.size,by omega,fun b hb=>hother b (by omega),fun x hx _=>q.keep x hx,fun b l' hb1 hb2 hl=>?_,fun b hb=>?_,fun b hb hb2=>?_⟩,⟨fun b k l' hk hl=>?_,fun b b' l' l'' e1 e2 g1 g2 e=>?_⟩,?_⟩
 ·have:b=nx:=by omega
  subst this
  rw[hsame] at hl
  cases hl
  exact .inl ⟨Nat.le_refl _,hsz⟩
 ·by_cases hbn:b=nx
  ·exact .inl ⟨by omega,by omega⟩
  ·rw[Tr.get_set,if_neg hbn] at hb
   rw[hs b hb] at hb
   exact .inr hb
 ·rw[Tr.get_set,if_neg (by omega)]
  exact ho b hb hb2
 ·by_cases hbn:b=nx
  ·subst hbn
   rw[hsame] at hl
   cases hl
   rw[Tr.get_set,if_pos rfl] at hk
   cases hk
   refine⟨cs,t,(0,0),h3,by simpa using h1,h4,fun i _ _=>by simp,fun i hi=>?_⟩
   exact⟨_,_,jyw hi,by rw[Nat.zero_add];exact h5 i hi,by simp[VR]⟩
  ·rw[Tr.get_set,if_neg hbn] at hk
   rw[hother b hbn] at hl
   have:(H2.get b).isSome:=by rw[hk];rfl
   rw[hs b this] at hk
   exact(hr'.blk b k l' hk hl).mono hle rfl
 ·have lt:∀x l,(H2.get x).isSome→ρ x=some l→l.blk<w.heap.size:=fun x l hx hl=>by
   rw[hs x hx] at hx
   obtain⟨k,hk⟩:=Option.isSome_iff_exists.1 hx
   exact(hr.blk x k l hk hl).lt
  rw[Tr.get_set] at e1 e2
  by_cases a1:b=nx
  ·by_cases a2:b'=nx
   ·exact .inl (by rw[a1,a2])
   ·rw[if_neg a2] at e2
    rw[hother b' a2] at g2
    rw[a1,hsame] at g1
    cases g1
    have:=lt b' l'' e2 g2
    simp only at e
    omega
  ·rw[if_neg a1] at e1
   rw[hother b a1] at g1
   by_cases a2:b'=nx
   ·rw[a2,hsame] at g2
    cases g2
    have:=lt b l' e1 g1
    simp only at e
    omega
   ·rw[if_neg a2] at e2
    rw[hother b' a2] at g2
    exact hr.inj b b' l' l'' (by rw[←hs b e1];exact e1) (by rw[←hs b' e2];exact e2) g1 g2 e
 ·simp only[VR]
  exact⟨_,c,0,hsame,rfl,h1,by omega,.inl rfl,.inr ⟨trivial,by simp,by omega⟩⟩
theorem j4w {ρ:RM} {H:Tr Blk} {nx ro b o k c:Nat} {ct:Tr AV} {lc:Loc} {w w':World} {N:List Int} {v:Value} (hr:HR ρ H w) (hf:Free ρ nx (nx+1)) (hwf:WF H nx) (hro:rx ro≤b)
  (hb:H.get b=some (.cells ct k)) (hl:ρ b=some lc) (hlim:lc.base+o+c≤lc.lim) (hc:c≤9223372036854775807) (hw:kfs w w' lc.blk (lc.base+o) c N v):
  Ends ρ H nx ro w (.sl nx 0 N.length none 1) ((H.del b).set nx (.cells (put (N.map (AV.int .i64)) 0 .e) N.length)) (nx+1) v w':=by
 obtain⟨rfl,h1,w1,w2,w3,w4,w5,w6⟩:=hw
 obtain⟨cs,elem,fr,q1,q2,q3,q4,q5⟩:=hr.blk b _ lc hb hl
 obtain⟨cs',w7,w8,w9⟩:=w6 cs elem fr q1
 obtain⟨hrb,hRO⟩:=jft hro
 have hbn:b<nx:=hwf b (by rw[hb];rfl)
 have hn:ρ nx=none:=hf nx (Nat.le_refl _) (by omega)
 have hle:ρ.Le (ρ.upd nx ⟨lc.blk,lc.base+o,lc.base+o+c⟩):=RM.le_upd hn
 have hother:∀x,x≠nx→(ρ.upd nx ⟨lc.blk,lc.base+o,lc.base+o+c⟩) x=ρ x:=fun x hx=>by unfold RM.upd;rw[if_neg hx]
 have hsame:(ρ.upd nx ⟨lc.blk,lc.base+o,lc.base+o+c⟩) nx=some ⟨lc.blk,lc.base+o,lc.base+o+c⟩:=by unfold RM.upd;rw[if_pos rfl]
 have inj1:∀b' l',(H.get b').isSome→ρ b'=some l'→l'.blk=lc.blk→b'=b:=fun b' l' h1 h2 h3=>by
  rcases hr.inj b' b l' lc h1 (by rw[hb];rfl) h2 hl h3 with h4 | h4
  ·exact h4
  ·omega
 have hdel:∀x,((H.del b).get x).isSome→x≠b∧(H.del b).get x=H.get x:=fun x hx=>by
  rw[Tr.get_del] at hx ⊢
  by_cases e:x=b
  ·rw[if_pos e] at hx;cases hx
  ·rw[if_neg e];exact⟨e,rfl⟩
 refine⟨ρ.upd nx ⟨lc.blk,lc.base+o,lc.base+o+c⟩,⟨w1,w2,w3,by omega,by omega,fun x hx=>hother x (by omega),fun x hx hk'=>?_,fun x l' g1 g2 g3=>?_,fun x hx=>?_,fun x g1 g2=>?_⟩,⟨fun x k' l' g1 g2=>?_,fun x y l1 l2 g1 g2 g3 g4 g5=>?_⟩,?_⟩
 ·refine w5 x fun e=>?_
  have:=hk' b lc hl e.symm (by rw[hb];rfl)
  omega
 ·have:x=nx:=by omega
  subst this
  rw[hsame] at g3
  cases g3
  exact .inr ⟨b,lc,hrb,by rw[hb];rfl,hl,rfl⟩
 ·by_cases e:x=nx
  ·exact .inl ⟨by omega,by omega⟩
  ·rw[Tr.get_set,if_neg e] at hx
   exact .inr (by rw[←(hdel x hx).2];exact hx)
 ·rw[Tr.get_set,if_neg (by omega),Tr.get_del,if_neg (by omega)]
 ·by_cases e:x=nx
  ·subst e
   rw[Tr.get_set,if_pos rfl] at g1
   rw[hsame] at g2
   cases g1;cases g2
   refine⟨cs',elem,fr,w7,by simp only;omega,by simp only;omega,fun j j1 _=>q4 j (by simp only at j1;omega) (fun hf=>?_),fun j hj=>⟨_,_,jyw hj,w9 j hj,by simp[VR]⟩⟩
   rw[jad,decide_eq_false_iff_not] at hf
   omega
  ·rw[Tr.get_set,if_neg e] at g1
   rw[hother x e] at g2
   obtain⟨e2,e3⟩:=hdel x (by rw[g1];rfl)
   rw[e3] at g1
   exact(hr.blk x k' l' g1 g2).mono hle (w5 _ fun e4=>e2 (inj1 x l' (by rw[g1];rfl) g2 e4))
 ·have noother:∀b' l',((H.del b).get b').isSome→ρ b'=some l'→l'.blk≠lc.blk:=fun b' l' h2 h3 h4=>by
   obtain⟨e2,e3⟩:=hdel b' h2
   rw[e3] at h2
   exact e2 (inj1 b' l' h2 h3 h4)
  rw[Tr.get_set] at g1 g2
  by_cases e1:x=nx
  ·by_cases e2:y=nx
   ·exact .inl (by rw[e1,e2])
   ·rw[if_neg e2] at g2
    rw[hother y e2] at g4
    rw[e1,hsame] at g3
    cases g3
    exact absurd g5.symm (noother y l2 g2 g4)
  ·rw[if_neg e1] at g1
   rw[hother x e1] at g3
   by_cases e2:y=nx
   ·rw[e2,hsame] at g4
    cases g4
    exact absurd g5 (noother x l1 g1 g3)
   ·rw[if_neg e2] at g2
    rw[hother y e2] at g4
    exact hr.inj x y l1 l2 (by rw[←(hdel x g1).2];exact g1) (by rw[←(hdel y g2).2];exact g2) g3 g4 g5
 ·simp only[VR]
  exact⟨_,c,_,hsame,rfl,h1,by omega,.inl rfl,.inr ⟨trivial,by simp,by omega⟩⟩
def j9u (H:Tr Blk) (b o n:Nat):Option (List Int):=match H.get b with
 | some (.cells c k)=>bif(o+n).ble k then jm3 c o n else none
 | _=>none
theorem jwu {ρ:RM} {H:Tr Blk} {w:World} {b o n:Nat} {cap:Option Nat} {L:List Int} {v:Value} (hr:HR ρ H w) (h:j9u H b o n=some L) (hn:0<n) (hb:RO≤b) (hv:VR ρ (.sl b o n cap 1) v):
  ∃lc c ct k,H.get b=some (.cells ct k)∧ρ b=some lc∧v=.slice (some ⟨lc.blk,lc.base+o,none⟩) n c∧j77 w lc.blk (lc.base+o) n c L∧lc.base+o+c≤lc.lim∧c≤9223372036854775807:=by
 simp only[VR] at hv
 obtain⟨lc,c,off,g1,rfl,g2,_,g3,g4⟩:=hv
 unfold j9u at h
 split at h<;>try (cases h;done)
 rename_i ct k hk
 obtain⟨h1,h2⟩:=jag h
 rw[jad,decide_eq_true_eq] at h1
 obtain⟨hL,hLc⟩:=jk2 h2
 obtain⟨cs,e,fr,q1,q2,q3,q4,q5⟩:=hr.blk b _ lc hk g1
 obtain rfl:off=lc.base+o:=by omega
 have hlim:lc.base+o+c≤lc.lim∧c≤9223372036854775807:=by
  rcases g4 with⟨e,h⟩ | ⟨e,h⟩
  ·have:=h.2 hb
   omega
  ·omega
 refine⟨lc,c,ct,k,hk,g1,rfl,⟨cs,e,fr,q1,by omega,fun q hq=>q4 q (by omega) (fun hf=>?_),hL,g2,hlim.2,fun j hj=>?_⟩,hlim.1,hlim.2⟩
 ·rw[jad,decide_eq_false_iff_not] at hf
  omega
 ·obtain⟨a,v,a1,a2,a3⟩:=q5 (o+j) (by omega)
  rw[hLc j hj] at a1
  cases a1
  simp only[VR] at a3
  subst a3
  rw[Nat.add_assoc]
  exact a2
def jhv (L:List Int) (i k:Nat) (V:List Int):List Int:=L.take i++V++L.drop k
def j51 (ro:Nat) (H:Tr Blk) (nx b o n:Nat) (cap:Option Nat) (i k vb vo m:Nat) (vcap:Option Nat):Out:=
 bif i.ble k&&k.ble n&&(1:Nat).ble n&&n.ble 1000000&&(1:Nat).ble m&&m.ble 1000&&(i.beq k||k.ble (i+m)&& !(k.beq (i+m)))&&(rx ro).ble b&&(rx ro).ble vb&& !(b.beq vb) then
  match j9u H b o n,j9u H vb vo m with
  | some L,some V=>some (.sl nx 0 (jhv L i k V).length none 1,(H.del b).set nx (.cells (put ((jhv L i k V).map (AV.int .i64)) 0 .e) (jhv L i k V).length),nx+1)
  | _,_=>none
 else none
def j6d (f:FuncId):jlz:=fun g as=>bif Nat.beq g f then(match as with
 | [.sl b o n cap 1,.int .i64 (.ofNat i),.sl vb vo m vcap 1]=>some fun H nx ro=>j51 ro H nx b o n cap i i vb vo m vcap
 | [.nils,.int .i64 (.ofNat 0),.sl vb vo m vcap 1]=>some fun H nx ro=>bif(1:Nat).ble m&&m.ble 1000&&RO.ble vb then(match j9u H vb vo m with
   | some V=>some (.sl nx 0 V.length none 1,H.set nx (.cells (put (V.map (AV.int .i64)) 0 .e) V.length),nx+1)
   | none=>none) else none
 | _=>none) else none
def j6a (f:FuncId):jlz:=fun g as=>bif Nat.beq g f then(match as with
 | [.sl b o n cap 1,.int .i64 (.ofNat i),.int .i64 (.ofNat k),.sl vb vo m vcap 1]=>some fun H nx ro=>bif i.beq k then none else j51 ro H nx b o n cap i k vb vo m vcap
 | _=>none) else none
def job (f:FuncId):jlz:=fun g as=>bif Nat.beq g f then(match as with
 | [.nils,.int .i64 (.ofNat 0)]=>some fun H nx _=>some (.nils,H,nx)
 | [.nils,.int .i64 (.ofNat (n+1))]=>bif n.ble 1000000 then some fun H nx _=>some (.sl nx 0 0 none 1,H.set nx (.cells .e 0),nx+1) else none
 | _=>none) else none
theorem jzi {ro:Nat} {H:Tr Blk} {nx b o n i k vb vo m:Nat} {cap vcap:Option Nat} {v:AV} {H':Tr Blk} {nx':Nat} (h:j51 ro H nx b o n cap i k vb vo m vcap=some (v,H',nx')):Syn H nx ro H' nx':=by
 unfold j51 at h
 obtain⟨hc,h⟩:=jag h
 split at h<;>try (cases h;done)
 simp only[Option.some.injEq,Prod.mk.injEq] at h
 obtain⟨rfl,rfl,rfl⟩:=h
 have hro:rx ro≤b:=by
  simp only[Bool.and_eq_true,jad,decide_eq_true_eq] at hc
  exact hc.1.1.2
 have:=(jft hro).1
 refine⟨by omega,fun x hx=>?_,fun x h1 h2=>?_⟩
 ·by_cases e:x=nx
  ·exact .inl ⟨by omega,by omega⟩
  ·rw[Tr.get_set,if_neg e,Tr.get_del] at hx
   split at hx
   ·cases hx
   ·exact .inr hx
 ·rw[Tr.get_set,if_neg (by omega),Tr.get_del,if_neg (by omega)]
theorem j4b {f:FuncId} {mk:Value→Value→Array Value} {ro:Nat} {H:Tr Blk} {nx b o n i k vb vo m:Nat} {cap vcap:Option Nat} {v:AV} {H':Tr Blk} {nx':Nat} (h:j51 ro H nx b o n cap i k vb vo m vcap=some (v,H',nx'))
  (c1:∀(B off n c VB voff m vc:Nat) (L V:List Int) (w:World) (_:j77 w B off n c L) (_:j77 w VB voff m vc V) (_:B≠VB) (_:i≤k) (_:k≤n) (_:0<n) (_:0<m) (_:n≤1000000) (_:m≤1000) (_:i=k∨k<i+m),
    Calls P f (mk (.slice (some ⟨B,off,none⟩) n c) (.slice (some ⟨VB,voff,none⟩) m vc)) w fun e w'=>∃v,e=.returned v∧(kfs w w' B off c (jhv L i k V) v∨jj0 w w' (jhv L i k V) v))
  {ρ:RM} {w:World} {X Y:Value} (hr:HR ρ H w) (hf:Free ρ nx nx') (hro:ro≤nx) (hwf:WF H nx) (hX:VR ρ (.sl b o n cap 1) X) (hY:VR ρ (.sl vb vo m vcap 1) Y):
  Calls P f (mk X Y) w (fun en w'=>∃v',en=.returned v'∧Ends ρ H nx ro w v H' nx' v' w'):=by
 unfold j51 at h
 obtain⟨hc,h⟩:=jag h
 split at h<;>try (cases h;done)
 rename_i L V hL hV
 simp only[Option.some.injEq,Prod.mk.injEq] at h
 obtain⟨rfl,rfl,rfl⟩:=h
 simp only[Bool.and_eq_true,Bool.or_eq_true,jad,jab,decide_eq_true_eq,Bool.not_eq_true',decide_eq_false_iff_not] at hc
 obtain⟨⟨⟨⟨⟨⟨⟨⟨⟨d1,d2⟩,d3⟩,d4⟩,d5⟩,d6⟩,d7⟩,d8⟩,d9⟩,d10⟩:=hc
 obtain⟨lc,c,ct,kk,e1,e2,rfl,e4,e5,e6⟩:=jwu hr hL (by omega) (jft d8).2 hX
 obtain⟨lv,vc,ct2,kk2,f1,f2,rfl,f4,f5,f6⟩:=jwu hr hV (by omega) (jft d9).2 hY
 have hne:lc.blk≠lv.blk:=fun e=>by
  rcases hr.inj b vb lc lv (by rw[e1];rfl) (by rw[f1];rfl) e2 f2 e with h | h
  ·exact d10 h
  ·have:=(jft d8).2
   omega
 refine(c1 lc.blk (lc.base+o) n c lv.blk (lv.base+vo) m vc L V w e4 f4 hne d1 d2 (by omega) (by omega) d4 d6 (by omega)).mono ?_
 rintro e w' ⟨v,rfl,hw | hw⟩
 ·exact⟨v,rfl,j4w hr hf hwf d8 e1 e2 e5 e6 hw⟩
 ·refine⟨v,rfl,jmr hr hf hwf hro (fun x hx=>?_) (fun x h1 h2=>?_) hw⟩
  ·rw[Tr.get_del] at hx ⊢
   split at hx
   ·cases hx
   ·rename_i e;rw[if_neg e]
  ·rw[Tr.get_del,if_neg (by have:=(jft d8).1;omega)]
abbrev kfr (P:Program) (f:FuncId) (i k:Nat) (mk:Value→Value→Array Value):Prop:=
 ∀(B off n c VB voff m vc:Nat) (L V:List Int) (w:World) (_:j77 w B off n c L) (_:j77 w VB voff m vc V) (_:B≠VB) (_:i≤k) (_:k≤n) (_:0<n) (_:0<m) (_:n≤1000000) (_:m≤1000) (_:i=k∨k<i+m),
  Calls P f (mk (.slice (some ⟨B,off,none⟩) n c) (.slice (some ⟨VB,voff,none⟩) m vc)) w fun e w'=>∃v,e=.returned v∧(kfs w w' B off c (jhv L i k V) v∨jj0 w w' (jhv L i k V) v)
theorem j9h {f:FuncId} (hfn:j53 P f) (c1:∀i,kfr P f i i fun x y=>#[x,.int .i64 i,y])
  (c0:∀(VB voff m vc:Nat) (V:List Int) (w:World) (_:j77 w VB voff m vc V) (_:0<m) (_:m≤1000),Calls P f #[.slice none 0 0,.int .i64 (0:Nat),.slice (some ⟨VB,voff,none⟩) m vc] w fun e w'=>∃v,e=.returned v∧jj0 w w' V v):jfc P gl B (j6d f):=by
 intro g as k hk H nx v H' nx' ro hv hb
 unfold j6d at hk
 obtain⟨e,hk2⟩:=jag hk
 rw[jab,decide_eq_true_eq] at e
 clear hk
 subst e
 split at hk2<;>try (cases hk2;done)
 ·rename_i b o n cap i vb vo m vcap
  cases hk2
  refine⟨jzi hv,fun ρ w args hr hf hro hgl hwf ha=>⟨hfn,?_⟩⟩
  simp only[VRs] at ha
  obtain⟨X,l1,h1,hX,y,l2,rfl,hy,Y,l3,rfl,hY,rfl⟩:=ha
  obtain rfl:args=#[X,y,Y]:=Array.toList_inj.1 h1
  simp only[VR] at hy
  subst hy
  exact j4b hv (mk:=fun x y=>#[x,.int .i64 i,y]) (c1 i) hr hf hro hwf hX hY
 ·rename_i vb vo m vcap
  cases hk2
  obtain⟨hc,hv⟩:=jag hv
  split at hv<;>try (cases hv;done)
  rename_i V hV
  simp only[Option.some.injEq,Prod.mk.injEq] at hv
  obtain⟨rfl,rfl,rfl⟩:=hv
  simp only[Bool.and_eq_true,jad,decide_eq_true_eq] at hc
  refine⟨Syn.new _ _ _ _,fun ρ w args hr hf hro hgl hwf ha=>⟨hfn,?_⟩⟩
  simp only[VRs] at ha
  obtain⟨X,l1,h1,hX,y,l2,rfl,hy,Y,l3,rfl,hY,rfl⟩:=ha
  obtain rfl:args=#[X,y,Y]:=Array.toList_inj.1 h1
  simp only[VR] at hX hy
  subst hX;subst hy
  obtain⟨lv,vc,ct2,kk2,f1,f2,rfl,f4,f5,f6⟩:=jwu hr hV (by omega) hc.2 hY
  refine(c0 lv.blk (lv.base+vo) m vc V w f4 (by omega) hc.1.2).mono ?_
  rintro e w' ⟨v,rfl,hw⟩
  exact⟨v,rfl,jmr hr hf hwf hro (fun _ _=>rfl) (fun _ _ _=>rfl) hw⟩
theorem j9b {f:FuncId} (hfn:j53 P f) (c1:∀i k,i≠k→kfr P f i k fun x y=>#[x,.int .i64 i,.int .i64 k,y]):jfc P gl B (j6a f):=by
 intro g as kk hk H nx v H' nx' ro hv hb
 unfold j6a at hk
 obtain⟨e,hk2⟩:=jag hk
 rw[jab,decide_eq_true_eq] at e
 clear hk
 subst e
 split at hk2<;>try (cases hk2;done)
 rename_i b o n cap i k vb vo m vcap
 cases hk2
 obtain⟨hne,hv⟩:=jif hv
 rw[jab,decide_eq_false_iff_not] at hne
 refine⟨jzi hv,fun ρ w args hr hf hro hgl hwf ha=>⟨hfn,?_⟩⟩
 simp only[VRs] at ha
 obtain⟨X,l1,h1,hX,y,l2,rfl,hy,y2,l4,rfl,hy2,Y,l3,rfl,hY,rfl⟩:=ha
 obtain rfl:args=#[X,y,y2,Y]:=Array.toList_inj.1 h1
 simp only[VR] at hy hy2
 subst hy;subst hy2
 exact j4b hv (mk:=fun x y=>#[x,.int .i64 i,.int .i64 k,y]) (c1 i k hne) hr hf hro hwf hX hY
theorem jyn {f:FuncId} (hfn:j53 P f) (c0:∀(w:World),Calls P f #[.slice none 0 0,.int .i64 (0:Nat)] w fun e w'=>e=.returned (.slice none 0 0)∧w'=w)
  (c1:∀(n:Nat) (w:World) (_:0<n) (_:n≤1000001),Calls P f #[.slice none 0 0,.int .i64 n] w fun e w'=>∃v,e=.returned v∧jj0 w w' [] v):jfc P gl B (job f):=by
 intro g as k hk H nx v H' nx' ro hv hb
 unfold job at hk
 obtain⟨e,hk2⟩:=jag hk
 rw[jab,decide_eq_true_eq] at e
 clear hk
 subst e
 split at hk2<;>try (cases hk2;done)
 ·cases hk2
  simp only[Option.some.injEq,Prod.mk.injEq] at hv
  obtain⟨rfl,rfl,rfl⟩:=hv
  refine⟨Syn.refl _ _ _,fun ρ w args hr hf hro hgl hwf ha=>⟨hfn,?_⟩⟩
  simp only[VRs] at ha
  obtain⟨X,l1,h1,hX,y,l2,rfl,hy,rfl⟩:=ha
  obtain rfl:args=#[X,y]:=Array.toList_inj.1 h1
  simp only[VR] at hX hy
  subst hX;subst hy
  refine(c0 w).mono ?_
  rintro e w' ⟨rfl,rfl⟩
  exact⟨_,rfl,ρ,Step.refl _ _ _ _ _,hr,by simp[VR]⟩
 ·rename_i n
  obtain⟨hn,hk2⟩:=jag hk2
  rw[jad,decide_eq_true_eq] at hn
  cases hk2
  simp only[Option.some.injEq,Prod.mk.injEq] at hv
  obtain⟨rfl,rfl,rfl⟩:=hv
  refine⟨Syn.new _ _ _ _,fun ρ w args hr hf hro hgl hwf ha=>⟨hfn,?_⟩⟩
  simp only[VRs] at ha
  obtain⟨X,l1,h1,hX,y,l2,rfl,hy,rfl⟩:=ha
  obtain rfl:args=#[X,y]:=Array.toList_inj.1 h1
  simp only[VR] at hX hy
  subst hX;subst hy
  refine(c1 (n+1) w (by omega) (by omega)).mono ?_
  rintro e w' ⟨v,rfl,hw⟩
  exact⟨v,rfl,jmr hr hf hwf hro (fun _ _=>rfl) (fun _ _ _=>rfl) hw⟩
end W
end Go.Vm
