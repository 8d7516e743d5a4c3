/-
  Functions of the library that are told: strconv.Atoi, strconv.ParseUint(s, 10, 8), strings.Split, out of the library's contracts.
  A told function that ranges over a function: strips.Ends; new cells behind a walk of the model.
  Told functions: strings.Join.
  A region that draws its order, whose last operations come behind all others: its first part by itself.
-/
import Derived.Test.YtofimkliemlojaaVmWG
import Derived.Below
import Derived.Lib.AtoiAll
import Derived.Lib.ParseIntB
import Derived.Lib.Split
import Derived.Lib.SplitLaws
import Derived.Lib.ConvBytes
import Derived.Lib.AtoiErrMem
import Derived.Lib.ItoaNum
import Derived.Lib.Join
import Derived.Test.YtofimkliemlojaaVmY2
import Derived.Sort.QuietThIn
set_option linter.unusedSimpArgs false
set_option linter.unusedVariables false
set_option linter.unusedSectionVars false
set_option linter.unnecessarySimpa false
namespace Go.Vm
namespace W
open Go Go.RowKit
variable {P:Program} {gl:List Nat} {B:Base}
theorem Below.quiet {w w':World} (h:Below w.heap.size w w'):Quiet w w':=⟨h.os,h.tape,h.output,h.size,h.block⟩
def u8 (s:List Nat):List UInt8:=s.map UInt8.ofNat
def FnOK (P:Program) (f:FuncId):Prop:=∃fn,P.funcs[f]?=some fn∧(fn.name== "runtime.NumGoroutine")=false∧fn.body.isSome=true
end W
end Go.Vm
namespace Go.Vm
namespace W
open Go Go.RowKit
variable {P:Program} {gl:List Nat} {B:Base}
def rdInts (c:Tr AV):Nat→Nat→Option (List Int)
 | _,0=>some []
 | o,n+1=>match c.get o with
   | some (.int .i64 x)=>(match rdInts c (o+1) n with
     | some L=>some (x::L)
     | none=>none)
   | _=>none
theorem rdInts_at {c:Tr AV}:∀ {n o:Nat} {L:List Int},rdInts c o n=some L→L.length=n∧∀i (h:i<L.length),c.get (o+i)=some (.int .i64 L[i])
 | 0,o,L,h=>by cases h;exact⟨rfl,fun i h=>by simp at h⟩
 | n+1,o,L,h=>by
   unfold rdInts at h
   split at h<;>try (cases h;done)
   rename_i x hx
   split at h<;>try (cases h;done)
   rename_i M hM
   cases h
   obtain⟨h1,h2⟩:=rdInts_at hM
   refine⟨by simp[h1],fun i hi=>?_⟩
   cases i with
   | zero=>exact hx
   | succ i=>
     have:=h2 i (by simpa using hi)
     rw[show o+1+i=o+ (i+1) by omega] at this
     exact this
end W
end Go.Vm
namespace Go.Vm
namespace W
open Go Go.RowKit
variable {P:Program} {gl:List Nat} {B:Base}
end W
end Go.Vm
namespace Go.Vm
open Go.RowKit
variable {P:Program} {F:Fence} {n:Nat} {ops:Array Oper} {Q Q1:Exit→Act→World→Prop} {m:Nat}
theorem op_swap (hQ:∀e a w,Q1 e a w→e=.normal) {o:Oper} {a:Act} {w:World} {K:Act→World→Prop} (h:o.wpIn F n P a w K Q1):o.wpIn F n P a w K Q:=by
 refine⟨h.1,?_⟩
 have h:=h.2
 have np:∀ {ch a w},¬Q1 (.panic ch) a w:=fun h=>by have:=hQ _ _ _ h;cases this
 have no:¬LetsOut Q1:=fun⟨a,w,h⟩=>by have:=hQ _ _ _ h;cases this
 generalize (o.semAt F.round a.eval).run P w=x at h ⊢
 cases x with
 | ok y w'=>
   cases y<;>simp only[Oper.uponIn] at h ⊢
   all_goals first
    | exact h
    | exact⟨h.1,CallsIn.mono h.2 fun e w'' he=>by cases e<;>first | exact he | exact(np he).elim | exact(no he).elim⟩
    | exact⟨h.1,RoundIn.mono h.2 fun e w'' he=>by cases e<;>first | exact he | exact(np he).elim | exact(no he).elim⟩
 | halt y w'=>cases y<;>simp only[Oper.uponIn] at h ⊢<;>first | exact h | exact(np h).elim
def splitOk (ops:Array Oper) (m:Nat):Bool:=
 let es:=ops.toList.map edges
 let an:=(Region.before ops).toList
 m.ble ops.size&&edgesOk es&&ancOk es an&&((List.range m).all fun i=>match ops[i]? with | some o=>(match o.guard with | some (k,_)=>k.blt m | none=>true) | none=>true)&&(List.range ops.size).all fun j=>j.blt m||(List.range m).all fun i=>(an.getD j 0).testBit i
def Clo (ops:Array Oper) (listed:Array Bool):Prop:=∀(j:Nat) (o:Oper),listed[j]?=some true→ops[j]?=some o→∀e∈o.after.toList,Region.binds .any e=true→listed.getD e.on false=true
theorem edges_at {j:Nat} {o:Oper} (ho:ops[j]?=some o) {k:Nat}:k∈(ops.toList.map edges).getD j []↔∃e∈o.after.toList,Region.binds .any e=true∧e.on=k:=by
 have:(ops.toList.map edges).getD j []=edges o:=by
  rw[List.getD_eq_getElem?_getD,List.getElem?_map]
  have:ops.toList[j]?=some o:=by simpa using ho
  rw[this];rfl
 rw[this]
 unfold edges
 simp only[List.mem_filterMap,Option.ite_none_right_eq_some,Option.some.injEq]
theorem getD_some {l:Array Bool} {k:Nat} (h:l.getD k false=true):l[k]?=some true:=by
 unfold Array.getD at h
 split at h
 ·rename_i hk
  rw[Array.getElem?_eq_getElem hk]
  exact congrArg some h
 ·cases h
theorem anc_listed (h2:edgesOk (ops.toList.map edges)=true) (h3:ancOk (ops.toList.map edges) (Region.before ops).toList=true) {listed:Array Bool} (hc:Clo ops listed):
  ∀(j i:Nat),j<ops.size→i<ops.size→((Region.before ops).toList.getD j 0).testBit i=true→(∀o,ops[j]?=some o→∀e∈o.after.toList,Region.binds .any e=true→listed.getD e.on false=true)→listed.getD i false=true:=by
 intro j
 induction j using Nat.strongRecOn with
 | _ j ih=>
   intro i hj hi hb hd
   have ho:ops[j]?=some ops[j]:=Array.getElem?_eq_getElem hj
   unfold ancOk at h3
   have g1:=List.all_eq_true.1 (List.all_eq_true.1 h3 j (by simpa using hj)) i (by simpa using hi)
   simp only[hb,Bool.not_true,Bool.false_or,List.any_eq_true,Bool.or_eq_true,beq_iff_eq] at g1
   obtain⟨k,hk,hki⟩:=g1
   obtain⟨e,he,hbd,rfl⟩:=(edges_at ho).1 hk
   have hl:=hd _ ho e he hbd
   rcases hki with rfl | hki
   ·exact hl
   ·unfold edgesOk at h2
    have g2:=List.all_eq_true.1 (List.all_eq_true.1 h2 j (by simpa using hj)) e.on hk
    have hlt:e.on<j:=by simpa using g2
    refine ih e.on hlt i (by omega) hi hki fun o' ho' e' he' hb'=>?_
    exact hc _ _ (getD_some hl) ho' e' he' hb'
structure Sub (m N:Nat) (l' l:Array Bool):Prop where
 s1:l'.size=m
 s2:l.size=N
 eq:∀i,i<m→l'.getD i true=l.getD i true
 late:∀i,m≤i→l.getD i false=false
theorem getD_tf' {l:Array Bool} {k:Nat} (h:k<l.size):l.getD k false=l.getD k true:=by simp[Array.getD,h]
theorem any_split (h:splitOk ops m=true) (hQ:∀e a w,Q1 e a w→e=.normal) {d:Nat}
  (hnext:∀a w,Q1 .normal a w→∀f listed,listed.size=ops.size→(∀i,i<ops.size→listed.getD i true=decide (i<m))→wpAnyIn F n P .any ops Q (f+d) listed a w):
  ∀(k:Nat) (l' l:Array Bool) (a:Act) (w:World),Sub m ops.size l' l→Clo ops l→wpAnyIn F n P .any (ops.extract 0 m) Q1 k l' a w→wpAnyIn F n P .any ops Q (k+d) l a w:=by
 unfold splitOk at h
 simp only[Bool.and_eq_true] at h
 obtain⟨⟨⟨⟨hm,h2⟩,h3⟩,hgu⟩,h4⟩:=h
 rw[ble_dec,decide_eq_true_eq] at hm
 have hsub:∀i,i<m→(ops.extract 0 m)[i]?=ops[i]?:=fun i hi=>by
  rw[Array.getElem?_extract]
  simp only[Nat.zero_add,Nat.sub_zero]
  rw[if_pos (by omega)]
 have hback:∀i o,ops[i]?=some o→∀e∈o.after.toList,Region.binds .any e=true→e.on<i:=fun i o ho e he hb=>by
  have hi:i<ops.size:=(Array.getElem?_eq_some_iff.1 ho).1
  unfold edgesOk at h2
  have g2:=List.all_eq_true.1 (List.all_eq_true.1 h2 i (by simpa using hi)) e.on ((edges_at ho).2 ⟨e,he,hb,rfl⟩)
  simpa using g2
 have rdy:∀ {l' l:Array Bool},Sub m ops.size l' l→∀i,i<m→(i∈Region.ready .any ops l↔i∈Region.ready .any (ops.extract 0 m) l'):=fun {l' l} hs i hi=>by
  rw[mem_ready,mem_ready,hs.eq i hi,hsub i hi]
  refine and_congr Iff.rfl ⟨?_,?_⟩
  ·rintro ⟨o,ho,hall⟩
   refine⟨o,ho,fun e he hb=>?_⟩
   have hlt:=hback i o ho e (by simpa using he) hb
   rw[getD_tf' (by rw[hs.s1];omega),hs.eq _ (by omega),←getD_tf' (by rw[hs.s2];omega)]
   exact hall e he hb
  ·rintro ⟨o,ho,hall⟩
   refine⟨o,ho,fun e he hb=>?_⟩
   have hlt:=hback i o ho e (by simpa using he) hb
   rw[getD_tf' (by rw[hs.s2];omega),←hs.eq _ (by omega),←getD_tf' (by rw[hs.s1];omega)]
   exact hall e he hb
 have full:∀ {l' l:Array Bool},Sub m ops.size l' l→Region.ready .any (ops.extract 0 m) l'=[]→∀i,i<m→l.getD i true=true:=fun {l' l} hs hr i=>by
  induction i using Nat.strongRecOn with
  | _ i ih=>
    intro hi
    cases hli:l.getD i true with
    | true=>rfl
    | false=>
      have:i∈Region.ready .any ops l:=by
       rw[mem_ready]
       refine⟨hli,ops[i]'(by omega),Array.getElem?_eq_getElem (by omega),fun e he hb=>?_⟩
       have hlt:=hback i _ (Array.getElem?_eq_getElem (by omega)) e (by simpa using he) hb
       rw[getD_tf' (by rw[hs.s2];omega)]
       exact ih e.on hlt (by omega)
      rw[rdy hs i hi,hr] at this
      cases this
 have fin:∀ {l' l:Array Bool},Sub m ops.size l' l→Region.ready .any (ops.extract 0 m) l'=[]→∀i,i<ops.size→l.getD i true=decide (i<m):=fun {l' l} hs hr i hi=>by
  by_cases him:i<m
  ·rw[full hs hr i him];simp[him]
  ·rw[←getD_tf' (by rw[hs.s2];exact hi),hs.late i (by omega)];simp[him]
 intro k
 induction k with
 | zero=>
   intro l' l a w hs hc hw
   have:=hnext a w hw.2 0 l hs.s2 (fin hs hw.1)
   exact this
 | succ k ih=>
   intro l' l a w hs hc hw
   obtain⟨w1,w2⟩:=hw
   by_cases hr:Region.ready .any (ops.extract 0 m) l'=[]
   ·exact hnext a w (w1 hr) (k+1) l hs.s2 (fin hs hr)
   ·obtain⟨x,hx⟩:=List.exists_mem_of_ne_nil _ hr
    have hxm:x<m:=by
     rw[mem_ready] at hx
     obtain⟨_,o,ho,_⟩:=hx
     have:=(Array.getElem?_eq_some_iff.1 ho).1
     simp at this;omega
    have hxl:l.getD x true=false:=by
     rw[mem_ready,hs.eq x hxm] at hx;exact hx.1
    have key:∀i∈Region.ready .any ops l,i<m:=fun i hi=>by
     refine Classical.byContradiction fun hge=>?_
     rw[mem_ready] at hi
     obtain⟨_,o,ho,hall⟩:=hi
     have his:i<ops.size:=(Array.getElem?_eq_some_iff.1 ho).1
     have g4:=List.all_eq_true.1 h4 i (by simpa using his)
     have hnb:i.blt m=false:=by
      cases hb:i.blt m with
      | false=>rfl
      | true=>
        have:(i+1).ble m=true:=hb
        rw[ble_dec,decide_eq_true_eq] at this
        omega
     rw[hnb,Bool.false_or] at g4
     have:=anc_listed h2 h3 hc i x his (by omega) (List.all_eq_true.1 g4 x (by simpa using hxm)) fun o' ho' e he hb=>by
      rw[ho] at ho';cases ho'
      exact hall e (by simpa using he) hb
     rw[getD_tf' (by rw[hs.s2];omega),hxl] at this
     cases this
    have ek:k+1+d=(k+d)+1:=by omega
    rw[ek]
    refine⟨fun he=>?_,fun i hi=>?_⟩
    ·have:=(rdy hs x hxm).2 hx
     rw[he] at this;cases this
    ·have him:=key i hi
     have hi':=(rdy hs i him).1 hi
     have h5:=w2 i hi'
     rw[mem_ready] at hi
     obtain⟨hli,o,ho,hall⟩:=hi
     have his:i<ops.size:=by omega
     have hs':Sub m ops.size (l'.setIfInBounds i true) (l.setIfInBounds i true):=by
      refine⟨by simp[hs.s1],by simp[hs.s2],fun j hj=>?_,fun j hj=>?_⟩
      ·have g:∀(q:Array Bool),j<q.size→(q.setIfInBounds i true).getD j true=if i=j then true else q.getD j true:=fun q hq=>by
        simp only[Array.getD,Array.size_setIfInBounds,hq,dif_pos]
        by_cases e:i=j
        ·subst e;simp[hq]
        ·rw[if_neg e];exact Array.getElem_setIfInBounds_ne _ e
       rw[g _ (by rw[hs.s1];exact hj),g _ (by rw[hs.s2];omega),hs.eq j hj]
      ·by_cases hjl:j<l.size
       ·have:=hs.late j hj
        simp only[Array.getD,hjl,dif_pos] at this
        simp only[Array.getD,Array.size_setIfInBounds,hjl,dif_pos]
        exact(Array.getElem_setIfInBounds_ne _ (by omega)).trans this
       ·simp[Array.getD,hjl]
     have hc':Clo ops (l.setIfInBounds i true):=by
      intro j o' hj ho' e he hb
      have mono:∀q,l.getD q false=true→(l.setIfInBounds i true).getD q false=true:=fun q hq=>by
       have hq1:q<l.size:=by
        unfold Array.getD at hq
        split at hq
        ·assumption
        ·cases hq
       simp only[Array.getD,Array.size_setIfInBounds,hq1,dif_pos] at hq ⊢
       by_cases e:i=q
       ·subst e;exact Array.getElem_setIfInBounds_self _
       ·exact(Array.getElem_setIfInBounds_ne _ e).trans hq
      refine mono _ ?_
      by_cases e1:i=j
      ·subst e1
       rw[ho] at ho';cases ho'
       exact hall e (by simpa using he) hb
      ·refine hc j o' ?_ ho' e he hb
       rw[Array.getElem?_setIfInBounds] at hj
       rw[if_neg e1] at hj
       exact hj
     unfold wpOpIn at h5 ⊢
     rw[hsub i him,ho] at h5
     rw[ho]
     have hyl:Region.wanted o (yielded (ops.extract 0 m) a.tmps)=Region.wanted o (yielded ops a.tmps):=by
      have g5:=List.all_eq_true.1 hgu i (by simpa using him)
      rw[ho] at g5
      simp only at g5
      unfold Region.wanted
      cases hg:o.guard with
      | none=>rfl
      | some y=>
        obtain⟨q,want⟩:=y
        rw[hg] at g5
        have hq:q<m:=by
         have:(q+1).ble m=true:=g5
         rw[ble_dec,decide_eq_true_eq] at this
         exact this
        have:yielded (ops.extract 0 m) a.tmps q=yielded ops a.tmps q:=by
         unfold yielded
         rw[hsub q hq]
        simp only[this]
     simp only[hyl] at h5 ⊢
     split
     ·rename_i hw
      rw[if_pos hw] at h5
      exact op_swap hQ (Oper.wpIn_mono (fun a w=>ih _ _ a w hs' hc') h5)
     ·rename_i hw
      rw[if_neg hw] at h5
      exact⟨h5.1,ih _ _ _ _ hs' hc' h5.2⟩
def ran (m N:Nat):Array Bool:=((List.range N).map fun i=>decide (i<m)).toArray
theorem ran_of {m N:Nat} {l:Array Bool} (h1:l.size=N) (h2:∀i,i<N→l.getD i true=decide (i<m)):l=ran m N:=by
 apply Array.ext
 ·simp[ran,h1]
 ·intro i hi hi'
  have:=h2 i (by omega)
  simp only[Array.getD,hi,dif_pos] at this
  rw[←Array.getInternal_eq_getElem,this]
  simp[ran]
theorem region_split {id d:Nat} {a:Act} {w:World} {l:List Oper} {R:Act→World→Prop} (hro:F.round=none) (hm:P.follows .mixedOrders=true) (h:splitOk ops m=true) (hl:(ops.extract 0 m).toList=l)
  (hB:Region.lexB .any (ops.extract 0 m)=true) (hd:m+d=ops.size)
  (hq:wpQuietIn F n P (ops.extract 0 m) (fun w'=>∃n,w'=w.drewN n) (fun a'=>∀w',(∃n,w'=w.drewN n)→R a' w') l a)
  (hnext:∀a w,R a w→∀f,wpAnyIn F n P .any ops Q (f+d) (ran m ops.size) a w):(Code.region id ops true).wpIn F n P Q a w:=by
 refine wpIn_region_any hm ?_
 have hms:m≤ops.size:=by omega
 have hsz:(ops.extract 0 m).size=m:=by simp;omega
 simp only[Region.lexB,Bool.and_eq_true] at hB
 have hlen:l.length=m:=by rw[←hl];simp;omega
 have h1:=wpAnyQIn_lex (F:=F) (n:=n) (P:=P) (C:=fun w'=>∃n,w'=w.drewN n) (md:=.any) hB.1 l 0 (Array.replicate m false) a (fun j=>by rw[←hl,Array.getElem?_toList,Nat.zero_add]) (by
  have:=hB.2
  rw[hsz] at this
  rw[hlen];exact this) hq
 rw[hlen] at h1
 have h2:=wpAnyIn_of_quiet (Q':=fun e a' w'=>e=.normal∧R a' w') hro (fun _ w' hw' h=>⟨rfl,h w' hw'⟩) _ _ _ _ (⟨1,rfl⟩:∃n,{ w with drawn:=w.drawn+1 }=w.drewN n) h1
 have gr:∀(k i:Nat) (d:Bool),(Array.replicate k false).getD i d=if i<k then false else d:=by
  intro k i d
  by_cases hk:i<k<;>simp[Array.getD,hk]
 have:=any_split (Q:=Q) h (fun e a w h=>h.1) (d:=d) (fun a w hR f listed h1 h2=>by rw[ran_of h1 h2];exact hnext a w hR.2 f) m (Array.replicate m false) (Array.replicate ops.size false) a _ ⟨by simp,by simp,fun i hi=>by rw[gr,gr,if_pos hi,if_pos (by omega)],fun i hi=>by rw[gr];split<;>rfl⟩ (fun j o hj=>by
  rw[Array.getElem?_replicate] at hj
  split at hj<;>cases hj) h2
 rw[hd] at this
 exact this
end Go.Vm
