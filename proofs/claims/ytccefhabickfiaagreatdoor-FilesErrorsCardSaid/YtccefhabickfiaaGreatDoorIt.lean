/-
  A region that draws its order, whose last operations come behind all others: its first part by itself.
  A sheet's units: the iterator: what it calls.
  A sheet's units: the iterator: what it hands out.
  A sheet's units: the iterator, told: for the machine and for the extraction.
  strings.Lines: the iterator: what it hands out.
  The iterators of chapter 11, told: for the machine and for the extraction.
-/
import Derived.Test.YtccefhabickfiaaGreatDoorIn
import Derived.Shelf.RegionOpen
import Derived.LoopIn
import Derived.Test.YtccefhabickfiaaGreatDoorLP
set_option linter.unusedSimpArgs false
set_option linter.unusedVariables false
set_option linter.unusedSectionVars false
set_option linter.unnecessarySimpa false
namespace Go.Vm
open Go.RowKit
variable {P:Program} {F:Fence} {n:Nat} {ops:Array Oper} {Q Q1:Exit->Act->World->Prop} {m:Nat}
theorem kle (hQ:∀e a w,Q1 e a w->e=.normal) {o:Oper} {a:Act} {w:World} {K:Act->World->Prop} (h:o.wpIn F n P a w K Q1):o.wpIn F n P a w K Q:=by
 refine⟨h.1,?_⟩;have h:=h.2;have np:∀ {ch a w},¬Q1 (.panic ch) a w:=λh=>by have:=hQ _ _ _ h;cases this
 have no:¬LetsOut Q1:=fun⟨a,w,h⟩=>by have:=hQ _ _ _ h;cases this
 generalize (o.semAt F.round a.eval).run P w=x at h ⊢;cases x with
 | ok y w'=>
   cases y<;>simp only[Oper.uponIn] at h ⊢
   all_goals first
    | exact h
    | exact⟨h.1,CallsIn.mono h.2 λe w'' he=>by cases e<;>first | exact he | exact(np he).elim | exact(no he).elim⟩
    | exact⟨h.1,RoundIn.mono h.2 λe w'' he=>by cases e<;>first | exact he | exact(np he).elim | exact(no he).elim⟩
 | halt y w'=>cases y<;>simp only[Oper.uponIn] at h ⊢<;>first | exact h | exact(np h).elim
def jv8 (ops:Array Oper) (m:Nat):Bool:=
 let es:=ops.toList.map C5
 let an:=(Region.before ops).toList
 m.ble ops.size&&je9 es&&ji6 es an&&((List.range m).all λi=>match ops[i]? with | some o=>(match o.guard with | some (k,_)=>k.blt m | none=>true) | none=>true)&&(List.range ops.size).all λj=>j.blt m||(List.range m).all λi=>(an.getD j 0).testBit i
def Clo (ops:Array Oper) (listed:Array Bool):Prop:=∀(j:Nat) (o:Oper),listed[j]?=some true->ops[j]?=some o->∀e∈o.after.toList,Region.binds .any e=true->listed.getD e.on false=true
theorem jz9 {j:Nat} {o:Oper} (ho:ops[j]?=some o) {k:Nat}:k∈(ops.toList.map C5).getD j []↔∃e∈o.after.toList,Region.binds .any e=true/\e.on=k:=by
 have:(ops.toList.map C5).getD j []=C5 o:=by
  rw[gP,mG];have:ops.toList[j]?=some o:=by simpa using ho
  rw[this];rfl
 rw[this];unfold C5;simp only[qK,Option.ite_none_right_eq_some,bA]
theorem getD_some {l:Array Bool} {k:Nat} (h:l.getD k false=true):l[k]?=some true:=by
 unfold Array.getD at h;split at h
 ·rename_i hk;rw[wC hk];exact congrArg some h
 ·cases h
theorem j9w (h2:je9 (ops.toList.map C5)=true) (h3:ji6 (ops.toList.map C5) (Region.before ops).toList=true) {listed:Array Bool} (hc:Clo ops listed):
  ∀(j i:Nat),j<ops.size->i<ops.size->((Region.before ops).toList.getD j 0).testBit i=true->(∀o,ops[j]?=some o->∀e∈o.after.toList,Region.binds .any e=true->listed.getD e.on false=true)->listed.getD i false=true:=by
 intro j;induction j using Nat.strongRecOn with
 | _ j ih=>
   intro i hj hi hb hd;have ho:ops[j]?=some ops[j]:=wC hj;unfold ji6 at h3;have g1:=cI.1 (cI.1 h3 j (by simpa using hj)) i (by simpa using hi);simp only[hb,fS,i7,qgx,pC,beq_iff_eq] at g1;obtain⟨k,hk,hki⟩:=g1;obtain⟨e,he,hbd,rfl⟩:=(jz9 ho).1 hk;have hl:=hd _ ho e he hbd;rcases hki with rfl | hki
   ·exact hl
   ·unfold je9 at h2;have g2:=cI.1 (cI.1 h2 j (by simpa using hj)) e.on hk;have hlt:e.on<j:=by simpa using g2
    refine ih e.on hlt i (by omega) hi hki λo' ho' e' he' hb'=>?_
    exact hc _ _ (getD_some hl) ho' e' he' hb'
structure Sub (m N:Nat) (l' l:Array Bool):Prop where
 s1:l'.size=m
 s2:l.size=N
 eq:∀i,i<m->l'.getD i true=l.getD i true
 late:∀i,m<=i->l.getD i false=false
theorem jda {l:Array Bool} {k:Nat} (h:k<l.size):l.getD k false=l.getD k true:=by simp[Array.getD,h]
theorem j9x (h:jv8 ops m=true) (hQ:∀e a w,Q1 e a w->e=.normal) {d:Nat}
  (hnext:∀a w,Q1 .normal a w->∀f listed,listed.size=ops.size->(∀i,i<ops.size->listed.getD i true=decide (i<m))->wpAnyIn F n P .any ops Q (f+d) listed a w):
  ∀(k:Nat) (l' l:Array Bool) (a:Act) (w:World),Sub m ops.size l' l->Clo ops l->wpAnyIn F n P .any (ops.extract 0 m) Q1 k l' a w->wpAnyIn F n P .any ops Q (k+d) l a w:=by
 unfold jv8 at h;simp only[aW] at h;obtain⟨⟨⟨⟨hm,h2⟩,h3⟩,hgu⟩,h4⟩:=h;rw[bE,aQ] at hm;have hsub:∀i,i<m->(ops.extract 0 m)[i]?=ops[i]?:=λi hi=>by
  rw[Array.getElem?_extract];simp only[mV,sN];rw[aK (by omega)]
 have hback:∀i o,ops[i]?=some o->∀e∈o.after.toList,Region.binds .any e=true->e.on<i:=λi o ho e he hb=>by
  have hi:i<ops.size:=(lD.1 ho).1;unfold je9 at h2;have g2:=cI.1 (cI.1 h2 i (by simpa using hi)) e.on ((jz9 ho).2 ⟨e,he,hb,rfl⟩);simpa using g2
 have rdy:∀ {l' l:Array Bool},Sub m ops.size l' l->∀i,i<m->(i∈Region.ready .any ops l↔i∈Region.ready .any (ops.extract 0 m) l'):=λ{l' l} hs i hi=>by
  rw[mem_ready,mem_ready,hs.eq i hi,hsub i hi];refine and_congr Iff.rfl ⟨?_,?_⟩
  ·rintro ⟨o,ho,hall⟩;refine⟨o,ho,λe he hb=>?_⟩;have hlt:=hback i o ho e (by simpa using he) hb;rw[jda (by rw[hs.s1];omega),hs.eq _ (by omega),<-jda (by rw[hs.s2];omega)];exact hall e he hb
  ·rintro ⟨o,ho,hall⟩;refine⟨o,ho,λe he hb=>?_⟩;have hlt:=hback i o ho e (by simpa using he) hb;rw[jda (by rw[hs.s2];omega),<-hs.eq _ (by omega),<-jda (by rw[hs.s1];omega)];exact hall e he hb
 have full:∀ {l' l:Array Bool},Sub m ops.size l' l->Region.ready .any (ops.extract 0 m) l'=[]->∀i,i<m->l.getD i true=true:=λ{l' l} hs hr i=>by
  induction i using Nat.strongRecOn with
  | _ i ih=>
    intro hi;cases hli:l.getD i true with
    | true=>rfl
    | false=>
      have:i∈Region.ready .any ops l:=by
       rw[mem_ready];refine⟨hli,ops[i]'(by omega),wC (by omega),λe he hb=>?_⟩;have hlt:=hback i _ (wC (by omega)) e (by simpa using he) hb;rw[jda (by rw[hs.s2];omega)];exact ih e.on hlt (by omega)
      rw[rdy hs i hi,hr] at this;cases this
 have fin:∀ {l' l:Array Bool},Sub m ops.size l' l->Region.ready .any (ops.extract 0 m) l'=[]->∀i,i<ops.size->l.getD i true=decide (i<m):=λ{l' l} hs hr i hi=>by
  by_cases him:i<m
  ·rw[full hs hr i him];simp[him]
  ·rw[<-jda (by rw[hs.s2];exact hi),hs.late i (by omega)];simp[him]
 intro k;induction k with
 | zero=>
   intro l' l a w hs hc hw;have:=hnext a w hw.2 0 l hs.s2 (fin hs hw.1);exact this
 | succ k ih=>
   intro l' l a w hs hc hw;obtain⟨w1,w2⟩:=hw;by_cases hr:Region.ready .any (ops.extract 0 m) l'=[]
   ·exact hnext a w (w1 hr) (k+1) l hs.s2 (fin hs hr)
   ·obtain⟨x,hx⟩:=List.exists_mem_of_ne_nil _ hr;have hxm:x<m:=by
     rw[mem_ready] at hx;obtain⟨_,o,ho,_⟩:=hx;have:=(lD.1 ho).1;simp at this;omega
    have hxl:l.getD x true=false:=by
     rw[mem_ready,hs.eq x hxm] at hx;exact hx.1
    have key:∀i∈Region.ready .any ops l,i<m:=λi hi=>by
     refine nJ λhge=>?_
     rw[mem_ready] at hi;obtain⟨_,o,ho,hall⟩:=hi;have his:i<ops.size:=(lD.1 ho).1;have g4:=cI.1 h4 i (by simpa using his);have hnb:i.blt m=false:=by
      cases hb:i.blt m with
      | false=>rfl
      | true=>
        have:(i+1).ble m=true:=hb;rw[bE,aQ] at this;omega
     rw[hnb,i7] at g4;have:=j9w h2 h3 hc i x his (by omega) (cI.1 g4 x (by simpa using hxm)) λo' ho' e he hb=>by
      rw[ho] at ho';cases ho';exact hall e (by simpa using he) hb
     rw[jda (by rw[hs.s2];omega),hxl] at this;cases this
    have ek:k+1+d=(k+d)+1:=by omega
    rw[ek];refine⟨λhe=>?_,λi hi=>?_⟩
    ·have:=(rdy hs x hxm).2 hx;rw[he] at this;cases this
    ·have him:=key i hi;have hi':=(rdy hs i him).1 hi;have h5:=w2 i hi';rw[mem_ready] at hi;obtain⟨hli,o,ho,hall⟩:=hi;have his:i<ops.size:=by omega
     have hs':Sub m ops.size (l'.setIfInBounds i true) (l.setIfInBounds i true):=by
      refine⟨by simp[hs.s1],by simp[hs.s2],λj hj=>?_,λj hj=>?_⟩
      ·have g:∀(q:Array Bool),j<q.size->(q.setIfInBounds i true).getD j true=if i=j then true else q.getD j true:=λq hq=>by
        simp only[Array.getD,qgp,hq,dif_pos];by_cases e:i=j
        ·subst e;simp[hq]
        ·rw[aF e];exact qfo _ e
       rw[g _ (by rw[hs.s1];exact hj),g _ (by rw[hs.s2];omega),hs.eq j hj]
      ·by_cases hjl:j<l.size
       ·have:=hs.late j hj;simp only[Array.getD,hjl,dif_pos] at this;simp only[Array.getD,qgp,hjl,dif_pos];exact(qfo _ (by omega)).trans this
       ·simp[Array.getD,hjl]
     have hc':Clo ops (l.setIfInBounds i true):=by
      intro j o' hj ho' e he hb;have mono:∀q,l.getD q false=true->(l.setIfInBounds i true).getD q false=true:=λq hq=>by
       have hq1:q<l.size:=by
        unfold Array.getD at hq;split at hq
        ·assumption
        ·cases hq
       simp only[Array.getD,qgp,hq1,dif_pos] at hq ⊢;by_cases e:i=q
       ·subst e;exact Array.getElem_setIfInBounds_self _
       ·exact(qfo _ e).trans hq
      refine mono _ ?_;by_cases e1:i=j
      ·subst e1;rw[ho] at ho';cases ho';exact hall e (by simpa using he) hb
      ·refine hc j o' ?_ ho' e he hb;rw[qdz] at hj;rw[aF e1] at hj;exact hj
     unfold wpOpIn at h5 ⊢;rw[hsub i him,ho] at h5;rw[ho];have hyl:Region.wanted o (yielded (ops.extract 0 m) a.tmps)=Region.wanted o (yielded ops a.tmps):=by
      have g5:=cI.1 hgu i (by simpa using him);rw[ho] at g5;simp only at g5;unfold Region.wanted;cases hg:o.guard with
      | none=>rfl
      | some y=>
        obtain⟨q,want⟩:=y;rw[hg] at g5;have hq:q<m:=by
         have:(q+1).ble m=true:=g5;rw[bE,aQ] at this;exact this
        have:yielded (ops.extract 0 m) a.tmps q=yielded ops a.tmps q:=by
         unfold yielded;rw[hsub q hq]
        simp only[this]
     simp only[hyl] at h5 ⊢;split
     ·rename_i hw;rw[aK hw] at h5;exact kle hQ (Oper.wpIn_mono (λa w=>ih _ _ a w hs' hc') h5)
     ·rename_i hw;rw[aF hw] at h5;exact⟨h5.1,ih _ _ _ _ hs' hc' h5.2⟩
def ran (m N:Nat):Array Bool:=((List.range N).map λi=>decide (i<m)).toArray
theorem kl5 {m N:Nat} {l:Array Bool} (h1:l.size=N) (h2:∀i,i<N->l.getD i true=decide (i<m)):l=ran m N:=by
 apply Array.ext
 ·simp[ran,h1]
 ·intro i hi hi';have:=h2 i (by omega);simp only[Array.getD,hi,dif_pos] at this;rw[<-Array.getInternal_eq_getElem,this];simp[ran]
theorem knd {id d:Nat} {a:Act} {w:World} {l:List Oper} {R:Act->World->Prop} (hro:F.round=none) (hm:P.follows .mixedOrders=true) (h:jv8 ops m=true) (hl:(ops.extract 0 m).toList=l)
  (hB:Region.lexB .any (ops.extract 0 m)=true) (hd:m+d=ops.size)
  (hq:wpQuietIn F n P (ops.extract 0 m) (λw'=>∃n,w'=w.drewN n) (λa'=>∀w',(∃n,w'=w.drewN n)->R a' w') l a)
  (hnext:∀a w,R a w->∀f,wpAnyIn F n P .any ops Q (f+d) (ran m ops.size) a w):(Code.region id ops true).wpIn F n P Q a w:=by
 refine wpIn_region_any hm ?_;have hms:m<=ops.size:=by omega
 have hsz:(ops.extract 0 m).size=m:=by simp;omega
 simp only[Region.lexB,aW] at hB;have hlen:l.length=m:=by rw[<-hl];simp;omega
 have h1:=wpAnyQIn_lex (F:=F) (n:=n) (P:=P) (C:=λw'=>∃n,w'=w.drewN n) (md:=.any) hB.1 l 0 (Array.replicate m false) a (λj=>by rw[<-hl,wB,mV]) (by
  have:=hB.2;rw[hsz] at this;rw[hlen];exact this) hq
 rw[hlen] at h1;have h2:=wpAnyIn_of_quiet (Q':=λe a' w'=>e=.normal/\R a' w') hro (λ_ w' hw' h=>⟨rfl,h w' hw'⟩) _ _ _ _ (⟨1,rfl⟩:∃n,{ w with drawn:=w.drawn+1 }=w.drewN n) h1;have gr:∀(k i:Nat) (d:Bool),(Array.replicate k false).getD i d=if i<k then false else d:=by
  intro k i d;by_cases hk:i<k<;>simp[Array.getD,hk]
 have:=j9x (Q:=Q) h (λe a w h=>h.1) (d:=d) (λa w hR f listed h1 h2=>by rw[kl5 h1 h2];exact hnext a w hR.2 f) m (Array.replicate m false) (Array.replicate ops.size false) a _ ⟨by simp,by simp,λi hi=>by rw[gr,gr,aK hi,aK (by omega)],λi hi=>by rw[gr];split<;>rfl⟩ (λj o hj=>by
  rw[qhk] at hj;split at hj<;>cases hj) h2
 rw[hd] at this;exact this
end Go.Vm
namespace Go.Vm.X.In
open Go Go.Vm Go.Vm.W Go.Vm.X Go.Proofs Go.RowKit
theorem jzp {t:TE} {m:Nat} (ht:fU BI jpy prog m [t]) {a:iX t.ins} {r:iX t.outs} (hr:t.run a=some r) {vs:List AV} (hv:vA [] t.ins a vs []) {v0:AV} {u0:Value}
  (h0:∀F v E,Z4 F t.outs r v E->v=v0) (h1:∀ρ u,VR ρ v0 u->u=u0)
  {ρ:RM} {W:World} (hR:HR ρ BI.H0 W) (hgl:GLok gl ρ) (hfree:∀b,BI.nx0<=b->ρ b=none) {args:Array Value} (ha:VRs ρ vs args.toList):
  Calls Tryz.prog t.f args W λe W'=>e=.returned u0/\Below W.heap.size W W':=by
 have hk:HK BI RO [] BI.H0 RO:=⟨by decide,by decide,λ_ _=>rfl,(λ_ h=>by cases h),qgj⟩
 obtain⟨v,E,N,H',nx',F',h2,_,_,_,h3⟩:=ht t (cD.2 rfl) m (bV _) a r hr RO [] [] BI.H0 RO hk (λ_ h=>by cases h) [] (λx hx=>by cases hx) vs hv;obtain rfl:=h0 _ _ _ h3;have hwf:WF BI.H0 RO:=λb h=>by
  have:b<12:=by
   have hw:=jyf (es:=es) (n:=12) (by kernel_rfl);exact hw b h
  exact nK this (by decide)
 obtain⟨_,key⟩:=(jhe kjb mixed N8 m).1 _ _ _ _ _ _ _ _ h2;refine(key ρ W args hR (λb hb _=>hfree b (gE (by decide) hb)) (bV _) hgl hwf ha).2.mono ?_;rintro e W' ⟨v',rfl,ρ',st,_,hv'⟩;refine⟨by rw[h1 _ _ hv'],st.os,st.tape,st.output,st.size,λx hx=>st.keep x hx λb l hb _ _=>?_⟩;apply nJ;intro hn;rw[hfree b (gE (by decide) (Nat.le_of_not_lt hn))] at hb;cases hb
theorem klo {n er:Int} {F:cE} {v:AV} {E:List Ent} (h:Z4 F [.d (.int .i64),.d (.int .i64)] (n,er) v E):v=.tup [.int .i64 n,.int .i64 er]:=by
 obtain⟨vs,rfl,v1,vs',E1,E2,rfl,_,h1,v2,rfl,h2⟩:=h;unfold mZ at h1 h2;simp only[Rep.agg,Ty.agg,aJ] at h1 h2;obtain⟨_,h1,_⟩:=h1;obtain⟨_,h2,_⟩:=h2;simp only[cT,sM,uT] at h1 h2;rw[h1,h2];rfl
theorem kln {n:Int} {F:cE} {v:AV} {E:List Ent} (h:Z4 F [.d (.int .i64)] n v E):v=.int .i64 n:=by
 obtain⟨vs,rfl,v1,rfl,h1⟩:=h;unfold mZ at h1;simp only[Rep.agg,Ty.agg,aJ] at h1;obtain⟨_,h1,_⟩:=h1;simp only[cT,sM,uT] at h1;rw[h1];rfl
theorem j4r {w h:Int}:mZ [] (.d (.prod (.int .i64) (.int .i64))) (w,h) (.agg [.int .i64 w,.int .i64 h]) []:=⟨_,rfl,rfl,⟨_,_,rfl,rfl,rfl⟩,rfl⟩
theorem j1m {k:IntKind} {n:Int}:mZ [] (.d (.int k)) n (.int k n) []:=⟨rfl,rfl,rfl⟩
structure QOn (W:World):Prop where
 ex:∃ρ:RM,HR ρ BI.H0 W/\GLok gl ρ/\∀b,BI.nx0<=b->ρ b=none
theorem j2o {w h id e n er:Int} (hv:sheets_Neighbour fuel ((w,h),(id,e))=some (n,er)) {W:World} (hq:QOn W):
  Calls Tryz.prog 128 #[.agg #[.int .i64 w,.int .i64 h],.int .i64 id,.int .u8 e] W λen W'=>en=.returned (.tuple #[.int .i64 n,.int .i64 er])/\Below W.heap.size W W':=by
 obtain⟨ρ,h1,h2,h3⟩:=hq.ex;refine jzp (t:=Y6 fuel) ju5 (a:=((w,h),(id,e))) hv (vs:=[.agg [.int .i64 w,.int .i64 h],.int .i64 id,.int .u8 e]) ⟨_,_,[],[],rfl,rfl,j4r,_,_,[],[],rfl,rfl,j1m,_,rfl,j1m⟩ (λF v E h=>klo h) (λρ u hu=>?_) h1 h2 h3 ?_
 ·obtain⟨cs,rfl,v1,_,e1,h1,v2,_,rfl,h2,h3⟩:=hu;simp only[VR,VRs] at h1 h2 h3;subst h1 h2 h3;rw[show cs=#[.int .i64 n,.int .i64 er] from nL.1 e1]
 ·exact⟨_,_,rfl,⟨_,rfl,_,_,rfl,rfl,_,_,rfl,rfl,rfl⟩,_,_,rfl,rfl,_,_,rfl,rfl,rfl⟩
theorem jzx {w h n:Int} (hv:sheets_Count fuel (w,h)=some n) {W:World} (hq:QOn W):
  Calls Tryz.prog 161 #[.agg #[.int .i64 w,.int .i64 h]] W λen W'=>en=.returned (.int .i64 n)/\Below W.heap.size W W':=by
 obtain⟨ρ,h1,h2,h3⟩:=hq.ex;refine jzp (t:=jcg fuel) j3d (a:=(w,h)) hv (vs:=[.agg [.int .i64 w,.int .i64 h]]) ⟨_,rfl,j4r⟩ (λF v E h=>kln h) (λρ u hu=>hu) h1 h2 h3 ?_;exact⟨_,_,rfl,⟨_,rfl,_,_,rfl,rfl,_,_,rfl,rfl,rfl⟩,rfl⟩
end Go.Vm.X.In
namespace Go.Proofs
open Go.RowKit Go.Shelf Go.Vm
attribute [local go_sem] Oper.semAt_some
namespace Un
open Go.Vm.X.In (j2o jzx QOn)
def yF:Value->Int
 | .int _ n=>n
 | _=>0
def D5 (w h:Int) (i:Nat):Option (Int×Int):=Go.Vm.X.In.sheets_Neighbour Go.Vm.fuel ((w,h),(((i / 3:Nat):Int),((i%3:Nat):Int)))
def lI (w h:Int) (i:Nat):Bool:=match D5 w h i with
 | some (n,er)=>decide (er=0)&&decide (((i / 3:Nat):Int)<n)
 | none=>false
def oW (w h:Int) (k:Nat):List Nat:=(List.range k).filter (lI w h)
def unV (i:Nat):Array Value:=#[.agg #[.int .i64 ((i / 3:Nat):Int),.int .u8 ((i%3:Nat):Int)]]
theorem kpc {k i:Nat} {w h:Int} (hp:lI w h i=true) (hi:i<k):
  ((oW w h k).map unV)[((List.range i).filter (lI w h)).length]?=some (unV i):=by
 have e:List.range k=List.range i++i::List.range' (i+1) (k-i-1):=by
  rw[qhw,qhw];have h1:=List.range'_append_1 (s:=0) (m:=i) (n:=k-i);rw[show i+ (k-i)=k by omega,mV] at h1;rw[<-h1,show k-i=(k-i-1)+1 by omega,qip];rfl
 unfold oW;rw[e,qh8,qga,aK hp,eI,E9 (by simp)];simp
structure UnRdy (b o:Nat) (w h:Int) (W:World):Prop where
 w:W.cell? ⟨b,o,none⟩=some (.int .i64 w)
 h:W.cell? ⟨b,o+1,none⟩=some (.int .i64 h)
 q:QOn W
set_option maxRecDepth 100000 in
set_option maxHeartbeats 1000000 in
theorem kpg {b o:Nat} {w h k:Int} (hk:Go.Vm.X.In.sheets_Count Go.Vm.fuel (w,h)=some k) (hk0:0<=k) (hk1:k<=100000) (hok:∀i,i<3*k.toNat->(D5 w h i).isSome) (w0:World):
  jrs Tryz.prog 160 #[.pointer (some ⟨b,o,none⟩)] ((oW w h (3*k.toNat)).map unV) (λW=>UnRdy b o w h W) w0:=by
 intro l J Jx W hB hJ hJx hY hR h0;have hm:Tryz.prog.follows .mixedOrders=true:=by kernel_rfl
 refine callsIn_of_wp Tryz.func160 rfl trivial ?_ rfl;simp only[Tryz.ntmps160,qhq,cL,iD,Nat.reduceAdd,Nat.reduceSub,Array.replicate_succ,Array.replicate_zero,List.push_toArray,List.append_toArray,fB,fN];have r0:=hR 0 W h0;have r1:=r0.w;have r2:=r0.h
 gi_wp2
 refine⟨trivial,(je2 (jzx hk r0.q)).mono ?_⟩;rintro e W1 ⟨rfl,hB1⟩;have j1:=hJ _ _ _ h0 hB1
 gi_wp2
 gi_loopw [9] (λvi wr=>∃i:Nat,vi=.int .i64 i/\i<=k.toNat/\J ((List.range (3*i)).filter (lI w h)).length wr)
  (λvi wr=>k.toNat-(yF vi).toNat)
 case atStart=>exact⟨0,rfl,by omega,j1⟩
 case round=>
  obtain⟨i,rfl,hi,hJi⟩:=hrel;by_cases hlt:i<k.toNat
  ·have hd:decide ((i:Int)<k)=true:=bD (by omega)
   gi_wp2
   gi_loopw [12] (λvi wr=>∃e:Nat,vi=.int .u8 e/\e<=3/\J ((List.range (3*i+e)).filter (lI w h)).length wr)
    (λvi wr=>3-(yF vi).toNat)
   case atStart=>exact⟨0,rfl,by omega,hJi⟩
   case round=>
    obtain⟨e,rfl,he,hJe⟩:=hrel;by_cases hlt2:e<3
    ·have rr:=hR _ _ hJe;have r3:=rr.w;have r4:=rr.h
     gi_wp2
     obtain⟨⟨n,er⟩,hv⟩:=uQ.1 (hok (3*i+e) (by omega));have e1:(3*i+e) / 3=i:=by omega
     have e2:(3*i+e)%3=e:=by omega
     have hP:lI w h (3*i+e)=(decide (er=0)&&decide ((i:Int)<n)):=by unfold lI;rw[hv,e1]
     have hv':=hv;unfold D5 at hv';rw[e1,e2] at hv';refine⟨trivial,(je2 (j2o hv' rr.q)).mono ?_⟩;rintro en W2 ⟨rfl,hB2⟩;have hJ2:=hJ _ _ _ hJe hB2;have hno:∀ {W':World},lI w h (3*i+e)=false->J ((List.range (3*i+e)).filter (lI w h)).length W'->J ((List.range (3*i+ (e+1))).filter (lI w h)).length W':=λhp h=>by
      rw[show 3*i+ (e+1)=(3*i+e)+1 by omega,qis,qh8,qga,aF (by rw[hp];simp),List.filter_nil,kO];exact h
     have hwr:IntKind.u8.wrap ((e:Int)+1)=(e:Int)+1:=_root_.Go.Vm.W.wrap_in (k:=.u8) (by simp only[_root_.Go.Vm.W.inR];omega);by_cases he0:er=0
     ·subst he0;by_cases hn:(i:Int)<n
      ·have hp:lI w h (3*i+e)=true:=by rw[hP];simp[hn]
       obtain⟨fn,tmps,assign,body,hy,hR1⟩:=hY _ (unV (3*i+e)) W2 (kpc hp (by omega)) hJ2;unfold unV at hy;rw[e1,e2] at hy
       gi_wp2
       refine RoundIn.mono hR1 ?_;rintro en W3 (⟨rfl,hJ3⟩ | ⟨rfl,hJ3⟩)
       ·gi_wp2
        go_roundw
        case rel=>
         refine⟨e+1,by simp,by omega,?_⟩;rw[show 3*i+ (e+1)=(3*i+e)+1 by omega,qis,qh8,qga,aK hp];simpa using hJ3
        case measure=>simp[yF];omega
       ·gi_wp2
        refine bodyPost_ret (results_none rfl _ _ _) rfl ?_;exact⟨⟨_,rfl⟩,.inr hJ3⟩
      ·have hp:lI w h (3*i+e)=false:=by rw[hP];simp[hn]
       gi_wp2
       refine⟨λ_ h=>(by cases h),?_⟩
       gi_wp2
       go_roundw
       case rel=>exact⟨e+1,by simp,by omega,hno hp hJ2⟩
       case measure=>simp[yF];omega
     ·have he1:(er==0)=false:=by simpa using he0
      have hp:lI w h (3*i+e)=false:=by rw[hP];simp[he0]
      gi_wp2
      refine⟨λ_ h=>(by cases h),?_⟩
      gi_wp2
      go_roundw
      case rel=>exact⟨e+1,by simp,by omega,hno hp hJ2⟩
      case measure=>simp[yF];omega
    ·obtain rfl:e=3:=by omega
     have hwi:IntKind.i64.wrap ((i:Int)+1)=(i:Int)+1:=_root_.Go.Vm.W.wrap_in (k:=.i64) (by simp only[_root_.Go.Vm.W.inR];omega)
     gi_wp2
     go_roundw
     case rel=>exact⟨i+1,by simp,by omega,hJe⟩
     case measure=>simp[yF];omega
  ·obtain rfl:i=k.toNat:=by omega
   have hk2:((k.toNat:Nat):Int)=k:=by omega
   gi_wp2
   go_end0
   exact⟨⟨_,rfl⟩,.inl (by rw[cY];exact hJi)⟩
end Un
end Go.Proofs
namespace Go.Vm
namespace X
open W Go.Proofs Go.Proofs.Un
def s6:List AV->List AV->Bool
 | [],[]=>true
 | .int k x::a,.int j y::b=>decide (k=j)&&decide (x=y)&&s6 a b
 | _,_=>false
theorem jtj:∀ {a b:List AV},s6 a b=true->a=b
 | [],[],_=>rfl
 | [],_::_,h=>by simp[s6] at h
 | x::a,[],h=>by cases x<;>simp[s6] at h
 | x::a,y::b,h=>by
   cases x<;>cases y<;>simp only[s6,aW,aQ,lC] at h
   rw[h.1.1,h.1.2,jtj h.2]
def qL:List AV:=(In.es.head?.map (·.2)).getD []
def qN:Nat:=68
def X7 (H:Tr Blk) (b o n:Nat):Option (List AV):=match H.get b with
 | some (.cells c m)=>bif(o+n).ble m then take c o n else none
 | _=>none
theorem jvm {H:Tr Blk} {b:Nat} {m:List AV} {n:Nat} (h:HB.At H b (.cells m)) (hn:m.length=n):X7 H b 0 n=some m:=by
 obtain⟨c,h1,h2⟩:=h;have e:(0+n).ble m.length=true:=by rw[bE];simp[hn]
 simp only[X7,h1,e,aH];rw[W.take_at (H:=H) (b:=b) h2 n 0 (by omega),fW,<-hn,iL]
def okU (w h k:Int):Bool:=decide (0<=k)&&decide (k<=100000)&&(List.range (3*k.toNat)).all λi=>(D5 w h i).isSome
def ja1:ItF:=λfree H=>match free with
 | [.ptr b o]=>match X7 H b o 2,X7 H 1 0 qN with
   | some [.int .i64 w,.int .i64 h],some q=>bif s6 q qL then(match In.sheets_Count fuel (w,h) with
     | some k=>bif okU w h k then some ((oW w h (3*k.toNat)).map (fun(i:Nat)=>[.agg [.int .i64 ((i / 3:Nat):Int),.int .u8 ((i%3:Nat):Int)]]),[.int .i64 w,.int .i64 h]) else none
     | none=>none) else none
   | _,_=>none
 | _=>none
def jqw:Ty:=.prod (.int .i64) (.int .i64)
def jwl:Ty:=.prod (.int .i64) (.int .u8)
def xQ (x:G8 [jqw]):Option (List (Int×Int)):=match In.sheets_Count fuel (x.1.1,x.1.2) with
 | some k=>bif okU x.1.1 x.1.2 k then some ((oW x.1.1 x.1.2 (3*k.toNat)).map fun(i:Nat)=>(((i / 3:Nat):Int),((i%3:Nat):Int))) else none
 | none=>none
theorem jnr {F:cE}:∀(t:Ty),t.flatK=true->∀(x:t.den) (l:List AV),cT F t x l->l=C2 t x
 | .int k,_,x,l,h=>h
 | .bool,_,x,l,h=>h
 | .str,_,x,l,h=>h
 | .unit,_,x,l,h=>h
 | .prod a b,hf,x,l,⟨l1,l2,e,h1,h2⟩=>by
   simp only[Ty.flatK,aW] at hf;rw[e,jnr a hf.1 _ _ h1,jnr b hf.2 _ _ h2];rfl
 | .arr n t,hf,x,l,⟨_,h⟩=>by
   simp only[Ty.flatK] at hf;have key:∀(L:List t.den) (l:List AV),eM (cT F t) L l->l=L.flatMap (C2 t):=by
    intro L;induction L with
    | nil=>intro l h;exact h
    | cons x L ih=>
      rintro l ⟨l1,l2,rfl,h1,h2⟩;rw[jnr t hf _ _ h1,ih _ h2];rfl
   exact key _ _ h
theorem jxs {F:cE} {t:Ty} (hf:t.flatK=true):∀(L:List t.den) (l:List AV),eM (cT F t) L l->l=L.flatMap (C2 t)
 | [],l,h=>h
 | x::L,l,⟨l1,l2,e,h1,h2⟩=>by rw[e,jnr t hf _ _ h1,jxs hf _ _ h2];rfl
def jw7 (G:dT):Bool:=match gC G (gB+1) with
 | some (.fix t n L)=>t.flatK&&s6 (L.flatMap (C2 t)) qL
 | _=>false
theorem jqd:qL.length=qN:=by kernel_rfl
theorem kpe (G:dT) (F:cE) (H:Tr Blk) (cap:G8 [jqw]) (free:List AV) (l:List (Int×Int)) (hn:jw7 G=true) (hg:GOn G H) (h:jci F H [jqw] cap free) (hF:∀x∈F,x.2.At H x.1) (hr:xQ cap=some l):
  ja1 free H=some (l.map (λy=>[encV jwl y]),[.int .i64 cap.1.1,.int .i64 cap.1.2]):=by
 obtain⟨b1,m1,_,rfl,a1,r1,hnil⟩:=h;simp only[jci] at hnil;subst hnil;obtain⟨⟨w,h⟩,u⟩:=cap;obtain⟨_,_,rfl,r1,r2⟩:=r1;simp only[cT] at r1 r2;subst r1;subst r2;unfold jw7 at hn;split at hn<;>try (cases hn;done)
 rename_i t n L hq;simp only[aW] at hn;obtain⟨m,hm1,_,hm2⟩:=hg 1 t n L hq;have hm3:=jxs hn.1 _ _ hm2;have hm4:=jtj hn.2;rw[hm4] at hm3;subst hm3;unfold xQ at hr;split at hr<;>try (cases hr;done)
 rename_i k hk;obtain⟨hc,hr⟩:=cF hr;cases hr;simp only at hk hc;have e9:s6 qL qL=true:=by kernel_rfl
 simp only[ja1,jvm a1 (n:=2) rfl,jvm hm1 (n:=qN) jqd,fB,fN,e9,aH];rw[hk];simp only[hc,aH];show some _=some (List.map (λy:Int×Int=>[encV jwl y]) (List.map _ (oW w h (3*k.toNat))),_);rw[iQ];rfl
def kex:ITE:=⟨160,[jqw],jwl,xQ,ja1,λcap=>[.int .i64 cap.1.1,.int .i64 cap.1.2],jw7,false,kpe,[(160,ja1)],rfl⟩
theorem kma {ρ:RM} {H:Tr Blk} {w:World} {b o n:Nat} {l:List AV} {lc:Loc} (h:X7 H b o n=some l) (hr:HR ρ H w) (hb:ρ b=some lc):
  ∃vs:List Value,VRs ρ l vs/\∀j v,vs[j]?=some v->w.cell? ⟨lc.blk,lc.base+o+j,none⟩=some v:=by
 unfold X7 at h;split at h<;>try (cases h;done)
 rename_i c m hc;obtain⟨hm,h2⟩:=cF h;rw[bE,aQ] at hm;obtain⟨vs,h3,_,h4,_⟩:=jcz (P:=Tryz.prog) hr hc hb hm h2;refine⟨vs,h3,λj v hv=>?_⟩;have:=h4 j v hv;rw[zS] at this;exact this
theorem ket {ρ ρ':RM} {a:AV} {v:Value} (hi:(match a with | .int _ _=>true | _=>false)=true) (h:VR ρ a v):VR ρ' a v:=by
 cases a<;>first | (cases hi;done) | exact h
theorem kl4:(qL.all λa=>match a with | .int _ _=>true | _=>false)=true:=by kernel_rfl
theorem kpf {ρ:RM} {H:Tr Blk} {w:World} {gl:List Nat} {q:List AV} (h:X7 H 1 0 qN=some q) (hq:s6 q qL=true) (hr:HR ρ H w) (hgl:GLok gl ρ) (h2:gl.contains 1=true):In.QOn w:=by
 obtain rfl:=jtj hq;obtain⟨lc,hb,hblk,hbase⟩:=hgl 1 h2;refine⟨λb=>if b=1 then some lc else none,⟨λb k l hk hl=>?_,λb b' l l' h1 h2' e1 e2 _=>?_⟩,λg hg=>?_,λb hb=>?_⟩
 ·obtain rfl:b=1:=by
   by_cases e:b=1
   ·exact e
   ·simp only[e,dR] at hl;cases hl
  simp only[cM] at hl;cases hl;obtain⟨L,hL,rfl⟩:=jk6 hk;have hes:In.es=[(1,qL)]:=by kernel_rfl
  rw[hes] at hL;simp only[bJ,bK,true_and,gV,gR] at hL;subst hL;unfold X7 at h;split at h<;>try (cases h;done)
  rename_i c m hc;obtain⟨hm,ht⟩:=cF h;rw[bE,aQ] at hm;obtain⟨cs,elem,fr,g1,g2,g3,g4,g5⟩:=hr.blk 1 _ lc hc hb;obtain⟨t1,t2⟩:=jem _ c 0 qL ht;refine⟨cs,elem,fr,g1,by rw[jqd];omega,g3,g4,λi hi=>?_⟩;rw[jqd] at hi;obtain⟨a,v,k1,k2,k3⟩:=g5 i (by omega);refine⟨a,v,?_,k2,?_⟩
  ·rw[xD,aK (by rw[jqd];omega),<-k1,sN,<-t2 i (by omega),mV]
  ·have e:qL[i]?=some a:=by rw[<-k1];have:=t2 i (by omega);simpa using this.symm
   exact ket (cI.1 kl4 a (yR e)) k3
 ·have f1:b=1:=by
   by_cases e:b=1
   ·exact e
   ·simp only[e,dR] at e1;cases e1
  have f2:b'=1:=by
   by_cases e:b'=1
   ·exact e
   ·simp only[e,dR] at e2;cases e2
  exact .inl (f1.trans f2.symm)
 ·have:g=1:=by simpa[In.gl] using hg
  subst this;exact⟨lc,by simp,hblk,hbase⟩
 ·have:b≠1:=λe=>by subst e;revert hb;decide
  simp only[this,dR]
theorem j6a {ρ:RM} {H:Tr Blk} {w:World} {gl:List Nat} {b o:Nat} {l1:Loc} {yk:List (List AV)×List AV} (h:ja1 [.ptr b o] H=some yk) (hr:HR ρ H w) (hgl:GLok gl ρ) (h2:gl.contains 1=true) (h1:ρ b=some l1):
  ∃W0 H0 k,yk=((oW W0 H0 (3*k.toNat)).map (fun(i:Nat)=>[.agg [.int .i64 ((i / 3:Nat):Int),.int .u8 ((i%3:Nat):Int)]]),[.int .i64 W0,.int .i64 H0])/\In.sheets_Count fuel (W0,H0)=some k/\0<=k/\k<=100000/\(∀i,i<3*k.toNat->(D5 W0 H0 i).isSome)/\UnRdy l1.blk (l1.base+o) W0 H0 w:=by
 simp only[ja1] at h;split at h<;>try (cases h;done)
 rename_i W0 H0 q e1 e2;obtain⟨hq,h⟩:=cF h;split at h<;>try (cases h;done)
 rename_i k hk;obtain⟨hc,h⟩:=cF h;cases h;simp only[okU,aW,aQ,cI,eZ] at hc;obtain⟨vs1,⟨w0,_,rfl,g0,w1,_,rfl,g1,g2⟩,k1⟩:=kma e1 hr h1;simp only[VRs] at g2;subst g2;simp only[VR] at g0 g1;subst g0;subst g1;exact⟨W0,H0,k,rfl,hk,hc.1.1,hc.1.2,hc.2,⟨k1 0 _ rfl,k1 1 _ rfl,kpf e2 hq hr hgl h2⟩⟩
theorem kpd {gl:List Nat} (h2:gl.contains 1=true):jxh Tryz.prog gl 160 ja1:=by
 intro free H yk h ρ w lb hr hgl hv;have hfree:∃b o,free=[.ptr b o]:=by
  unfold ja1 at h;split at h<;>try (cases h;done)
  exact⟨_,_,rfl⟩
 obtain⟨b,o,rfl⟩:=hfree;obtain⟨v1,_,hl,⟨l1,h1,rfl⟩,he⟩:=hv;simp only[VRs] at he;subst he;obtain rfl:lb=#[.pointer (some ⟨l1.blk,l1.base+o,none⟩)]:=nL.1 hl;obtain⟨W0,H0,k,rfl,hk,hk0,hk1,hok,hrd⟩:=j6a h hr hgl h2 h1;refine⟨⟨Tryz.f160,Tryz.func160,by kernel_rfl,by kernel_rfl⟩,(oW W0 H0 (3*k.toNat)).map unV,by simp,λi y z hy hz=>?_,_,λρ' H' w' hle h' hr'=>?_,kpg hk hk0 hk1 hok w⟩
 ·simp only[mG,fR] at hy hz;obtain⟨j,hj,rfl⟩:=hy;obtain⟨j',hj',rfl⟩:=hz;rw[hj] at hj';cases hj';exact⟨_,[],rfl,⟨_,rfl,_,_,rfl,rfl,_,_,rfl,rfl,rfl⟩,rfl⟩
 ·obtain⟨W1,H1,k',e1,_,_,_,_,g⟩:=j6a h' hr' (hgl.mono hle) h2 (hle _ _ h1);simp only[bK,sM,AV.int.injEq,true_and,uT] at e1;obtain⟨_,rfl,rfl⟩:=e1;exact g
end X
end Go.Vm
namespace Go.Proofs
open Go.RowKit Go.Shelf Go.Vm
attribute [local go_sem] Oper.semAt_some
namespace Ln
open Go.Vm.X
def kU (s:ByteArray):List Nat:=s.data.toList.map UInt8.toNat
theorem jys (s:ByteArray):(kU s).length=s.size:=by unfold kU;rw[cY,oG];rfl
def BxS (b o:Nat) (s:ByteArray) (w:World):Prop:=∃cs T fr,w.heap[b]?=some (.cells cs T fr)/\cs[o]?=some (.string s)/\¬(fr.1<=o/\o<fr.2)
theorem BxS.cell {b o:Nat} {s:ByteArray} {w:World} (h:BxS b o s w):w.cell? ⟨b,o,none⟩=some (.string s):=by
 obtain⟨cs,T,fr,h1,h2,_⟩:=h;simp only[World.cell?,h1,F8,lC,dR,h2]
theorem BxS.frz {b o:Nat} {s:ByteArray} {w:World} (h:BxS b o s w):w.frozen? ⟨b,o,none⟩=false:=by
 obtain⟨cs,T,fr,h1,_,h3⟩:=h;obtain⟨lo,hi⟩:=fr;simp only[World.frozen?,h1];simp only[qen,iU];simp only at h3;omega
theorem BxS.set {b o:Nat} {s:ByteArray} {w:World} (h:BxS b o s w) (t:ByteArray) {bx:Nat->Prop} (hb:bx b):
  BxS b o t (w.setCell ⟨b,o,none⟩ (.string t))/\Vm.Own bx w (w.setCell ⟨b,o,none⟩ (.string t)):=by
 obtain⟨cs,T,fr,h1,h2,h3⟩:=h;have ho:o<cs.size:=(lD.1 h2).1;refine⟨⟨cs.setIfInBounds o (.string t),T,fr,?_,?_,h3⟩,rfl,rfl,rfl,by simp[World.setCell],λk u hk hn=>?_⟩
 ·simp only[World.setCell,O2,cM,h1,iS,F8,lC,dR]
 ·simp[qdz,ho]
 ·have hne:b≠k:=λe=>hn (e▸hb)
  simp only[World.setCell,O2,aF hne,hk]
theorem BxS.lt {b o:Nat} {s:ByteArray} {w:World} (h:BxS b o s w):b<w.heap.size:=by
 obtain⟨cs,T,fr,h1,_⟩:=h;exact(lD.1 h1).1
theorem BxS.off {b o k:Nat} {s:ByteArray} {w w':World} {S S':Nat->Prop} (h:BxS b o s w) (g:Off S k w S' w') (h1:¬S b) (h2:b≠k):BxS b o s w':=by
 obtain⟨cs,T,fr,e1,e2,e3⟩:=h;exact⟨cs,T,fr,g.keep b _ e1 h1 h2 rfl,e2,e3⟩
def szAt (w:World) (b o:Nat):Nat:=match w.cell? ⟨b,o,none⟩ with
 | some (.string c)=>c.size
 | _=>0
theorem BxS.szAt {b o:Nat} {s:ByteArray} {w:World} (h:BxS b o s w):szAt w b o=s.size:=by unfold Ln.szAt;rw[h.cell]
theorem kac (c:ByteArray) {k:Nat} (hk:k<c.size):kU c=kU (c.extract 0 (k+1))++kU (c.extract (k+1) c.size):=by
 have hk':k<c.data.size:=hk;unfold kU;rw[<-eI]
 congr 1
 simp only[ByteArray.data_extract,qhe,qhf];rw[fW,sN];conv=>lhs;rw[<-O3 (k+1) c.data.toList]
 congr 1
 rw[iM];rw[mA,oG];exact bV _
theorem kab (c:ByteArray) {k:Nat} (hk:k<c.size) (h3:c.data.toList=c.data.toList.take k++(10:UInt8)::c.data.toList.drop (k+1)) (h4:(10:UInt8)∉c.data.toList.take k):∃p,kU (c.extract 0 (k+1))=p++[10]/\10∉p:=by
 have hk':k<c.data.size:=hk;refine⟨(c.data.toList.take k).map UInt8.toNat,?_,λhm=>?_⟩
 ·have e:c.data.toList.take (k+1)=c.data.toList.take k++[10]:=by
   have hl:(c.data.toList.take k).length=k:=by rw[nM,oG];omega
   conv=>lhs;rw[h3]
   rw[qgy,hl,iM (by omega),show k+1-k=1 by omega];rfl
  unfold kU;simp only[ByteArray.data_extract,qhe,qhf];rw[fW,sN,e,eI];rfl
 ·obtain⟨x,hx,e⟩:=bC.1 hm;have:x=10:=X4.1 e;exact h4 (this▸hx)
set_option maxRecDepth 100000 in
set_option maxHeartbeats 1000000 in
theorem kio {b o nb:Nat} {s:ByteArray} {bx:Nat->Prop} (w0:World) (hs:s.size<=1000000000) (hbox:BxS b o s w0) (hbx:kU s≠[]->bx b):
  jrt Tryz.prog 79 #[.pointer (some ⟨b,o,none⟩)] bx ((kD (kU s)).map λl=>Itm.val nb (.str l)) (λ_ _=>True) w0:=by
 intro l J Jx W hB hJ hJx hS hY hR S0 h0;have hm:Tryz.prog.follows .mixedOrders=true:=by kernel_rfl
 refine callsIn_of_wp Tryz.func79 rfl trivial ?_ rfl;simp only[Tryz.ntmps79,qhq,cL,iD,Nat.reduceAdd,Nat.reduceSub,Array.replicate_succ,Array.replicate_zero,List.push_toArray,List.append_toArray,fB,fN];have hb0:BxS b o s W:=by
  obtain⟨cs,T,fr,h1,h2,h3⟩:=hbox;exact⟨cs,T,fr,(hB.block b (lD.1 h1).1).trans h1,h2,h3⟩
 gi_wp2
 gi_loopw [] (λwr=>∃(i:Nat) (S:Nat->Prop) (c:ByteArray),J i S wr/\BxS b o c wr/\kD (kU c)=(kD (kU s)).drop i/\c.size<=1000000000/\w0.heap.size<=wr.heap.size/\i<=(kD (kU s)).length)
  (λwr=>szAt wr b o)
 case atStart=>exact⟨0,S0,s,h0,hb0,rfl,hs,hB.size,eW _⟩
 case round=>
  obtain⟨i,S,c,hJi,hbc,hln,hcs,hsz,hil⟩:=hrel;have hcell:=hbc.cell;by_cases hc0:c.size=0
  ·have hd:decide ((0:Int)< (c.size:Int))=false:=kN (by omega)
   gi_wp2
   go_end0
   refine⟨⟨_,rfl⟩,.inl ⟨S,?_⟩⟩;have e1:kU c=[]:=tJ (by rw[jys];exact hc0);rw[e1] at hln;have e2:(kD (kU s)).length<=i:=qfx.1 hln.symm;rw[cY,show(kD (kU s)).length=i by omega];exact hJi
  ·have hd:decide ((0:Int)< (c.size:Int))=true:=bD (by omega);have hcn:kU c≠[]:=λe=>hc0 (by have:=congrArg List.length e;rw[jys] at this;exact this)
   have hln1:kD (kU c)≠[]:=λe=>hcn (yI.1 e)
   have hbb:bx b:=hbx λe=>hln1 (by rw[hln,e];simp[kD])
   have hltl:i< (kD (kU s)).length:=by
    rcases qir i (kD (kU s)).length with h | h
    ·exact h
    ·exact absurd (hln.trans (qfx.2 h)) hln1
   gi_wp2
   refine⟨trivial,(je2 (Tryz.strings_IndexByte c 10 wr)).mono ?_⟩;rintro e W1 ⟨rfl,rfl⟩;rcases j1e 10 c.data.toList with⟨h1,h2⟩ | ⟨k,h1,h2,h3,h4⟩
   ·rw[show Lib.indexByte c.data.toList (Nat.toUInt8 (Int.toNat 10))= -1 from h1];have hten:10∉kU c:=λhm=>by
     obtain⟨x,hx,e⟩:=bC.1 hm;have:x=10:=X4.1 e;exact h2 (this▸hx)
    have hln2:=jbs hcn hten;rw[hln2] at hln;have hrow:(kD (kU s))[i]?=some (kU c):=by
     have:=congrArg (λl=>l[0]?) hln;simpa[O5] using this.symm
    have hrest:(kD (kU s)).drop (i+1)=[]:=by
     have:=congrArg (λl=>l.drop 1) hln;simpa[F6] using this.symm
    have hset:=hbc.set ⟨#[]⟩ hbb;have hfz:=hbc.frz;have hJ2:=hJ _ _ _ _ hJi hset.2;have hsz2:=hset.2.size;obtain⟨fn,tmps,assign,body,hy,hR1⟩:=hY i S (.val nb (.str (kU c))) #[.string c] _ _ (by rw[mG,hrow];rfl) hJ2 ⟨rfl,_,rfl,λρ=>⟨c,rfl,rfl⟩⟩ (by omega) (λh=>Nat.lt_irrefl _ (hS _ _ _ _ hJ2 h).1)
    gi_wp2
    refine RoundIn.mono hR1 ?_;rintro en W3 (⟨rfl,S',hJ3,hoff⟩ | ⟨rfl,hJ3⟩)
    ·have hb3:BxS b o ⟨#[]⟩ W3:=hset.1.off hoff (λh=>(hS _ _ _ _ hJ2 h).2 hbb) (Nat.ne_of_lt hset.1.lt);have hsz3:=hoff.size
     gi_wp2
     go_roundw
     case rel=>exact⟨i+1,S',⟨#[]⟩,hJ3,hb3,hrest.symm,by decide,by omega,by omega⟩
     case measure=>
      rw[hb3.szAt,hbc.szAt];show 0<c.size;omega
    ·gi_wp2
     refine bodyPost_ret (results_none rfl _ _ _) rfl ?_;exact⟨⟨_,rfl⟩,.inr hJ3⟩
   ·rw[show Lib.indexByte c.data.toList (Nat.toUInt8 (Int.toNat 10))=(k:Int) from h1];have k0:(0:Int)<=(k:Int):=by omega
    have hkc:k<c.size:=by
     rw[oG] at h2;exact h2
    have k1:(k:Int)+1<=(c.size:Int):=by omega
    have k2:(0:Int)<=(k:Int)+1:=by omega
    have k3:wrap64 ((k:Int)+1)=(k:Int)+1:=by unfold wrap64;omega
    gi_wp2
    refine knd (m:=9) (d:=1) rfl hm (by kernel_rfl) rfl (by kernel_rfl) rfl (R:=λa' w'=>(∃(v12 v13 v14 v15 v16 v17 v18:Value),a'={ tmps:=#[Value.func (Fn.yield l) #[] #[],Value.pointer (some ⟨b,o,none⟩),undef,Value.string (c.extract 0 (k+1)),Value.int .i64 k,Value.string c,Value.int .i64 c.size,Value.bool true,Value.string c,Value.int .i64 k,Value.int .i64 k,Value.bool true,v12,v13,v14,v15,v16,v17,v18,Value.string (c.extract (k+1) c.size),u20,u21,u22,u23,u24],defers:=[] })/\∃n,w'=W1.drewN n) ?_ ?_
    ·simp only[List.extract_toArray,qhf,fW,sN,g9,qg1];repeat (gi_big_quiet_step (fail))
     refine wpQuietIn_nil ?_;exact λw' hw'=>⟨⟨_,_,_,_,_,_,_,rfl⟩,hw'⟩
    ·rintro _ _ ⟨⟨v12,v13,v14,v15,v16,v17,v18,rfl⟩,q,rfl⟩ f;have hbq:BxS b o c (W1.drewN q):=hbc;have hJq:J i S (W1.drewN q):=hJ _ _ _ _ hJi ⟨rfl,rfl,rfl,bV _,λ_ _ h _=>h⟩;have hset:=hbq.set (c.extract (k+1) c.size) hbb;have hfz:=hbq.frz;have hcq:=hbq.cell;have hJ2:=hJ _ _ _ _ hJq hset.2;have hsz2:W1.heap.size<=_:=hset.2.size;have e1:kU c=kU (c.extract 0 (k+1))++kU (c.extract (k+1) c.size):=kac c hkc;obtain⟨p,hp,hp10⟩:∃p,kU (c.extract 0 (k+1))=p++[10]/\10∉p:=kab c hkc h3 h4;have hln2:kD (kU c)=kU (c.extract 0 (k+1))::kD (kU (c.extract (k+1) c.size)):=by
      rw[e1,hp,dX];exact jbr hp10
     rw[hln2] at hln;have hrow:(kD (kU s))[i]?=some (kU (c.extract 0 (k+1))):=by
      have:=congrArg (λl=>l[0]?) hln;simpa[O5] using this.symm
     have hrest:(kD (kU s)).drop (i+1)=kD (kU (c.extract (k+1) c.size)):=by
      have:=congrArg (λl=>l.drop 1) hln;simpa[F6] using this.symm
     have hrs:(c.extract (k+1) c.size).size=c.size-(k+1):=by simp
     obtain⟨fn,tmps,assign,body,hy,hR1⟩:=hY i S (.val nb (.str (kU (c.extract 0 (k+1))))) #[.string (c.extract 0 (k+1))] _ _ (by rw[mG,hrow];rfl) hJ2 ⟨rfl,_,rfl,λρ=>⟨_,rfl,rfl⟩⟩ (by omega) (λh=>Nat.lt_irrefl _ (hS _ _ _ _ hJ2 h).1);refine wpAnyIn_ready (rs:=[9]) (by kernel_rfl) (by simp) (AllReadyIn.cons rfl (λK hK=>?_) AllReadyIn.nil)
     go_simp
     refine hK _ _ ?_;refine wpAnyIn_done (by kernel_rfl) ?_ _
     gi_wp2
     refine RoundIn.mono hR1 ?_;rintro en W3 (⟨rfl,S',hJ3,hoff⟩ | ⟨rfl,hJ3⟩)
     ·have hb3:BxS b o (c.extract (k+1) c.size) W3:=hset.1.off hoff (λh=>(hS _ _ _ _ hJ2 h).2 hbb) (Nat.ne_of_lt hset.1.lt);have hsz3:=hoff.size
      gi_wp2
      go_roundw
      case rel=>exact⟨i+1,S',_,hJ3,hb3,hrest.symm,by omega,by omega,by omega⟩
      case measure=>
       rw[hb3.szAt,hbc.szAt,hrs];omega
     ·gi_wp2
      refine bodyPost_ret (results_none rfl _ _ _) rfl ?_;exact⟨⟨_,rfl⟩,.inr hJ3⟩
end Ln
end Go.Proofs
namespace Go.Vm
namespace X
open W Go.Proofs Go.Proofs.Ln
def jdi:ItF:=λfree H=>match free with
 | [.ptr b o]=>match X7 H b o 1 with
   | some [.str s]=>bif s.length.ble 1000000000 then some ((kD s).map λl=>jcw b (.str l),[.str s]) else none
   | _=>none
 | _=>none
def V9 (x:G8 [.str]):Option (List (List Nat)):=bif x.1.length.ble 1000000000 then some (kD x.1) else none
theorem kis (G:dT) (F:cE) (H:Tr Blk) (cap:G8 [.str]) (free:List AV) (l:List (List Nat)) (hn:(λ_:dT=>true) G=true) (hg:GOn G H) (h:jci F H [.str] cap free) (hF:∀x∈F,x.2.At H x.1) (hr:V9 cap=some l):
  jdi free H=some (l.map (λy=>mM true free .str y),[.str cap.1]):=by
 obtain⟨b1,m1,_,rfl,a1,r1,hnil⟩:=h;simp only[jci] at hnil;subst hnil;obtain⟨s,u⟩:=cap;simp only[cT] at r1;subst r1;unfold V9 at hr;obtain⟨hc,hr⟩:=cF hr;cases hr;simp only at hc;simp only[jdi,jvm a1 (n:=1) rfl,hc,aH];rfl
theorem kir {gl:List Nat}:jxi Tryz.prog gl 79 jdi:=by
 intro free H yk h ρ w lb hr hgl hv;have hfree:∃b o,free=[.ptr b o]:=by
  unfold jdi at h;split at h<;>try (cases h;done)
  exact⟨_,_,rfl⟩
 obtain⟨b,o,rfl⟩:=hfree;obtain⟨v1,_,hl,⟨l1,h1,rfl⟩,he⟩:=hv;simp only[VRs] at he;subst he;obtain rfl:lb=#[.pointer (some ⟨l1.blk,l1.base+o,none⟩)]:=nL.1 hl;simp only[jdi] at h;split at h<;>try (cases h;done)
 rename_i s hrd;obtain⟨hc,h⟩:=cF h;rw[bE,aQ] at hc;cases h;unfold X7 at hrd;split at hrd<;>try (cases hrd;done)
 rename_i c m hb;obtain⟨hm,ht⟩:=cF hrd;rw[bE,aQ] at hm;obtain⟨t1,t2⟩:=jem _ _ _ _ ht;obtain⟨cs,el,fr,g1,g2,g3,g4,g5⟩:=hr.blk b _ l1 hb h1;obtain⟨a,v,k1,k2,k3⟩:=g5 o (by omega);have e1:=t2 0 (by omega);rw[nX,k1] at e1;simp only[z7,bA] at e1;subst e1;obtain⟨bs,rfl,hbs⟩:=k3;have hsz:bs.size=s.length:=by rw[<-hbs,cY,oG];rfl
 have hbx:BxS l1.blk (l1.base+o) bs w:=⟨cs,el,fr,g1,k2,g4 _ (by omega) λ_=>by omega⟩
 refine⟨⟨Tryz.f79,Tryz.func79,by kernel_rfl,by kernel_rfl⟩,(kD s).map λl=>Itm.val b (.str l),?_,λ_ _=>True,λ_ _ _ _ _ _=>trivial,?_⟩
 ·simp only[iQ];rfl
 ·have key:=kio (bx:=jcy ρ ((kD s).map λl=>jcw b (.str l))) (nb:=b) w (by omega) hbx λhne=>by
   have e2:kU bs=s:=hbs;rw[e2] at hne;cases hq:kD s with
   | nil=>exact absurd (yI.1 hq) hne
   | cons x r=>exact⟨b,0,.str x,_,0,0,0,none,l1,rfl,h1,rfl⟩
  have e2:kU bs=s:=hbs;rw[e2] at key;exact key
abbrev itsL:o5:=[(160,ja1),(79,jdi)]
def kev:ITE:=⟨79,[.str],.str,V9,jdi,λcap=>[.str cap.1],λ_=>true,true,kis,itsL,rfl⟩
def kew:ITE:={ kex with ls:=itsL,inl:=rfl }
theorem itsL_ok {gl:List Nat} (h2:gl.contains 1=true:=by rfl):ja6 Tryz.prog gl itsL:=λf it h=>by
 simp only[itsL,jfq] at h;cases h1:Nat.beq 160 f with
 | true=>
   rw[h1,aH] at h;rw[bQ,aQ] at h1;cases h;subst h1;exact .inl (kpd h2)
 | false=>
   rw[h1,aJ] at h;obtain⟨h3,h4⟩:=cF h;rw[bQ,aQ] at h3;cases h4;subst h3;exact .inr kir
end X
end Go.Vm
