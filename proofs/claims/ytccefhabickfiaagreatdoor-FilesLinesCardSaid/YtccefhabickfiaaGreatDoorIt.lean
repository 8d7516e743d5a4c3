/- A region that draws its order, whose last operations come behind all others: its first part by itself. -/
import Derived.Test.YtccefhabickfiaaGreatDoorIn
import Derived.Shelf.RegionOpen
import Derived.LoopIn
import Derived.Test.YtccefhabickfiaaGreatDoorLP
set_option linter.unusedSimpArgs false
set_option linter.unusedVariables false
namespace Go.Vm
open Go.RowKit
variable {P:Program} {F:Fence} {n:Nat} {ops:Array Oper} {Q Q1:Exit->Act->World->Prop} {m:Nat}
theorem kkj (hQ:∀e a w,Q1 e a w->e=.normal) {o:Oper} {a:Act} {w:World} {K:Act->World->Prop} (h:o.wpIn F n P a w K Q1):o.wpIn F n P a w K Q:=by
 refine⟨h.1,?_⟩;have h:=h.2;have np:∀ {ch a w},¬Q1 (.panic ch) a w:=λh=>by have:=hQ _ _ _ h;cases this
 have no:¬LetsOut Q1:=fun⟨a,w,h⟩=>by have:=hQ _ _ _ h;cases this
 generalize (o.semAt F.round a.eval).run P w=x at h ⊢;cases x with
 | ok y w'=>
   cases y<;>simp only[Oper.uponIn] at h ⊢
   all_goals first
    | exact h
    | exact⟨h.1,CallsIn.mono h.2 λe w'' he=>by cases e<;>first | exact he | exact(np he).elim | exact(no he).elim⟩
    | exact⟨h.1,RoundIn.mono h.2 λe w'' he=>by cases e<;>first | exact he | exact(np he).elim | exact(no he).elim⟩
 | halt y w'=>cases y<;>simp only[Oper.uponIn] at h ⊢<;>first | exact h | exact(np h).elim
def ju8 (ops:Array Oper) (m:Nat):Bool:=
 let es:=ops.toList.map yI
 let an:=(Region.before ops).toList
 m.ble ops.size&&jea es&&jgo es an&&((List.range m).all λi=>match ops[i]? with | some o=>(match o.guard with | some (k,_)=>k.blt m | none=>true) | none=>true)&&(List.range ops.size).all λj=>j.blt m||(List.range m).all λi=>(an.getD j 0).testBit i
def Clo (ops:Array Oper) (listed:Array Bool):Prop:=∀(j:Nat) (o:Oper),listed[j]?=some true->ops[j]?=some o->∀e∈o.after.toList,Region.binds .any e=true->listed.getD e.on false=true
theorem jze {j:Nat} {o:Oper} (ho:ops[j]?=some o) {k:Nat}:k∈(ops.toList.map yI).getD j []↔∃e∈o.after.toList,Region.binds .any e=true/\e.on=k:=by
 have:(ops.toList.map yI).getD j []=yI o:=by
  rw[gH,lZ];have:ops.toList[j]?=some o:=by simpa using ho
  rw[this];rfl
 rw[this];unfold yI;simp only[rX,Option.ite_none_right_eq_some,aS]
theorem getD_some {l:Array Bool} {k:Nat} (h:l.getD k false=true):l[k]?=some true:=by
 unfold Array.getD at h;split at h
 ·rename_i hk;rw[rY hk];exact congrArg some h
 ·cases h
theorem j9r (h2:jea (ops.toList.map yI)=true) (h3:jgo (ops.toList.map yI) (Region.before ops).toList=true) {listed:Array Bool} (hc:Clo ops listed):
  ∀(j i:Nat),j<ops.size->i<ops.size->((Region.before ops).toList.getD j 0).testBit i=true->(∀o,ops[j]?=some o->∀e∈o.after.toList,Region.binds .any e=true->listed.getD e.on false=true)->listed.getD i false=true:=by
 intro j;induction j using Nat.strongRecOn with
 | _ j ih=>
   intro i hj hi hb hd;have ho:ops[j]?=some ops[j]:=rY hj;unfold jgo at h3;have g1:=cJ.1 (cJ.1 h3 j (by simpa using hj)) i (by simpa using hi);simp only[hb,fQ,wH,qf7,nW,beq_iff_eq] at g1;obtain⟨k,hk,hki⟩:=g1;obtain⟨e,he,hbd,rfl⟩:=(jze ho).1 hk;have hl:=hd _ ho e he hbd;rcases hki with rfl | hki
   ·exact hl
   ·unfold jea at h2;have g2:=cJ.1 (cJ.1 h2 j (by simpa using hj)) e.on hk;have hlt:e.on<j:=by simpa using g2
    refine ih e.on hlt i (by omega) hi hki λo' ho' e' he' hb'=>?_
    exact hc _ _ (getD_some hl) ho' e' he' hb'
structure L4 (m N:Nat) (l' l:Array Bool):Prop where
 s1:l'.size=m
 s2:l.size=N
 eq:∀i,i<m->l'.getD i true=l.getD i true
 late:∀i,m<=i->l.getD i false=false
theorem jbt {l:Array Bool} {k:Nat} (h:k<l.size):l.getD k false=l.getD k true:=by simp[Array.getD,h]
theorem j9s (h:ju8 ops m=true) (hQ:∀e a w,Q1 e a w->e=.normal) {d:Nat}
  (hnext:∀a w,Q1 .normal a w->∀f listed,listed.size=ops.size->(∀i,i<ops.size->listed.getD i true=decide (i<m))->wpAnyIn F n P .any ops Q (f+d) listed a w):
  ∀(k:Nat) (l' l:Array Bool) (a:Act) (w:World),L4 m ops.size l' l->Clo ops l->wpAnyIn F n P .any (ops.extract 0 m) Q1 k l' a w->wpAnyIn F n P .any ops Q (k+d) l a w:=by
 unfold ju8 at h;simp only[aT] at h;obtain⟨⟨⟨⟨hm,h2⟩,h3⟩,hgu⟩,h4⟩:=h;rw[bB,aO] at hm;have hsub:∀i,i<m->(ops.extract 0 m)[i]?=ops[i]?:=λi hi=>by
  rw[Array.getElem?_extract];simp only[lH,rC];rw[aH (by omega)]
 have hback:∀i o,ops[i]?=some o->∀e∈o.after.toList,Region.binds .any e=true->e.on<i:=λi o ho e he hb=>by
  have hi:i<ops.size:=(jI.1 ho).1;unfold jea at h2;have g2:=cJ.1 (cJ.1 h2 i (by simpa using hi)) e.on ((jze ho).2 ⟨e,he,hb,rfl⟩);simpa using g2
 have rdy:∀ {l' l:Array Bool},L4 m ops.size l' l->∀i,i<m->(i∈Region.ready .any ops l↔i∈Region.ready .any (ops.extract 0 m) l'):=λ{l' l} hs i hi=>by
  rw[mem_ready,mem_ready,hs.eq i hi,hsub i hi];refine and_congr Iff.rfl ⟨?_,?_⟩
  ·rintro ⟨o,ho,hall⟩;refine⟨o,ho,λe he hb=>?_⟩;have hlt:=hback i o ho e (by simpa using he) hb;rw[jbt (by rw[hs.s1];omega),hs.eq _ (by omega),<-jbt (by rw[hs.s2];omega)];exact hall e he hb
  ·rintro ⟨o,ho,hall⟩;refine⟨o,ho,λe he hb=>?_⟩;have hlt:=hback i o ho e (by simpa using he) hb;rw[jbt (by rw[hs.s2];omega),<-hs.eq _ (by omega),<-jbt (by rw[hs.s1];omega)];exact hall e he hb
 have full:∀ {l' l:Array Bool},L4 m ops.size l' l->Region.ready .any (ops.extract 0 m) l'=[]->∀i,i<m->l.getD i true=true:=λ{l' l} hs hr i=>by
  induction i using Nat.strongRecOn with
  | _ i ih=>
    intro hi;cases hli:l.getD i true with
    | true=>rfl
    | false=>
      have:i∈Region.ready .any ops l:=by
       rw[mem_ready];refine⟨hli,ops[i]'(by omega),rY (by omega),λe he hb=>?_⟩;have hlt:=hback i _ (rY (by omega)) e (by simpa using he) hb;rw[jbt (by rw[hs.s2];omega)];exact ih e.on hlt (by omega)
      rw[rdy hs i hi,hr] at this;cases this
 have fin:∀ {l' l:Array Bool},L4 m ops.size l' l->Region.ready .any (ops.extract 0 m) l'=[]->∀i,i<ops.size->l.getD i true=decide (i<m):=λ{l' l} hs hr i hi=>by
  by_cases him:i<m
  ·rw[full hs hr i him];simp[him]
  ·rw[<-jbt (by rw[hs.s2];exact hi),hs.late i (by omega)];simp[him]
 intro k;induction k with
 | zero=>
   intro l' l a w hs hc hw;have:=hnext a w hw.2 0 l hs.s2 (fin hs hw.1);exact this
 | succ k ih=>
   intro l' l a w hs hc hw;obtain⟨w1,w2⟩:=hw;by_cases hr:Region.ready .any (ops.extract 0 m) l'=[]
   ·exact hnext a w (w1 hr) (k+1) l hs.s2 (fin hs hr)
   ·obtain⟨x,hx⟩:=List.exists_mem_of_ne_nil _ hr;have hxm:x<m:=by
     rw[mem_ready] at hx;obtain⟨_,o,ho,_⟩:=hx;have:=(jI.1 ho).1;simp at this;omega
    have hxl:l.getD x true=false:=by
     rw[mem_ready,hs.eq x hxm] at hx;exact hx.1
    have key:∀i∈Region.ready .any ops l,i<m:=λi hi=>by
     refine nV λhge=>?_
     rw[mem_ready] at hi;obtain⟨_,o,ho,hall⟩:=hi;have his:i<ops.size:=(jI.1 ho).1;have g4:=cJ.1 h4 i (by simpa using his);have hnb:i.blt m=false:=by
      cases hb:i.blt m with
      | false=>rfl
      | true=>
        have:(i+1).ble m=true:=hb;rw[bB,aO] at this;omega
     rw[hnb,wH] at g4;have:=j9r h2 h3 hc i x his (by omega) (cJ.1 g4 x (by simpa using hxm)) λo' ho' e he hb=>by
      rw[ho] at ho';cases ho';exact hall e (by simpa using he) hb
     rw[jbt (by rw[hs.s2];omega),hxl] at this;cases this
    have ek:k+1+d=(k+d)+1:=by omega
    rw[ek];refine⟨λhe=>?_,λi hi=>?_⟩
    ·have:=(rdy hs x hxm).2 hx;rw[he] at this;cases this
    ·have him:=key i hi;have hi':=(rdy hs i him).1 hi;have h5:=w2 i hi';rw[mem_ready] at hi;obtain⟨hli,o,ho,hall⟩:=hi;have his:i<ops.size:=by omega
     have hs':L4 m ops.size (l'.setIfInBounds i true) (l.setIfInBounds i true):=by
      refine⟨by simp[hs.s1],by simp[hs.s2],λj hj=>?_,λj hj=>?_⟩
      ·have g:∀(q:Array Bool),j<q.size->(q.setIfInBounds i true).getD j true=if i=j then true else q.getD j true:=λq hq=>by
        simp only[Array.getD,qfx,hq,dif_pos];by_cases e:i=j
        ·subst e;simp[hq]
        ·rw[aC e];exact qe2 _ e
       rw[g _ (by rw[hs.s1];exact hj),g _ (by rw[hs.s2];omega),hs.eq j hj]
      ·by_cases hjl:j<l.size
       ·have:=hs.late j hj;simp only[Array.getD,hjl,dif_pos] at this;simp only[Array.getD,qfx,hjl,dif_pos];exact(qe2 _ (by omega)).trans this
       ·simp[Array.getD,hjl]
     have hc':Clo ops (l.setIfInBounds i true):=by
      intro j o' hj ho' e he hb;have mono:∀q,l.getD q false=true->(l.setIfInBounds i true).getD q false=true:=λq hq=>by
       have hq1:q<l.size:=by
        unfold Array.getD at hq;split at hq
        ·assumption
        ·cases hq
       simp only[Array.getD,qfx,hq1,dif_pos] at hq ⊢;by_cases e:i=q
       ·subst e;exact Array.getElem_setIfInBounds_self _
       ·exact(qe2 _ e).trans hq
      refine mono _ ?_;by_cases e1:i=j
      ·subst e1;rw[ho] at ho';cases ho';exact hall e (by simpa using he) hb
      ·refine hc j o' ?_ ho' e he hb;rw[P1] at hj;rw[aC e1] at hj;exact hj
     unfold wpOpIn at h5 ⊢;rw[hsub i him,ho] at h5;rw[ho];have hyl:Region.wanted o (yielded (ops.extract 0 m) a.tmps)=Region.wanted o (yielded ops a.tmps):=by
      have g5:=cJ.1 hgu i (by simpa using him);rw[ho] at g5;simp only at g5;unfold Region.wanted;cases hg:o.guard with
      | none=>rfl
      | some y=>
        obtain⟨q,want⟩:=y;rw[hg] at g5;have hq:q<m:=by
         have:(q+1).ble m=true:=g5;rw[bB,aO] at this;exact this
        have:yielded (ops.extract 0 m) a.tmps q=yielded ops a.tmps q:=by
         unfold yielded;rw[hsub q hq]
        simp only[this]
     simp only[hyl] at h5 ⊢;split
     ·rename_i hw;rw[aH hw] at h5;exact kkj hQ (Oper.wpIn_mono (λa w=>ih _ _ a w hs' hc') h5)
     ·rename_i hw;rw[aC hw] at h5;exact⟨h5.1,ih _ _ _ _ hs' hc' h5.2⟩
def ran (m N:Nat):Array Bool:=((List.range N).map λi=>decide (i<m)).toArray
theorem kla {m N:Nat} {l:Array Bool} (h1:l.size=N) (h2:∀i,i<N->l.getD i true=decide (i<m)):l=ran m N:=by
 apply Array.ext
 ·simp[ran,h1]
 ·intro i hi hi';have:=h2 i (by omega);simp only[Array.getD,hi,dif_pos] at this;rw[<-Array.getInternal_eq_getElem,this];simp[ran]
theorem kmg {id d:Nat} {a:Act} {w:World} {l:List Oper} {R:Act->World->Prop} (hro:F.round=none) (hm:P.follows .mixedOrders=true) (h:ju8 ops m=true) (hl:(ops.extract 0 m).toList=l)
  (hB:Region.lexB .any (ops.extract 0 m)=true) (hd:m+d=ops.size)
  (hq:wpQuietIn F n P (ops.extract 0 m) (λw'=>∃n,w'=w.drewN n) (λa'=>∀w',(∃n,w'=w.drewN n)->R a' w') l a)
  (hnext:∀a w,R a w->∀f,wpAnyIn F n P .any ops Q (f+d) (ran m ops.size) a w):(Code.region id ops true).wpIn F n P Q a w:=by
 refine wpIn_region_any hm ?_;have hms:m<=ops.size:=by omega
 have hsz:(ops.extract 0 m).size=m:=by simp;omega
 simp only[Region.lexB,aT] at hB;have hlen:l.length=m:=by rw[<-hl];simp;omega
 have h1:=wpAnyQIn_lex (F:=F) (n:=n) (P:=P) (C:=λw'=>∃n,w'=w.drewN n) (md:=.any) hB.1 l 0 (Array.replicate m false) a (λj=>by rw[<-hl,rZ,lH]) (by
  have:=hB.2;rw[hsz] at this;rw[hlen];exact this) hq
 rw[hlen] at h1;have h2:=wpAnyIn_of_quiet (Q':=λe a' w'=>e=.normal/\R a' w') hro (λ_ w' hw' h=>⟨rfl,h w' hw'⟩) _ _ _ _ (⟨1,rfl⟩:∃n,{ w with drawn:=w.drawn+1 }=w.drewN n) h1;have gr:∀(k i:Nat) (d:Bool),(Array.replicate k false).getD i d=if i<k then false else d:=by
  intro k i d;by_cases hk:i<k<;>simp[Array.getD,hk]
 have:=j9s (Q:=Q) h (λe a w h=>h.1) (d:=d) (λa w hR f listed h1 h2=>by rw[kla h1 h2];exact hnext a w hR.2 f) m (Array.replicate m false) (Array.replicate ops.size false) a _ ⟨by simp,by simp,λi hi=>by rw[gr,gr,aH hi,aH (by omega)],λi hi=>by rw[gr];split<;>rfl⟩ (λj o hj=>by
  rw[qgz] at hj;split at hj<;>cases hj) h2
 rw[hd] at this;exact this
end Go.Vm
namespace Go.Vm.X.In
open Go Go.Vm Go.Vm.W Go.Vm.X Go.Proofs Go.RowKit
theorem jyu {t:TE} {m:Nat} (ht:eG BI jnf prog m [t]) {a:iD t.ins} {r:iD t.outs} (hr:t.run a=some r) {vs:List AV} (hv:rL [] t.ins a vs []) {v0:AV} {u0:Value}
  (h0:∀F v E,K9 F t.outs r v E->v=v0) (h1:∀ρ u,VR ρ v0 u->u=u0)
  {ρ:RM} {W:World} (hR:HR ρ BI.H0 W) (hgl:GLok gl ρ) (hfree:∀b,BI.nx0<=b->ρ b=none) {args:Array Value} (ha:VRs ρ vs args.toList):
  Calls Tryz.prog t.f args W λe W'=>e=.returned u0/\Below W.heap.size W W':=by
 have hk:HK BI RO [] BI.H0 RO:=⟨by decide,by decide,λ_ _=>rfl,(λ_ h=>by cases h),qgo⟩
 obtain⟨v,E,N,H',nx',F',h2,_,_,_,h3⟩:=ht t (bW.2 rfl) m (bQ _) a r hr RO [] [] BI.H0 RO hk (λ_ h=>by cases h) [] (λx hx=>by cases hx) vs hv;obtain rfl:=h0 _ _ _ h3;have hwf:WF BI.H0 RO:=λb h=>by
  have:b<12:=by
   have hw:=jxk (es:=es) (n:=12) (by kernel_rfl);exact hw b h
  exact mS this (by decide)
 obtain⟨_,key⟩:=(jfm kig mixed O7 m).1 _ _ _ _ _ _ _ _ h2;refine(key ρ W args hR (λb hb _=>hfree b (fX (by decide) hb)) (bQ _) hgl hwf ha).2.mono ?_;rintro e W' ⟨v',rfl,ρ',st,_,hv'⟩;refine⟨by rw[h1 _ _ hv'],st.os,st.tape,st.output,st.size,λx hx=>st.keep x hx λb l hb _ _=>?_⟩;apply nV;intro hn;rw[hfree b (fX (by decide) (Nat.le_of_not_lt hn))] at hb;cases hb
theorem kks {n er:Int} {F:bR} {v:AV} {E:List Ent} (h:K9 F [.d (.int .i64),.d (.int .i64)] (n,er) v E):v=.tup [.int .i64 n,.int .i64 er]:=by
 obtain⟨vs,rfl,v1,vs',E1,E2,rfl,_,h1,v2,rfl,h2⟩:=h;unfold kZ at h1 h2;simp only[Rep.agg,Ty.agg,aG] at h1 h2;obtain⟨_,h1,_⟩:=h1;obtain⟨_,h2,_⟩:=h2;simp only[cB,pO,rD] at h1 h2;rw[h1,h2];rfl
theorem kkr {n:Int} {F:bR} {v:AV} {E:List Ent} (h:K9 F [.d (.int .i64)] n v E):v=.int .i64 n:=by
 obtain⟨vs,rfl,v1,rfl,h1⟩:=h;unfold kZ at h1;simp only[Rep.agg,Ty.agg,aG] at h1;obtain⟨_,h1,_⟩:=h1;simp only[cB,pO,rD] at h1;rw[h1];rfl
theorem j4b {w h:Int}:kZ [] (.d (.prod (.int .i64) (.int .i64))) (w,h) (.agg [.int .i64 w,.int .i64 h]) []:=⟨_,rfl,rfl,⟨_,_,rfl,rfl,rfl⟩,rfl⟩
theorem j0s {k:IntKind} {n:Int}:kZ [] (.d (.int k)) n (.int k n) []:=⟨rfl,rfl,rfl⟩
structure QOn (W:World):Prop where
 ex:∃ρ:RM,HR ρ BI.H0 W/\GLok gl ρ/\∀b,BI.nx0<=b->ρ b=none
theorem j1t {w h id e n er:Int} (hv:sheets_Neighbour fuel ((w,h),(id,e))=some (n,er)) {W:World} (hq:QOn W):
  Calls Tryz.prog 128 #[.agg #[.int .i64 w,.int .i64 h],.int .i64 id,.int .u8 e] W λen W'=>en=.returned (.tuple #[.int .i64 n,.int .i64 er])/\Below W.heap.size W W':=by
 obtain⟨ρ,h1,h2,h3⟩:=hq.ex;refine jyu (t:=R5 fuel) jt7 (a:=((w,h),(id,e))) hv (vs:=[.agg [.int .i64 w,.int .i64 h],.int .i64 id,.int .u8 e]) ⟨_,_,[],[],rfl,rfl,j4b,_,_,[],[],rfl,rfl,j0s,_,rfl,j0s⟩ (λF v E h=>kks h) (λρ u hu=>?_) h1 h2 h3 ?_
 ·obtain⟨cs,rfl,v1,_,e1,h1,v2,_,rfl,h2,h3⟩:=hu;simp only[VR,VRs] at h1 h2 h3;subst h1 h2 h3;rw[show cs=#[.int .i64 n,.int .i64 er] from lE.1 e1]
 ·exact⟨_,_,rfl,⟨_,rfl,_,_,rfl,rfl,_,_,rfl,rfl,rfl⟩,_,_,rfl,rfl,_,_,rfl,rfl,rfl⟩
theorem jy2 {w h n:Int} (hv:sheets_Count fuel (w,h)=some n) {W:World} (hq:QOn W):
  Calls Tryz.prog 161 #[.agg #[.int .i64 w,.int .i64 h]] W λen W'=>en=.returned (.int .i64 n)/\Below W.heap.size W W':=by
 obtain⟨ρ,h1,h2,h3⟩:=hq.ex;refine jyu (t:=jdd fuel) j2o (a:=(w,h)) hv (vs:=[.agg [.int .i64 w,.int .i64 h]]) ⟨_,rfl,j4b⟩ (λF v E h=>kkr h) (λρ u hu=>hu) h1 h2 h3 ?_;exact⟨_,_,rfl,⟨_,rfl,_,_,rfl,rfl,_,_,rfl,rfl,rfl⟩,rfl⟩
end Go.Vm.X.In
namespace Go.Proofs
open Go.RowKit Go.Shelf Go.Vm
attribute [local go_sem] Oper.semAt_some
namespace Un
open Go.Vm.X.In (j1t jy2 QOn)
def N6:Value->Int
 | .int _ n=>n
 | _=>0
def G6 (w h:Int) (i:Nat):Option (Int×Int):=Go.Vm.X.In.sheets_Neighbour Go.Vm.fuel ((w,h),(((i / 3:Nat):Int),((i%3:Nat):Int)))
def lU (w h:Int) (i:Nat):Bool:=match G6 w h i with
 | some (n,er)=>decide (er=0)&&decide (((i / 3:Nat):Int)<n)
 | none=>false
def pV (w h:Int) (k:Nat):List Nat:=(List.range k).filter (lU w h)
def unV (i:Nat):Array Value:=#[.agg #[.int .i64 ((i / 3:Nat):Int),.int .u8 ((i%3:Nat):Int)]]
theorem koe {k i:Nat} {w h:Int} (hp:lU w h i=true) (hi:i<k):
  ((pV w h k).map unV)[((List.range i).filter (lU w h)).length]?=some (unV i):=by
 have e:List.range k=List.range i++i::List.range' (i+1) (k-i-1):=by
  rw[qhn,qhn];have h1:=List.range'_append_1 (s:=0) (m:=i) (n:=k-i);rw[show i+ (k-i)=k by omega,lH] at h1;rw[<-h1,show k-i=(k-i-1)+1 by omega,qii];rfl
 unfold pV;rw[e,qhz,qfl,aH hp,eI,yX (by simp)];simp
structure UnRdy (b o:Nat) (w h:Int) (W:World):Prop where
 w:W.cell? ⟨b,o,none⟩=some (.int .i64 w)
 h:W.cell? ⟨b,o+1,none⟩=some (.int .i64 h)
 q:QOn W
set_option maxRecDepth 100000 in
set_option maxHeartbeats 1000000 in
theorem koi {b o:Nat} {w h k:Int} (hk:Go.Vm.X.In.sheets_Count Go.Vm.fuel (w,h)=some k) (hk0:0<=k) (hk1:k<=100000) (hok:∀i,i<3*k.toNat->(G6 w h i).isSome) (w0:World):
  jqy Tryz.prog 160 #[.pointer (some ⟨b,o,none⟩)] ((pV w h (3*k.toNat)).map unV) (λW=>UnRdy b o w h W) w0:=by
 intro l J Jx W hB hJ hJx hY hR h0;have hm:Tryz.prog.follows .mixedOrders=true:=by kernel_rfl
 refine callsIn_of_wp Tryz.func160 rfl trivial ?_ rfl;simp only[Tryz.ntmps160,qhb,cM,gV,Nat.reduceAdd,Nat.reduceSub,Array.replicate_succ,Array.replicate_zero,List.push_toArray,List.append_toArray,eP,fB];have r0:=hR 0 W h0;have r1:=r0.w;have r2:=r0.h
 gi_wp2
 refine⟨trivial,(jd5 (jy2 hk r0.q)).mono ?_⟩;rintro e W1 ⟨rfl,hB1⟩;have j1:=hJ _ _ _ h0 hB1
 gi_wp2
 gi_loopw [9] (λvi wr=>∃i:Nat,vi=.int .i64 i/\i<=k.toNat/\J ((List.range (3*i)).filter (lU w h)).length wr)
  (λvi wr=>k.toNat-(N6 vi).toNat)
 case atStart=>exact⟨0,rfl,by omega,j1⟩
 case round=>
  obtain⟨i,rfl,hi,hJi⟩:=hrel;by_cases hlt:i<k.toNat
  ·have hd:decide ((i:Int)<k)=true:=bJ (by omega)
   gi_wp2
   gi_loopw [12] (λvi wr=>∃e:Nat,vi=.int .u8 e/\e<=3/\J ((List.range (3*i+e)).filter (lU w h)).length wr)
    (λvi wr=>3-(N6 vi).toNat)
   case atStart=>exact⟨0,rfl,by omega,hJi⟩
   case round=>
    obtain⟨e,rfl,he,hJe⟩:=hrel;by_cases hlt2:e<3
    ·have rr:=hR _ _ hJe;have r3:=rr.w;have r4:=rr.h
     gi_wp2
     obtain⟨⟨n,er⟩,hv⟩:=rB.1 (hok (3*i+e) (by omega));have e1:(3*i+e) / 3=i:=by omega
     have e2:(3*i+e)%3=e:=by omega
     have hP:lU w h (3*i+e)=(decide (er=0)&&decide ((i:Int)<n)):=by unfold lU;rw[hv,e1]
     have hv':=hv;unfold G6 at hv';rw[e1,e2] at hv';refine⟨trivial,(jd5 (j1t hv' rr.q)).mono ?_⟩;rintro en W2 ⟨rfl,hB2⟩;have hJ2:=hJ _ _ _ hJe hB2;have hno:∀ {W':World},lU w h (3*i+e)=false->J ((List.range (3*i+e)).filter (lU w h)).length W'->J ((List.range (3*i+ (e+1))).filter (lU w h)).length W':=λhp h=>by
      rw[show 3*i+ (e+1)=(3*i+e)+1 by omega,qin,qhz,qfl,aC (by rw[hp];simp),List.filter_nil,jW];exact h
     have hwr:IntKind.u8.wrap ((e:Int)+1)=(e:Int)+1:=_root_.Go.Vm.W.wrap_in (k:=.u8) (by simp only[_root_.Go.Vm.W.inR];omega);by_cases he0:er=0
     ·subst he0;by_cases hn:(i:Int)<n
      ·have hp:lU w h (3*i+e)=true:=by rw[hP];simp[hn]
       obtain⟨fn,tmps,assign,body,hy,hR1⟩:=hY _ (unV (3*i+e)) W2 (koe hp (by omega)) hJ2;unfold unV at hy;rw[e1,e2] at hy
       gi_wp2
       refine RoundIn.mono hR1 ?_;rintro en W3 (⟨rfl,hJ3⟩ | ⟨rfl,hJ3⟩)
       ·gi_wp2
        go_roundw
        case rel=>
         refine⟨e+1,by simp,by omega,?_⟩;rw[show 3*i+ (e+1)=(3*i+e)+1 by omega,qin,qhz,qfl,aH hp];simpa using hJ3
        case measure=>simp[N6];omega
       ·gi_wp2
        refine bodyPost_ret (results_none rfl _ _ _) rfl ?_;exact⟨⟨_,rfl⟩,.inr hJ3⟩
      ·have hp:lU w h (3*i+e)=false:=by rw[hP];simp[hn]
       gi_wp2
       refine⟨λ_ h=>(by cases h),?_⟩
       gi_wp2
       go_roundw
       case rel=>exact⟨e+1,by simp,by omega,hno hp hJ2⟩
       case measure=>simp[N6];omega
     ·have he1:(er==0)=false:=by simpa using he0
      have hp:lU w h (3*i+e)=false:=by rw[hP];simp[he0]
      gi_wp2
      refine⟨λ_ h=>(by cases h),?_⟩
      gi_wp2
      go_roundw
      case rel=>exact⟨e+1,by simp,by omega,hno hp hJ2⟩
      case measure=>simp[N6];omega
    ·obtain rfl:e=3:=by omega
     have hwi:IntKind.i64.wrap ((i:Int)+1)=(i:Int)+1:=_root_.Go.Vm.W.wrap_in (k:=.i64) (by simp only[_root_.Go.Vm.W.inR];omega)
     gi_wp2
     go_roundw
     case rel=>exact⟨i+1,by simp,by omega,hJe⟩
     case measure=>simp[N6];omega
  ·obtain rfl:i=k.toNat:=by omega
   have hk2:((k.toNat:Nat):Int)=k:=by omega
   gi_wp2
   go_end0
   exact⟨⟨_,rfl⟩,.inl (by rw[dM];exact hJi)⟩
end Un
end Go.Proofs
namespace Go.Vm
namespace X
open W Go.Proofs Go.Proofs.Un
def wW:List AV->List AV->Bool
 | [],[]=>true
 | .int k x::a,.int j y::b=>decide (k=j)&&decide (x=y)&&wW a b
 | _,_=>false
theorem jsp:∀ {a b:List AV},wW a b=true->a=b
 | [],[],_=>rfl
 | [],_::_,h=>by simp[wW] at h
 | x::a,[],h=>by cases x<;>simp[wW] at h
 | x::a,y::b,h=>by
   cases x<;>cases y<;>simp only[wW,aT,aO,jX] at h
   rw[h.1.1,h.1.2,jsp h.2]
def qL:List AV:=(In.es.head?.map (·.2)).getD []
def qN:Nat:=68
def I5 (H:Tr Blk) (b o n:Nat):Option (List AV):=match H.get b with
 | some (.cells c m)=>bif(o+n).ble m then take c o n else none
 | _=>none
theorem juo {H:Tr Blk} {b:Nat} {m:List AV} {n:Nat} (h:HB.At H b (.cells m)) (hn:m.length=n):I5 H b 0 n=some m:=by
 obtain⟨c,h1,h2⟩:=h;have e:(0+n).ble m.length=true:=by rw[bB];simp[hn]
 simp only[I5,h1,e,aF];rw[W.take_at (H:=H) (b:=b) h2 n 0 (by omega),fY,<-hn,iY]
def okU (w h k:Int):Bool:=decide (0<=k)&&decide (k<=100000)&&(List.range (3*k.toNat)).all λi=>(G6 w h i).isSome
def S4:ItF:=λfree H=>match free with
 | [.ptr b o]=>match I5 H b o 2,I5 H 1 0 qN with
   | some [.int .i64 w,.int .i64 h],some q=>bif wW q qL then(match In.sheets_Count fuel (w,h) with
     | some k=>bif okU w h k then some ((pV w h (3*k.toNat)).map (fun(i:Nat)=>[.agg [.int .i64 ((i / 3:Nat):Int),.int .u8 ((i%3:Nat):Int)]]),[.int .i64 w,.int .i64 h]) else none
     | none=>none) else none
   | _,_=>none
 | _=>none
def jpd:Ty:=.prod (.int .i64) (.int .i64)
def jvm:Ty:=.prod (.int .i64) (.int .u8)
def zJ (x:zK [jpd]):Option (List (Int×Int)):=match In.sheets_Count fuel (x.1.1,x.1.2) with
 | some k=>bif okU x.1.1 x.1.2 k then some ((pV x.1.1 x.1.2 (3*k.toNat)).map fun(i:Nat)=>(((i / 3:Nat):Int),((i%3:Nat):Int))) else none
 | none=>none
theorem jkz {F:bR}:∀(t:Ty),t.flatK=true->∀(x:t.den) (l:List AV),cB F t x l->l=yD t x
 | .int k,_,x,l,h=>h
 | .bool,_,x,l,h=>h
 | .str,_,x,l,h=>h
 | .unit,_,x,l,h=>h
 | .prod a b,hf,x,l,⟨l1,l2,e,h1,h2⟩=>by
   simp only[Ty.flatK,aT] at hf;rw[e,jkz a hf.1 _ _ h1,jkz b hf.2 _ _ h2];rfl
 | .arr n t,hf,x,l,⟨_,h⟩=>by
   simp only[Ty.flatK] at hf;have key:∀(L:List t.den) (l:List AV),dP (cB F t) L l->l=L.flatMap (yD t):=by
    intro L;induction L with
    | nil=>intro l h;exact h
    | cons x L ih=>
      rintro l ⟨l1,l2,rfl,h1,h2⟩;rw[jkz t hf _ _ h1,ih _ h2];rfl
   exact key _ _ h
theorem jwx {F:bR} {t:Ty} (hf:t.flatK=true):∀(L:List t.den) (l:List AV),dP (cB F t) L l->l=L.flatMap (yD t)
 | [],l,h=>h
 | x::L,l,⟨l1,l2,e,h1,h2⟩=>by rw[e,jkz t hf _ _ h1,jwx hf _ _ h2];rfl
def jwe (G:cV):Bool:=match eU G (gB+1) with
 | some (.fix t n L)=>t.flatK&&wW (L.flatMap (yD t)) qL
 | _=>false
theorem joq:qL.length=qN:=by kernel_rfl
theorem kog (G:cV) (F:bR) (H:Tr Blk) (cap:zK [jpd]) (free:List AV) (l:List (Int×Int)) (hn:jwe G=true) (hg:GOn G H) (h:jan F H [jpd] cap free) (hF:∀x∈F,x.2.At H x.1) (hr:zJ cap=some l):
  S4 free H=some (l.map (λy=>[encV jvm y]),[.int .i64 cap.1.1,.int .i64 cap.1.2]):=by
 obtain⟨b1,m1,_,rfl,a1,r1,hnil⟩:=h;simp only[jan] at hnil;subst hnil;obtain⟨⟨w,h⟩,u⟩:=cap;obtain⟨_,_,rfl,r1,r2⟩:=r1;simp only[cB] at r1 r2;subst r1;subst r2;unfold jwe at hn;split at hn<;>try (cases hn;done)
 rename_i t n L hq;simp only[aT] at hn;obtain⟨m,hm1,_,hm2⟩:=hg 1 t n L hq;have hm3:=jwx hn.1 _ _ hm2;have hm4:=jsp hn.2;rw[hm4] at hm3;subst hm3;unfold zJ at hr;split at hr<;>try (cases hr;done)
 rename_i k hk;obtain⟨hc,hr⟩:=bS hr;cases hr;simp only at hk hc;have e9:wW qL qL=true:=by kernel_rfl
 simp only[S4,juo a1 (n:=2) rfl,juo hm1 (n:=qN) joq,eP,fB,e9,aF];rw[hk];simp only[hc,aF];show some _=some (List.map (λy:Int×Int=>[encV jvm y]) (List.map _ (pV w h (3*k.toNat))),_);rw[jF];rfl
def ked:ITE:=⟨160,[jpd],jvm,zJ,S4,λcap=>[.int .i64 cap.1.1,.int .i64 cap.1.2],jwe,false,kog,[(160,S4)],rfl⟩
theorem klf {ρ:RM} {H:Tr Blk} {w:World} {b o n:Nat} {l:List AV} {lc:Loc} (h:I5 H b o n=some l) (hr:HR ρ H w) (hb:ρ b=some lc):
  ∃vs:List Value,VRs ρ l vs/\∀j v,vs[j]?=some v->w.cell? ⟨lc.blk,lc.base+o+j,none⟩=some v:=by
 unfold I5 at h;split at h<;>try (cases h;done)
 rename_i c m hc;obtain⟨hm,h2⟩:=bS h;rw[bB,aO] at hm;obtain⟨vs,h3,_,h4,_⟩:=jbb (P:=Tryz.prog) hr hc hb hm h2;refine⟨vs,h3,λj v hv=>?_⟩;have:=h4 j v hv;rw[vU] at this;exact this
theorem kd9 {ρ ρ':RM} {a:AV} {v:Value} (hi:(match a with | .int _ _=>true | _=>false)=true) (h:VR ρ a v):VR ρ' a v:=by
 cases a<;>first | (cases hi;done) | exact h
theorem kk9:(qL.all λa=>match a with | .int _ _=>true | _=>false)=true:=by kernel_rfl
theorem koh {ρ:RM} {H:Tr Blk} {w:World} {gl:List Nat} {q:List AV} (h:I5 H 1 0 qN=some q) (hq:wW q qL=true) (hr:HR ρ H w) (hgl:GLok gl ρ) (h2:gl.contains 1=true):In.QOn w:=by
 obtain rfl:=jsp hq;obtain⟨lc,hb,hblk,hbase⟩:=hgl 1 h2;refine⟨λb=>if b=1 then some lc else none,⟨λb k l hk hl=>?_,λb b' l l' h1 h2' e1 e2 _=>?_⟩,λg hg=>?_,λb hb=>?_⟩
 ·obtain rfl:b=1:=by
   by_cases e:b=1
   ·exact e
   ·simp only[e,dO] at hl;cases hl
  simp only[cK] at hl;cases hl;obtain⟨L,hL,rfl⟩:=jin hk;have hes:In.es=[(1,qL)]:=by kernel_rfl
  rw[hes] at hL;simp only[bK,bC,true_and,gS,gQ] at hL;subst hL;unfold I5 at h;split at h<;>try (cases h;done)
  rename_i c m hc;obtain⟨hm,ht⟩:=bS h;rw[bB,aO] at hm;obtain⟨cs,elem,fr,g1,g2,g3,g4,g5⟩:=hr.blk 1 _ lc hc hb;obtain⟨t1,t2⟩:=jdf _ c 0 qL ht;refine⟨cs,elem,fr,g1,by rw[joq];omega,g3,g4,λi hi=>?_⟩;rw[joq] at hi;obtain⟨a,v,k1,k2,k3⟩:=g5 i (by omega);refine⟨a,v,?_,k2,?_⟩
  ·rw[sM,aH (by rw[joq];omega),<-k1,rC,<-t2 i (by omega),lH]
  ·have e:qL[i]?=some a:=by rw[<-k1];have:=t2 i (by omega);simpa using this.symm
   exact kd9 (cJ.1 kk9 a (uP e)) k3
 ·have f1:b=1:=by
   by_cases e:b=1
   ·exact e
   ·simp only[e,dO] at e1;cases e1
  have f2:b'=1:=by
   by_cases e:b'=1
   ·exact e
   ·simp only[e,dO] at e2;cases e2
  exact .inl (f1.trans f2.symm)
 ·have:g=1:=by simpa[In.gl] using hg
  subst this;exact⟨lc,by simp,hblk,hbase⟩
 ·have:b≠1:=λe=>by subst e;revert hb;decide
  simp only[this,dO]
theorem j57 {ρ:RM} {H:Tr Blk} {w:World} {gl:List Nat} {b o:Nat} {l1:Loc} {yk:List (List AV)×List AV} (h:S4 [.ptr b o] H=some yk) (hr:HR ρ H w) (hgl:GLok gl ρ) (h2:gl.contains 1=true) (h1:ρ b=some l1):
  ∃W0 H0 k,yk=((pV W0 H0 (3*k.toNat)).map (fun(i:Nat)=>[.agg [.int .i64 ((i / 3:Nat):Int),.int .u8 ((i%3:Nat):Int)]]),[.int .i64 W0,.int .i64 H0])/\In.sheets_Count fuel (W0,H0)=some k/\0<=k/\k<=100000/\(∀i,i<3*k.toNat->(G6 W0 H0 i).isSome)/\UnRdy l1.blk (l1.base+o) W0 H0 w:=by
 simp only[S4] at h;split at h<;>try (cases h;done)
 rename_i W0 H0 q e1 e2;obtain⟨hq,h⟩:=bS h;split at h<;>try (cases h;done)
 rename_i k hk;obtain⟨hc,h⟩:=bS h;cases h;simp only[okU,aT,aO,cJ,fN] at hc;obtain⟨vs1,⟨w0,_,rfl,g0,w1,_,rfl,g1,g2⟩,k1⟩:=klf e1 hr h1;simp only[VRs] at g2;subst g2;simp only[VR] at g0 g1;subst g0;subst g1;exact⟨W0,H0,k,rfl,hk,hc.1.1,hc.1.2,hc.2,⟨k1 0 _ rfl,k1 1 _ rfl,koh e2 hq hr hgl h2⟩⟩
theorem kof {gl:List Nat} (h2:gl.contains 1=true):jwm Tryz.prog gl 160 S4:=by
 intro free H yk h ρ w lb hr hgl hv;have hfree:∃b o,free=[.ptr b o]:=by
  unfold S4 at h;split at h<;>try (cases h;done)
  exact⟨_,_,rfl⟩
 obtain⟨b,o,rfl⟩:=hfree;obtain⟨v1,_,hl,⟨l1,h1,rfl⟩,he⟩:=hv;simp only[VRs] at he;subst he;obtain rfl:lb=#[.pointer (some ⟨l1.blk,l1.base+o,none⟩)]:=lE.1 hl;obtain⟨W0,H0,k,rfl,hk,hk0,hk1,hok,hrd⟩:=j57 h hr hgl h2 h1;refine⟨⟨Tryz.f160,Tryz.func160,by kernel_rfl,by kernel_rfl⟩,(pV W0 H0 (3*k.toNat)).map unV,by simp,λi y z hy hz=>?_,_,λρ' H' w' hle h' hr'=>?_,koi hk hk0 hk1 hok w⟩
 ·simp only[lZ,eW] at hy hz;obtain⟨j,hj,rfl⟩:=hy;obtain⟨j',hj',rfl⟩:=hz;rw[hj] at hj';cases hj';exact⟨_,[],rfl,⟨_,rfl,_,_,rfl,rfl,_,_,rfl,rfl,rfl⟩,rfl⟩
 ·obtain⟨W1,H1,k',e1,_,_,_,_,g⟩:=j57 h' hr' (hgl.mono hle) h2 (hle _ _ h1);simp only[bC,pO,AV.int.injEq,true_and,rD] at e1;obtain⟨_,rfl,rfl⟩:=e1;exact g
end X
end Go.Vm
namespace Go.Proofs
open Go.RowKit Go.Shelf Go.Vm
attribute [local go_sem] Oper.semAt_some
namespace Ln
open Go.Vm.X
def iU (s:ByteArray):List Nat:=s.data.toList.map UInt8.toNat
theorem jxx (s:ByteArray):(iU s).length=s.size:=by unfold iU;rw[dM,lY];rfl
def BxS (b o:Nat) (s:ByteArray) (w:World):Prop:=∃cs T fr,w.heap[b]?=some (.cells cs T fr)/\cs[o]?=some (.string s)/\¬(fr.1<=o/\o<fr.2)
theorem BxS.cell {b o:Nat} {s:ByteArray} {w:World} (h:BxS b o s w):w.cell? ⟨b,o,none⟩=some (.string s):=by
 obtain⟨cs,T,fr,h1,h2,_⟩:=h;simp only[World.cell?,h1,I0,jX,dO,h2]
theorem BxS.frz {b o:Nat} {s:ByteArray} {w:World} (h:BxS b o s w):w.frozen? ⟨b,o,none⟩=false:=by
 obtain⟨cs,T,fr,h1,_,h3⟩:=h;obtain⟨lo,hi⟩:=fr;simp only[World.frozen?,h1];simp only[P0,iB];simp only at h3;omega
theorem BxS.set {b o:Nat} {s:ByteArray} {w:World} (h:BxS b o s w) (t:ByteArray) {bx:Nat->Prop} (hb:bx b):
  BxS b o t (w.setCell ⟨b,o,none⟩ (.string t))/\Vm.Own bx w (w.setCell ⟨b,o,none⟩ (.string t)):=by
 obtain⟨cs,T,fr,h1,h2,h3⟩:=h;have ho:o<cs.size:=(jI.1 h2).1;refine⟨⟨cs.setIfInBounds o (.string t),T,fr,?_,?_,h3⟩,rfl,rfl,rfl,by simp[World.setCell],λk u hk hn=>?_⟩
 ·simp only[World.setCell,v7,cK,h1,iF,I0,jX,dO]
 ·simp[P1,ho]
 ·have hne:b≠k:=λe=>hn (e▸hb)
  simp only[World.setCell,v7,aC hne,hk]
theorem BxS.lt {b o:Nat} {s:ByteArray} {w:World} (h:BxS b o s w):b<w.heap.size:=by
 obtain⟨cs,T,fr,h1,_⟩:=h;exact(jI.1 h1).1
theorem BxS.off {b o k:Nat} {s:ByteArray} {w w':World} {S S':Nat->Prop} (h:BxS b o s w) (g:Off S k w S' w') (h1:¬S b) (h2:b≠k):BxS b o s w':=by
 obtain⟨cs,T,fr,e1,e2,e3⟩:=h;exact⟨cs,T,fr,g.keep b _ e1 h1 h2 rfl,e2,e3⟩
def szAt (w:World) (b o:Nat):Nat:=match w.cell? ⟨b,o,none⟩ with
 | some (.string c)=>c.size
 | _=>0
theorem BxS.szAt {b o:Nat} {s:ByteArray} {w:World} (h:BxS b o s w):szAt w b o=s.size:=by unfold Ln.szAt;rw[h.cell]
theorem j96 (c:ByteArray) {k:Nat} (hk:k<c.size):iU c=iU (c.extract 0 (k+1))++iU (c.extract (k+1) c.size):=by
 have hk':k<c.data.size:=hk;unfold iU;rw[<-eI]
 congr 1
 simp only[ByteArray.data_extract,qgm,qgp];rw[fY,rC];conv=>lhs;rw[<-P4 (k+1) c.data.toList]
 congr 1
 rw[jD];rw[mT,lY];exact bQ _
theorem j95 (c:ByteArray) {k:Nat} (hk:k<c.size) (h3:c.data.toList=c.data.toList.take k++(10:UInt8)::c.data.toList.drop (k+1)) (h4:(10:UInt8)∉c.data.toList.take k):∃p,iU (c.extract 0 (k+1))=p++[10]/\10∉p:=by
 have hk':k<c.data.size:=hk;refine⟨(c.data.toList.take k).map UInt8.toNat,?_,λhm=>?_⟩
 ·have e:c.data.toList.take (k+1)=c.data.toList.take k++[10]:=by
   have hl:(c.data.toList.take k).length=k:=by rw[mU,lY];omega
   conv=>lhs;rw[h3]
   rw[qf8,hl,jD (by omega),show k+1-k=1 by omega];rfl
  unfold iU;simp only[ByteArray.data_extract,qgm,qgp];rw[fY,rC,e,eI];rfl
 ·obtain⟨x,hx,e⟩:=bH.1 hm;have:x=10:=I1.1 e;exact h4 (this▸hx)
set_option maxRecDepth 100000 in
set_option maxHeartbeats 1000000 in
theorem khw {b o nb:Nat} {s:ByteArray} {bx:Nat->Prop} (w0:World) (hs:s.size<=1000000000) (hbox:BxS b o s w0) (hbx:iU s≠[]->bx b):
  jqz Tryz.prog 79 #[.pointer (some ⟨b,o,none⟩)] bx ((iX (iU s)).map λl=>Itm.val nb (.str l)) (λ_ _=>True) w0:=by
 intro l J Jx W hB hJ hJx hS hY hR S0 h0;have hm:Tryz.prog.follows .mixedOrders=true:=by kernel_rfl
 refine callsIn_of_wp Tryz.func79 rfl trivial ?_ rfl;simp only[Tryz.ntmps79,qhb,cM,gV,Nat.reduceAdd,Nat.reduceSub,Array.replicate_succ,Array.replicate_zero,List.push_toArray,List.append_toArray,eP,fB];have hb0:BxS b o s W:=by
  obtain⟨cs,T,fr,h1,h2,h3⟩:=hbox;exact⟨cs,T,fr,(hB.block b (jI.1 h1).1).trans h1,h2,h3⟩
 gi_wp2
 gi_loopw [] (λwr=>∃(i:Nat) (S:Nat->Prop) (c:ByteArray),J i S wr/\BxS b o c wr/\iX (iU c)=(iX (iU s)).drop i/\c.size<=1000000000/\w0.heap.size<=wr.heap.size/\i<=(iX (iU s)).length)
  (λwr=>szAt wr b o)
 case atStart=>exact⟨0,S0,s,h0,hb0,rfl,hs,hB.size,eJ _⟩
 case round=>
  obtain⟨i,S,c,hJi,hbc,hln,hcs,hsz,hil⟩:=hrel;have hcell:=hbc.cell;by_cases hc0:c.size=0
  ·have hd:decide ((0:Int)< (c.size:Int))=false:=lF (by omega)
   gi_wp2
   go_end0
   refine⟨⟨_,rfl⟩,.inl ⟨S,?_⟩⟩;have e1:iU c=[]:=rW (by rw[jxx];exact hc0);rw[e1] at hln;have e2:(iX (iU s)).length<=i:=qe9.1 hln.symm;rw[dM,show(iX (iU s)).length=i by omega];exact hJi
  ·have hd:decide ((0:Int)< (c.size:Int))=true:=bJ (by omega);have hcn:iU c≠[]:=λe=>hc0 (by have:=congrArg List.length e;rw[jxx] at this;exact this)
   have hln1:iX (iU c)≠[]:=λe=>hcn (o8.1 e)
   have hbb:bx b:=hbx λe=>hln1 (by rw[hln,e];simp[iX])
   have hltl:i< (iX (iU s)).length:=by
    rcases qim i (iX (iU s)).length with h | h
    ·exact h
    ·exact absurd (hln.trans (qe9.2 h)) hln1
   gi_wp2
   refine⟨trivial,(jd5 (Tryz.strings_IndexByte c 10 wr)).mono ?_⟩;rintro e W1 ⟨rfl,rfl⟩;rcases j0k 10 c.data.toList with⟨h1,h2⟩ | ⟨k,h1,h2,h3,h4⟩
   ·rw[show Lib.indexByte c.data.toList (Nat.toUInt8 (Int.toNat 10))= -1 from h1];have hten:10∉iU c:=λhm=>by
     obtain⟨x,hx,e⟩:=bH.1 hm;have:x=10:=I1.1 e;exact h2 (this▸hx)
    have hln2:=jev hcn hten;rw[hln2] at hln;have hrow:(iX (iU s))[i]?=some (iU c):=by
     have:=congrArg (λl=>l[0]?) hln;simpa[List.getElem?_drop] using this.symm
    have hrest:(iX (iU s)).drop (i+1)=[]:=by
     have:=congrArg (λl=>l.drop 1) hln;simpa[zD] using this.symm
    have hset:=hbc.set ⟨#[]⟩ hbb;have hfz:=hbc.frz;have hJ2:=hJ _ _ _ _ hJi hset.2;have hsz2:=hset.2.size;obtain⟨fn,tmps,assign,body,hy,hR1⟩:=hY i S (.val nb (.str (iU c))) #[.string c] _ _ (by rw[lZ,hrow];rfl) hJ2 ⟨rfl,_,rfl,λρ=>⟨c,rfl,rfl⟩⟩ (by omega) (λh=>Nat.lt_irrefl _ (hS _ _ _ _ hJ2 h).1)
    gi_wp2
    refine RoundIn.mono hR1 ?_;rintro en W3 (⟨rfl,S',hJ3,hoff⟩ | ⟨rfl,hJ3⟩)
    ·have hb3:BxS b o ⟨#[]⟩ W3:=hset.1.off hoff (λh=>(hS _ _ _ _ hJ2 h).2 hbb) (Nat.ne_of_lt hset.1.lt);have hsz3:=hoff.size
     gi_wp2
     go_roundw
     case rel=>exact⟨i+1,S',⟨#[]⟩,hJ3,hb3,hrest.symm,by decide,by omega,by omega⟩
     case measure=>
      rw[hb3.szAt,hbc.szAt];show 0<c.size;omega
    ·gi_wp2
     refine bodyPost_ret (results_none rfl _ _ _) rfl ?_;exact⟨⟨_,rfl⟩,.inr hJ3⟩
   ·rw[show Lib.indexByte c.data.toList (Nat.toUInt8 (Int.toNat 10))=(k:Int) from h1];have k0:(0:Int)<=(k:Int):=by omega
    have hkc:k<c.size:=by
     rw[lY] at h2;exact h2
    have k1:(k:Int)+1<=(c.size:Int):=by omega
    have k2:(0:Int)<=(k:Int)+1:=by omega
    have k3:wrap64 ((k:Int)+1)=(k:Int)+1:=by unfold wrap64;omega
    gi_wp2
    refine kmg (m:=9) (d:=1) rfl hm (by kernel_rfl) rfl (by kernel_rfl) rfl (R:=λa' w'=>(∃(v12 v13 v14 v15 v16 v17 v18:Value),a'={ tmps:=#[Value.func (Fn.yield l) #[] #[],Value.pointer (some ⟨b,o,none⟩),undef,Value.string (c.extract 0 (k+1)),Value.int .i64 k,Value.string c,Value.int .i64 c.size,Value.bool true,Value.string c,Value.int .i64 k,Value.int .i64 k,Value.bool true,v12,v13,v14,v15,v16,v17,v18,Value.string (c.extract (k+1) c.size),u20,u21,u22,u23,u24],defers:=[] })/\∃n,w'=W1.drewN n) ?_ ?_
    ·simp only[List.extract_toArray,qgp,fY,rC,zA,qga];repeat (gi_big_quiet_step (fail))
     refine wpQuietIn_nil ?_;exact λw' hw'=>⟨⟨_,_,_,_,_,_,_,rfl⟩,hw'⟩
    ·rintro _ _ ⟨⟨v12,v13,v14,v15,v16,v17,v18,rfl⟩,q,rfl⟩ f;have hbq:BxS b o c (W1.drewN q):=hbc;have hJq:J i S (W1.drewN q):=hJ _ _ _ _ hJi ⟨rfl,rfl,rfl,bQ _,λ_ _ h _=>h⟩;have hset:=hbq.set (c.extract (k+1) c.size) hbb;have hfz:=hbq.frz;have hcq:=hbq.cell;have hJ2:=hJ _ _ _ _ hJq hset.2;have hsz2:W1.heap.size<=_:=hset.2.size;have e1:iU c=iU (c.extract 0 (k+1))++iU (c.extract (k+1) c.size):=j96 c hkc;obtain⟨p,hp,hp10⟩:∃p,iU (c.extract 0 (k+1))=p++[10]/\10∉p:=j95 c hkc h3 h4;have hln2:iX (iU c)=iU (c.extract 0 (k+1))::iX (iU (c.extract (k+1) c.size)):=by
      rw[e1,hp,dL];exact jeu hp10
     rw[hln2] at hln;have hrow:(iX (iU s))[i]?=some (iU (c.extract 0 (k+1))):=by
      have:=congrArg (λl=>l[0]?) hln;simpa[List.getElem?_drop] using this.symm
     have hrest:(iX (iU s)).drop (i+1)=iX (iU (c.extract (k+1) c.size)):=by
      have:=congrArg (λl=>l.drop 1) hln;simpa[zD] using this.symm
     have hrs:(c.extract (k+1) c.size).size=c.size-(k+1):=by simp
     obtain⟨fn,tmps,assign,body,hy,hR1⟩:=hY i S (.val nb (.str (iU (c.extract 0 (k+1))))) #[.string (c.extract 0 (k+1))] _ _ (by rw[lZ,hrow];rfl) hJ2 ⟨rfl,_,rfl,λρ=>⟨_,rfl,rfl⟩⟩ (by omega) (λh=>Nat.lt_irrefl _ (hS _ _ _ _ hJ2 h).1);refine wpAnyIn_ready (rs:=[9]) (by kernel_rfl) (by simp) (AllReadyIn.cons rfl (λK hK=>?_) AllReadyIn.nil)
     go_simp
     refine hK _ _ ?_;refine wpAnyIn_done (by kernel_rfl) ?_ _
     gi_wp2
     refine RoundIn.mono hR1 ?_;rintro en W3 (⟨rfl,S',hJ3,hoff⟩ | ⟨rfl,hJ3⟩)
     ·have hb3:BxS b o (c.extract (k+1) c.size) W3:=hset.1.off hoff (λh=>(hS _ _ _ _ hJ2 h).2 hbb) (Nat.ne_of_lt hset.1.lt);have hsz3:=hoff.size
      gi_wp2
      go_roundw
      case rel=>exact⟨i+1,S',_,hJ3,hb3,hrest.symm,by omega,by omega,by omega⟩
      case measure=>
       rw[hb3.szAt,hbc.szAt,hrs];omega
     ·gi_wp2
      refine bodyPost_ret (results_none rfl _ _ _) rfl ?_;exact⟨⟨_,rfl⟩,.inr hJ3⟩
end Ln
end Go.Proofs
namespace Go.Vm
namespace X
open W Go.Proofs Go.Proofs.Ln
def jb6:ItF:=λfree H=>match free with
 | [.ptr b o]=>match I5 H b o 1 with
   | some [.str s]=>bif s.length.ble 1000000000 then some ((iX s).map λl=>ja7 b (.str l),[.str s]) else none
   | _=>none
 | _=>none
def V2 (x:zK [.str]):Option (List (List Nat)):=bif x.1.length.ble 1000000000 then some (iX x.1) else none
theorem kh0 (G:cV) (F:bR) (H:Tr Blk) (cap:zK [.str]) (free:List AV) (l:List (List Nat)) (hn:(λ_:cV=>true) G=true) (hg:GOn G H) (h:jan F H [.str] cap free) (hF:∀x∈F,x.2.At H x.1) (hr:V2 cap=some l):
  jb6 free H=some (l.map (λy=>kI true free .str y),[.str cap.1]):=by
 obtain⟨b1,m1,_,rfl,a1,r1,hnil⟩:=h;simp only[jan] at hnil;subst hnil;obtain⟨s,u⟩:=cap;simp only[cB] at r1;subst r1;unfold V2 at hr;obtain⟨hc,hr⟩:=bS hr;cases hr;simp only at hc;simp only[jb6,juo a1 (n:=1) rfl,hc,aF];rfl
theorem khz {gl:List Nat}:jwn Tryz.prog gl 79 jb6:=by
 intro free H yk h ρ w lb hr hgl hv;have hfree:∃b o,free=[.ptr b o]:=by
  unfold jb6 at h;split at h<;>try (cases h;done)
  exact⟨_,_,rfl⟩
 obtain⟨b,o,rfl⟩:=hfree;obtain⟨v1,_,hl,⟨l1,h1,rfl⟩,he⟩:=hv;simp only[VRs] at he;subst he;obtain rfl:lb=#[.pointer (some ⟨l1.blk,l1.base+o,none⟩)]:=lE.1 hl;simp only[jb6] at h;split at h<;>try (cases h;done)
 rename_i s hrd;obtain⟨hc,h⟩:=bS h;rw[bB,aO] at hc;cases h;unfold I5 at hrd;split at hrd<;>try (cases hrd;done)
 rename_i c m hb;obtain⟨hm,ht⟩:=bS hrd;rw[bB,aO] at hm;obtain⟨t1,t2⟩:=jdf _ _ _ _ ht;obtain⟨cs,el,fr,g1,g2,g3,g4,g5⟩:=hr.blk b _ l1 hb h1;obtain⟨a,v,k1,k2,k3⟩:=g5 o (by omega);have e1:=t2 0 (by omega);rw[mG,k1] at e1;simp only[xK,aS] at e1;subst e1;obtain⟨bs,rfl,hbs⟩:=k3;have hsz:bs.size=s.length:=by rw[<-hbs,dM,lY];rfl
 have hbx:BxS l1.blk (l1.base+o) bs w:=⟨cs,el,fr,g1,k2,g4 _ (by omega) λ_=>by omega⟩
 refine⟨⟨Tryz.f79,Tryz.func79,by kernel_rfl,by kernel_rfl⟩,(iX s).map λl=>Itm.val b (.str l),?_,λ_ _=>True,λ_ _ _ _ _ _=>trivial,?_⟩
 ·simp only[jF];rfl
 ·have key:=khw (bx:=ja9 ρ ((iX s).map λl=>ja7 b (.str l))) (nb:=b) w (by omega) hbx λhne=>by
   have e2:iU bs=s:=hbs;rw[e2] at hne;cases hq:iX s with
   | nil=>exact absurd (o8.1 hq) hne
   | cons x r=>exact⟨b,0,.str x,_,0,0,0,none,l1,rfl,h1,rfl⟩
  have e2:iU bs=s:=hbs;rw[e2] at key;exact key
abbrev itsL:wO:=[(160,S4),(79,jb6)]
def keb:ITE:=⟨79,[.str],.str,V2,jb6,λcap=>[.str cap.1],λ_=>true,true,kh0,itsL,rfl⟩
def kec:ITE:={ ked with ls:=itsL,inl:=rfl }
theorem itsL_ok {gl:List Nat} (h2:gl.contains 1=true:=by rfl):S8 Tryz.prog gl itsL:=λf it h=>by
 simp only[itsL,jer] at h;cases h1:Nat.beq 160 f with
 | true=>
   rw[h1,aF] at h;rw[bE,aO] at h1;cases h;subst h1;exact .inl (kof h2)
 | false=>
   rw[h1,aG] at h;obtain⟨h3,h4⟩:=bS h;rw[bE,aO] at h3;cases h4;subst h3;exact .inr khz
end X
end Go.Vm
