/- Parts of the proof. -/
import Derived.Test.YtccefhabickfiaaGreatDoorIn
import Derived.Shelf.RegionOpen
import Derived.LoopIn
import Derived.Test.YtccefhabickfiaaGreatDoorLP
set_option linter.unusedSimpArgs false
set_option linter.defProp false
set_option linter.unusedVariables false
namespace Go.Vm
open Go.RowKit
variable {P:Program} {F:Fence} {n:Nat} {ops:Array Oper} {Q Q1:Exit->Act->World->Prop} {m:Nat}
def j4o (hQ:∀e a w,Q1 e a w->e=.normal) {o:Oper} {a:Act} {w:World} {K:Act->World->Prop} (h:o.wpIn F n P a w K Q1):o.wpIn F n P a w K Q:=by
 refine⟨h.1,?_⟩;have h:=h.2;have np:∀ {ch a w},¬Q1 (.panic ch) a w:=λh=>by have:=hQ _ _ _ h;cases this
 have no:¬LetsOut Q1:=fun⟨a,w,h⟩=>by have:=hQ _ _ _ h;cases this
 generalize (o.semAt F.round a.eval).run P w=x at h ⊢;cases x with
 | ok y w'=>
   cases y<;>simp only[Oper.uponIn] at h ⊢
   all_goals first
    | exact h
    | exact⟨h.1,CallsIn.mono h.2 λe w'' he=>by cases e<;>first | exact he | exact(np he).elim | exact(no he).elim⟩
    | exact⟨h.1,RoundIn.mono h.2 λe w'' he=>by cases e<;>first | exact he | exact(np he).elim | exact(no he).elim⟩
 | halt y w'=>cases y<;>simp only[Oper.uponIn] at h ⊢<;>first | exact h | exact(np h).elim
def jdp (ops:Array Oper) (m:Nat):Bool:=
 let es:=ops.toList.map qM
 let an:=(Region.before ops).toList
 m.ble ops.size&&Do es&&Il es an&&((List.range m).all λi=>match ops[i]? with | some o=>(match o.guard with | some (k,_)=>k.blt m | none=>true) | none=>true)&&(List.range ops.size).all λj=>j.blt m||(List.range m).all λi=>(an.getD j 0).testBit i
def Xa (ops:Array Oper) (listed:Array Bool):Prop:=∀(j:Nat) (o:Oper),listed[j]?=some true->ops[j]?=some o->∀e∈o.after.toList,Region.binds .any e=true->listed.getD e.on false=true
def ji3 {j:Nat} {o:Oper} (ho:ops[j]?=some o) {k:Nat}:k∈(ops.toList.map qM).getD j []↔∃e∈o.after.toList,Region.binds .any e=true/\e.on=k:=by
 have:(ops.toList.map qM).getD j []=qM o:=by
  rw[jF,jH];have:ops.toList[j]?=some o:=by simpa using ho
  rw[this];rfl
 rw[this];unfold qM;simp only[yK,Option.ite_none_right_eq_some,aG]
def getD_some {l:Array Bool} {k:Nat} (h:l.getD k false=true):l[k]?=some true:=by
 unfold Array.getD at h;split at h
 ·rename_i hk;rw[mA hk];exact congrArg some h
 ·cases h
def ju7 (h2:Do (ops.toList.map qM)=true) (h3:Il (ops.toList.map qM) (Region.before ops).toList=true) {listed:Array Bool} (hc:Xa ops listed):
  ∀(j i:Nat),j<ops.size->i<ops.size->((Region.before ops).toList.getD j 0).testBit i=true->(∀o,ops[j]?=some o->∀e∈o.after.toList,Region.binds .any e=true->listed.getD e.on false=true)->listed.getD i false=true:=by
 intro j;induction j using Nat.strongRecOn with
 | _ j ih=>
   intro i hj hi hb hd;have ho:ops[j]?=some ops[j]:=mA hj;unfold Il at h3;have g1:=bS.1 (bS.1 h3 j (by simpa using hj)) i (by simpa using hi);simp only[hb,fC,oO,Ga,kD,beq_iff_eq] at g1;obtain⟨k,hk,hki⟩:=g1;obtain⟨e,he,hbd,rfl⟩:=(ji3 ho).1 hk;have hl:=hd _ ho e he hbd;rcases hki with rfl | hki
   ·exact hl
   ·unfold Do at h2;have g2:=bS.1 (bS.1 h2 j (by simpa using hj)) e.on hk;have hlt:e.on<j:=by simpa using g2
    refine ih e.on hlt i (by omega) hi hki λo' ho' e' he' hb'=>?_
    exact hc _ _ (getD_some hl) ho' e' he' hb'
structure uN (m N:Nat) (l' l:Array Bool):Prop where
 s1:l'.size=m
 s2:l.size=N
 eq:∀i,i<m->l'.getD i true=l.getD i true
 late:∀i,m<=i->l.getD i false=false
def Ad {l:Array Bool} {k:Nat} (h:k<l.size):l.getD k false=l.getD k true:=by simp[Array.getD,h]
def ju8 (h:jdp ops m=true) (hQ:∀e a w,Q1 e a w->e=.normal) {d:Nat}
  (hnext:∀a w,Q1 .normal a w->∀f listed,listed.size=ops.size->(∀i,i<ops.size->listed.getD i true=decide (i<m))->wpAnyIn F n P .any ops Q (f+d) listed a w):
  ∀(k:Nat) (l' l:Array Bool) (a:Act) (w:World),uN m ops.size l' l->Xa ops l->wpAnyIn F n P .any (ops.extract 0 m) Q1 k l' a w->wpAnyIn F n P .any ops Q (k+d) l a w:=by
 unfold jdp at h;simp only[aN] at h;obtain⟨⟨⟨⟨hm,h2⟩,h3⟩,hgu⟩,h4⟩:=h;rw[aP,aH] at hm;have hsub:∀i,i<m->(ops.extract 0 m)[i]?=ops[i]?:=λi hi=>by
  rw[Array.getElem?_extract];simp only[iC,nN];rw[aK (by omega)]
 have hback:∀i o,ops[i]?=some o->∀e∈o.after.toList,Region.binds .any e=true->e.on<i:=λi o ho e he hb=>by
  have hi:i<ops.size:=(eJ.1 ho).1;unfold Do at h2;have g2:=bS.1 (bS.1 h2 i (by simpa using hi)) e.on ((ji3 ho).2 ⟨e,he,hb,rfl⟩);simpa using g2
 have rdy:∀ {l' l:Array Bool},uN m ops.size l' l->∀i,i<m->(i∈Region.ready .any ops l↔i∈Region.ready .any (ops.extract 0 m) l'):=λ{l' l} hs i hi=>by
  rw[mem_ready,mem_ready,hs.eq i hi,hsub i hi];refine and_congr Iff.rfl ⟨?_,?_⟩
  ·rintro ⟨o,ho,hall⟩;refine⟨o,ho,λe he hb=>?_⟩;have hlt:=hback i o ho e (by simpa using he) hb;rw[Ad (by rw[hs.s1];omega),hs.eq _ (by omega),<-Ad (by rw[hs.s2];omega)];exact hall e he hb
  ·rintro ⟨o,ho,hall⟩;refine⟨o,ho,λe he hb=>?_⟩;have hlt:=hback i o ho e (by simpa using he) hb;rw[Ad (by rw[hs.s2];omega),<-hs.eq _ (by omega),<-Ad (by rw[hs.s1];omega)];exact hall e he hb
 have full:∀ {l' l:Array Bool},uN m ops.size l' l->Region.ready .any (ops.extract 0 m) l'=[]->∀i,i<m->l.getD i true=true:=λ{l' l} hs hr i=>by
  induction i using Nat.strongRecOn with
  | _ i ih=>
    intro hi;cases hli:l.getD i true with
    | true=>rfl
    | false=>
      have:i∈Region.ready .any ops l:=by
       rw[mem_ready];refine⟨hli,ops[i]'(by omega),mA (by omega),λe he hb=>?_⟩;have hlt:=hback i _ (mA (by omega)) e (by simpa using he) hb;rw[Ad (by rw[hs.s2];omega)];exact ih e.on hlt (by omega)
      rw[rdy hs i hi,hr] at this;cases this
 have fin:∀ {l' l:Array Bool},uN m ops.size l' l->Region.ready .any (ops.extract 0 m) l'=[]->∀i,i<ops.size->l.getD i true=decide (i<m):=λ{l' l} hs hr i hi=>by
  by_cases him:i<m
  ·rw[full hs hr i him];simp[him]
  ·rw[<-Ad (by rw[hs.s2];exact hi),hs.late i (by omega)];simp[him]
 intro k;induction k with
 | zero=>
   intro l' l a w hs hc hw;have:=hnext a w hw.2 0 l hs.s2 (fin hs hw.1);exact this
 | succ k ih=>
   intro l' l a w hs hc hw;obtain⟨w1,w2⟩:=hw;by_cases hr:Region.ready .any (ops.extract 0 m) l'=[]
   ·exact hnext a w (w1 hr) (k+1) l hs.s2 (fin hs hr)
   ·obtain⟨x,hx⟩:=List.exists_mem_of_ne_nil _ hr;have hxm:x<m:=by
     rw[mem_ready] at hx;obtain⟨_,o,ho,_⟩:=hx;have:=(eJ.1 ho).1;simp at this;omega
    have hxl:l.getD x true=false:=by
     rw[mem_ready,hs.eq x hxm] at hx;exact hx.1
    have key:∀i∈Region.ready .any ops l,i<m:=λi hi=>by
     refine sO λhge=>?_
     rw[mem_ready] at hi;obtain⟨_,o,ho,hall⟩:=hi;have his:i<ops.size:=(eJ.1 ho).1;have g4:=bS.1 h4 i (by simpa using his);have hnb:i.blt m=false:=by
      cases hb:i.blt m with
      | false=>rfl
      | true=>
        have:(i+1).ble m=true:=hb;rw[aP,aH] at this;omega
     rw[hnb,oO] at g4;have:=ju7 h2 h3 hc i x his (by omega) (bS.1 g4 x (by simpa using hxm)) λo' ho' e he hb=>by
      rw[ho] at ho';cases ho';exact hall e (by simpa using he) hb
     rw[Ad (by rw[hs.s2];omega),hxl] at this;cases this
    have ek:k+1+d=(k+d)+1:=by omega
    rw[ek];refine⟨λhe=>?_,λi hi=>?_⟩
    ·have:=(rdy hs x hxm).2 hx;rw[he] at this;cases this
    ·have him:=key i hi;have hi':=(rdy hs i him).1 hi;have h5:=w2 i hi';rw[mem_ready] at hi;obtain⟨hli,o,ho,hall⟩:=hi;have his:i<ops.size:=by omega
     have hs':uN m ops.size (l'.setIfInBounds i true) (l.setIfInBounds i true):=by
      refine⟨by simp[hs.s1],by simp[hs.s2],λj hj=>?_,λj hj=>?_⟩
      ·have g:∀(q:Array Bool),j<q.size->(q.setIfInBounds i true).getD j true=if i=j then true else q.getD j true:=λq hq=>by
        simp only[Array.getD,Th,hq,dif_pos];by_cases e:i=j
        ·subst e;simp[hq]
        ·rw[aD e];exact Sx _ e
       rw[g _ (by rw[hs.s1];exact hj),g _ (by rw[hs.s2];omega),hs.eq j hj]
      ·by_cases hjl:j<l.size
       ·have:=hs.late j hj;simp only[Array.getD,hjl,dif_pos] at this;simp only[Array.getD,Th,hjl,dif_pos];exact(Sx _ (by omega)).trans this
       ·simp[Array.getD,hjl]
     have hc':Xa ops (l.setIfInBounds i true):=by
      intro j o' hj ho' e he hb;have mono:∀q,l.getD q false=true->(l.setIfInBounds i true).getD q false=true:=λq hq=>by
       have hq1:q<l.size:=by
        unfold Array.getD at hq;split at hq
        ·assumption
        ·cases hq
       simp only[Array.getD,Th,hq1,dif_pos] at hq ⊢;by_cases e:i=q
       ·subst e;exact Array.getElem_setIfInBounds_self _
       ·exact(Sx _ e).trans hq
      refine mono _ ?_;by_cases e1:i=j
      ·subst e1;rw[ho] at ho';cases ho';exact hall e (by simpa using he) hb
      ·refine hc j o' ?_ ho' e he hb;rw[vN] at hj;rw[aD e1] at hj;exact hj
     unfold wpOpIn at h5 ⊢;rw[hsub i him,ho] at h5;rw[ho];have hyl:Region.wanted o (yielded (ops.extract 0 m) a.tmps)=Region.wanted o (yielded ops a.tmps):=by
      have g5:=bS.1 hgu i (by simpa using him);rw[ho] at g5;simp only at g5;unfold Region.wanted;cases hg:o.guard with
      | none=>rfl
      | some y=>
        obtain⟨q,want⟩:=y;rw[hg] at g5;have hq:q<m:=by
         have:(q+1).ble m=true:=g5;rw[aP,aH] at this;exact this
        have:yielded (ops.extract 0 m) a.tmps q=yielded ops a.tmps q:=by
         unfold yielded;rw[hsub q hq]
        simp only[this]
     simp only[hyl] at h5 ⊢;split
     ·rename_i hw;rw[aK hw] at h5;exact j4o hQ (Oper.wpIn_mono (λa w=>ih _ _ a w hs' hc') h5)
     ·rename_i hw;rw[aD hw] at h5;exact⟨h5.1,ih _ _ _ _ hs' hc' h5.2⟩
def Uf (m N:Nat):Array Bool:=((List.range N).map λi=>decide (i<m)).toArray
def j5f {m N:Nat} {l:Array Bool} (h1:l.size=N) (h2:∀i,i<N->l.getD i true=decide (i<m)):l=Uf m N:=by
 apply Array.ext
 ·simp[Uf,h1]
 ·intro i hi hi';have:=h2 i (by omega);simp only[Array.getD,hi,dif_pos] at this;rw[<-Array.getInternal_eq_getElem,this];simp[Uf]
def j6u {id d:Nat} {a:Act} {w:World} {l:List Oper} {R:Act->World->Prop} (hro:F.round=none) (hm:P.follows .mixedOrders=true) (h:jdp ops m=true) (hl:(ops.extract 0 m).toList=l)
  (hB:Region.lexB .any (ops.extract 0 m)=true) (hd:m+d=ops.size)
  (hq:wpQuietIn F n P (ops.extract 0 m) (λw'=>∃n,w'=w.drewN n) (λa'=>∀w',(∃n,w'=w.drewN n)->R a' w') l a)
  (hnext:∀a w,R a w->∀f,wpAnyIn F n P .any ops Q (f+d) (Uf m ops.size) a w):(Code.region id ops true).wpIn F n P Q a w:=by
 refine wpIn_region_any hm ?_;have hms:m<=ops.size:=by omega
 have hsz:(ops.extract 0 m).size=m:=by simp;omega
 simp only[Region.lexB,aN] at hB;have hlen:l.length=m:=by rw[<-hl];simp;omega
 have h1:=wpAnyQIn_lex (F:=F) (n:=n) (P:=P) (C:=λw'=>∃n,w'=w.drewN n) (md:=.any) hB.1 l 0 (Array.replicate m false) a (λj=>by rw[<-hl,lZ,iC]) (by
  have:=hB.2;rw[hsz] at this;rw[hlen];exact this) hq
 rw[hlen] at h1;have h2:=wpAnyIn_of_quiet (Q':=λe a' w'=>e=.normal/\R a' w') hro (λ_ w' hw' h=>⟨rfl,h w' hw'⟩) _ _ _ _ (⟨1,rfl⟩:∃n,{ w with drawn:=w.drawn+1 }=w.drewN n) h1;have gr:∀(k i:Nat) (d:Bool),(Array.replicate k false).getD i d=if i<k then false else d:=by
  intro k i d;by_cases hk:i<k<;>simp[Array.getD,hk]
 have:=ju8 (Q:=Q) h (λe a w h=>h.1) (d:=d) (λa w hR f listed h1 h2=>by rw[j5f h1 h2];exact hnext a w hR.2 f) m (Array.replicate m false) (Array.replicate ops.size false) a _ ⟨by simp,by simp,λi hi=>by rw[gr,gr,aK hi,aK (by omega)],λi hi=>by rw[gr];split<;>rfl⟩ (λj o hj=>by
  rw[qe7] at hj;split at hj<;>cases hj) h2
 rw[hd] at this;exact this
end Go.Vm
namespace Go.Vm.X.In
open Go Go.Vm Go.Vm.W Go.Vm.X Go.Proofs Go.RowKit
def jh8 {t:TE} {m:Nat} (ht:cE BI Sc prog m [t]) {a:eE t.ins} {r:eE t.outs} (hr:t.run a=some r) {vs:List AV} (hv:lT [] t.ins a vs []) {v0:AV} {u0:Value}
  (h0:∀F v E,uK F t.outs r v E->v=v0) (h1:∀ρ u,VR ρ v0 u->u=u0)
  {ρ:RM} {W:World} (hR:HR ρ BI.H0 W) (hgl:GLok gl ρ) (hfree:∀b,BI.nx0<=b->ρ b=none) {args:Array Value} (ha:VRs ρ vs args.toList):
  Calls Tryz.prog t.f args W λe W'=>e=.returned u0/\Below W.heap.size W W':=by
 have hk:HK BI RO [] BI.H0 RO:=⟨by decide,by decide,λ_ _=>rfl,(λ_ h=>by cases h),qg5⟩
 obtain⟨v,E,N,H',nx',F',h2,_,_,_,h3⟩:=ht t (bF.2 rfl) m (aU _) a r hr RO [] [] BI.H0 RO hk (λ_ h=>by cases h) [] (λx hx=>by cases hx) vs hv;obtain rfl:=h0 _ _ _ h3;have hwf:WF BI.H0 RO:=λb h=>by
  have:b<12:=by
   have hw:=jgn (es:=es) (n:=12) (by kernel_rfl);exact hw b h
  exact kB this (by decide)
 obtain⟨_,key⟩:=(Gl j1c mixed Fl m).1 _ _ _ _ _ _ _ _ h2;refine(key ρ W args hR (λb hb _=>hfree b (eA (by decide) hb)) (aU _) hgl hwf ha).2.mono ?_;rintro e W' ⟨v',rfl,ρ',st,_,hv'⟩;refine⟨by rw[h1 _ _ hv'],st.os,st.tape,st.output,st.size,λx hx=>st.keep x hx λb l hb _ _=>?_⟩;apply sO;intro hn;rw[hfree b (eA (by decide) (Nat.le_of_not_lt hn))] at hb;cases hb
def j4v {n er:Int} {F:aQ} {v:AV} {E:List Ent} (h:uK F [.d (.int .i64),.d (.int .i64)] (n,er) v E):v=.tup [.int .i64 n,.int .i64 er]:=by
 obtain⟨vs,rfl,v1,vs',E1,E2,rfl,_,h1,v2,rfl,h2⟩:=h;unfold gC at h1 h2;simp only[Rep.agg,Ty.agg,aF] at h1 h2;obtain⟨_,h1,_⟩:=h1;obtain⟨_,h2,_⟩:=h2;simp only[aX,kX,mD] at h1 h2;rw[h1,h2];rfl
def j4u {n:Int} {F:aQ} {v:AV} {E:List Ent} (h:uK F [.d (.int .i64)] n v E):v=.int .i64 n:=by
 obtain⟨vs,rfl,v1,rfl,h1⟩:=h;unfold gC at h1;simp only[Rep.agg,Ty.agg,aF] at h1;obtain⟨_,h1,_⟩:=h1;simp only[aX,kX,mD] at h1;rw[h1];rfl
def jpr {w h:Int}:gC [] (.d (.prod (.int .i64) (.int .i64))) (w,h) (.agg [.int .i64 w,.int .i64 h]) []:=⟨_,rfl,rfl,⟨_,_,rfl,rfl,rfl⟩,rfl⟩
def jkv {k:IntKind} {n:Int}:gC [] (.d (.int k)) n (.int k n) []:=⟨rfl,rfl,rfl⟩
structure QOn (W:World):Prop where
 ex:∃ρ:RM,HR ρ BI.H0 W/\GLok gl ρ/\∀b,BI.nx0<=b->ρ b=none
def jmp {w h id e n er:Int} (hv:sheets_Neighbour fuel ((w,h),(id,e))=some (n,er)) {W:World} (hq:QOn W):
  Calls Tryz.prog 128 #[.agg #[.int .i64 w,.int .i64 h],.int .i64 id,.int .u8 e] W λen W'=>en=.returned (.tuple #[.int .i64 n,.int .i64 er])/\Below W.heap.size W W':=by
 obtain⟨ρ,h1,h2,h3⟩:=hq.ex;refine jh8 (t:=wE fuel) jcd (a:=((w,h),(id,e))) hv (vs:=[.agg [.int .i64 w,.int .i64 h],.int .i64 id,.int .u8 e]) ⟨_,_,[],[],rfl,rfl,jpr,_,_,[],[],rfl,rfl,jkv,_,rfl,jkv⟩ (λF v E h=>j4v h) (λρ u hu=>?_) h1 h2 h3 ?_
 ·obtain⟨cs,rfl,v1,_,e1,h1,v2,_,rfl,h2,h3⟩:=hu;simp only[VR,VRs] at h1 h2 h3;subst h1 h2 h3;rw[show cs=#[.int .i64 n,.int .i64 er] from gF.1 e1]
 ·exact⟨_,_,rfl,⟨_,rfl,_,_,rfl,rfl,_,_,rfl,rfl,rfl⟩,_,_,rfl,rfl,_,_,rfl,rfl,rfl⟩
def jij {w h n:Int} (hv:sheets_Count fuel (w,h)=some n) {W:World} (hq:QOn W):
  Calls Tryz.prog 161 #[.agg #[.int .i64 w,.int .i64 h]] W λen W'=>en=.returned (.int .i64 n)/\Below W.heap.size W W':=by
 obtain⟨ρ,h1,h2,h3⟩:=hq.ex;refine jh8 (t:=Ck fuel) jnh (a:=(w,h)) hv (vs:=[.agg [.int .i64 w,.int .i64 h]]) ⟨_,rfl,jpr⟩ (λF v E h=>j4u h) (λρ u hu=>hu) h1 h2 h3 ?_;exact⟨_,_,rfl,⟨_,rfl,_,_,rfl,rfl,_,_,rfl,rfl,rfl⟩,rfl⟩
end Go.Vm.X.In
namespace Go.Proofs
open Go.RowKit Go.Shelf Go.Vm
attribute [local go_sem] Oper.semAt_some
namespace Un
open Go.Vm.X.In (jmp jij QOn)
def vD:Value->Int
 | .int _ n=>n
 | _=>0
def Ap (w h:Int) (i:Nat):Option (Int×Int):=Go.Vm.X.In.sheets_Neighbour Go.Vm.fuel ((w,h),(((i / 3:Nat):Int),((i%3:Nat):Int)))
def mK (w h:Int) (i:Nat):Bool:=match Ap w h i with
 | some (n,er)=>decide (er=0)&&decide (((i / 3:Nat):Int)<n)
 | none=>false
def tH (w h:Int) (k:Nat):List Nat:=(List.range k).filter (mK w h)
def Hm (i:Nat):Array Value:=#[.agg #[.int .i64 ((i / 3:Nat):Int),.int .u8 ((i%3:Nat):Int)]]
def j96 {k i:Nat} {w h:Int} (hp:mK w h i=true) (hi:i<k):
  ((tH w h k).map Hm)[((List.range i).filter (mK w h)).length]?=some (Hm i):=by
 have e:List.range k=List.range i++i::List.range' (i+1) (k-i-1):=by
  rw[qfp,qfp];have h1:=List.range'_append_1 (s:=0) (m:=i) (n:=k-i);rw[show i+ (k-i)=k by omega,iC] at h1;rw[<-h1,show k-i=(k-i-1)+1 by omega,qgr];rfl
 unfold tH;rw[e,qf8,Bk,aK hp,fY,Bc (by simp)];simp
structure UnRdy (b o:Nat) (w h:Int) (W:World):Prop where
 w:W.cell? ⟨b,o,none⟩=some (.int .i64 w)
 h:W.cell? ⟨b,o+1,none⟩=some (.int .i64 h)
 q:QOn W
set_option maxRecDepth 100000 in
set_option maxHeartbeats 1000000 in
theorem kac {b o:Nat} {w h k:Int} (hk:Go.Vm.X.In.sheets_Count Go.Vm.fuel (w,h)=some k) (hk0:0<=k) (hk1:k<=100000) (hok:∀i,i<3*k.toNat->(Ap w h i).isSome) (w0:World):
  Xe Tryz.prog 160 #[.pointer (some ⟨b,o,none⟩)] ((tH w h (3*k.toNat)).map Hm) (λW=>UnRdy b o w h W) w0:=by
 intro l J Jx W hB hJ hJx hY hR h0;have hm:Tryz.prog.follows .mixedOrders=true:=by kernel_rfl
 refine callsIn_of_wp Tryz.func160 rfl trivial ?_ rfl;simp only[Tryz.ntmps160,Tm,dG,iT,Nat.reduceAdd,Nat.reduceSub,Array.replicate_succ,Array.replicate_zero,List.push_toArray,List.append_toArray,dZ,eW];have r0:=hR 0 W h0;have r1:=r0.w;have r2:=r0.h
 gi_wp2
 refine⟨trivial,(Dg (jij hk r0.q)).mono ?_⟩;rintro e W1 ⟨rfl,hB1⟩;have j1:=hJ _ _ _ h0 hB1
 gi_wp2
 gi_loopw [9] (λvi wr=>∃i:Nat,vi=.int .i64 i/\i<=k.toNat/\J ((List.range (3*i)).filter (mK w h)).length wr)
  (λvi wr=>k.toNat-(vD vi).toNat)
 case atStart=>exact⟨0,rfl,by omega,j1⟩
 case round=>
  obtain⟨i,rfl,hi,hJi⟩:=hrel;by_cases hlt:i<k.toNat
  ·have hd:decide ((i:Int)<k)=true:=cK (by omega)
   gi_wp2
   gi_loopw [12] (λvi wr=>∃e:Nat,vi=.int .u8 e/\e<=3/\J ((List.range (3*i+e)).filter (mK w h)).length wr)
    (λvi wr=>3-(vD vi).toNat)
   case atStart=>exact⟨0,rfl,by omega,hJi⟩
   case round=>
    obtain⟨e,rfl,he,hJe⟩:=hrel;by_cases hlt2:e<3
    ·have rr:=hR _ _ hJe;have r3:=rr.w;have r4:=rr.h
     gi_wp2
     obtain⟨⟨n,er⟩,hv⟩:=lN.1 (hok (3*i+e) (by omega));have e1:(3*i+e) / 3=i:=by omega
     have e2:(3*i+e)%3=e:=by omega
     have hP:mK w h (3*i+e)=(decide (er=0)&&decide ((i:Int)<n)):=by unfold mK;rw[hv,e1]
     have hv':=hv;unfold Ap at hv';rw[e1,e2] at hv';refine⟨trivial,(Dg (jmp hv' rr.q)).mono ?_⟩;rintro en W2 ⟨rfl,hB2⟩;have hJ2:=hJ _ _ _ hJe hB2;have hno:∀ {W':World},mK w h (3*i+e)=false->J ((List.range (3*i+e)).filter (mK w h)).length W'->J ((List.range (3*i+ (e+1))).filter (mK w h)).length W':=λhp h=>by
      rw[show 3*i+ (e+1)=(3*i+e)+1 by omega,qgx,qf8,Bk,aD (by rw[hp];simp),List.filter_nil,jQ];exact h
     have hwr:IntKind.u8.wrap ((e:Int)+1)=(e:Int)+1:=_root_.Go.Vm.W.wrap_in (k:=.u8) (by simp only[_root_.Go.Vm.W.inR];omega);by_cases he0:er=0
     ·subst he0;by_cases hn:(i:Int)<n
      ·have hp:mK w h (3*i+e)=true:=by rw[hP];simp[hn]
       obtain⟨fn,tmps,assign,body,hy,hR1⟩:=hY _ (Hm (3*i+e)) W2 (j96 hp (by omega)) hJ2;unfold Hm at hy;rw[e1,e2] at hy
       gi_wp2
       refine RoundIn.mono hR1 ?_;rintro en W3 (⟨rfl,hJ3⟩ | ⟨rfl,hJ3⟩)
       ·gi_wp2
        go_roundw
        case rel=>
         refine⟨e+1,by simp,by omega,?_⟩;rw[show 3*i+ (e+1)=(3*i+e)+1 by omega,qgx,qf8,Bk,aK hp];simpa using hJ3
        case measure=>simp[vD];omega
       ·gi_wp2
        refine bodyPost_ret (results_none rfl _ _ _) rfl ?_;exact⟨⟨_,rfl⟩,.inr hJ3⟩
      ·have hp:mK w h (3*i+e)=false:=by rw[hP];simp[hn]
       gi_wp2
       refine⟨λ_ h=>(by cases h),?_⟩
       gi_wp2
       go_roundw
       case rel=>exact⟨e+1,by simp,by omega,hno hp hJ2⟩
       case measure=>simp[vD];omega
     ·have he1:(er==0)=false:=by simpa using he0
      have hp:mK w h (3*i+e)=false:=by rw[hP];simp[he0]
      gi_wp2
      refine⟨λ_ h=>(by cases h),?_⟩
      gi_wp2
      go_roundw
      case rel=>exact⟨e+1,by simp,by omega,hno hp hJ2⟩
      case measure=>simp[vD];omega
    ·obtain rfl:e=3:=by omega
     have hwi:IntKind.i64.wrap ((i:Int)+1)=(i:Int)+1:=_root_.Go.Vm.W.wrap_in (k:=.i64) (by simp only[_root_.Go.Vm.W.inR];omega)
     gi_wp2
     go_roundw
     case rel=>exact⟨i+1,by simp,by omega,hJe⟩
     case measure=>simp[vD];omega
  ·obtain rfl:i=k.toNat:=by omega
   have hk2:((k.toNat:Nat):Int)=k:=by omega
   gi_wp2
   go_end0
   exact⟨⟨_,rfl⟩,.inl (by rw[dM];exact hJi)⟩
end Un
end Go.Proofs
namespace Go.Vm
namespace X
open W Go.Proofs Go.Proofs.Un
def pC:List AV->List AV->Bool
 | [],[]=>true
 | .int k x::a,.int j y::b=>decide (k=j)&&decide (x=y)&&pC a b
 | _,_=>false
def Zt:∀ {a b:List AV},pC a b=true->a=b
 | [],[],_=>rfl
 | [],_::_,h=>by simp[pC] at h
 | x::a,[],h=>by cases x<;>simp[pC] at h
 | x::a,y::b,h=>by
   cases x<;>cases y<;>simp only[pC,aN,aH,fX] at h
   rw[h.1.1,h.1.2,Zt h.2]
def qL:List AV:=(In.es.head?.map (·.2)).getD []
def qN:Nat:=68
def uB (H:Tr Blk) (b o n:Nat):Option (List AV):=match H.get b with
 | some (.cells c m)=>bif(o+n).ble m then take c o n else none
 | _=>none
def jcw {H:Tr Blk} {b:Nat} {m:List AV} {n:Nat} (h:HB.At H b (.cells m)) (hn:m.length=n):uB H b 0 n=some m:=by
 obtain⟨c,h1,h2⟩:=h;have e:(0+n).ble m.length=true:=by rw[aP];simp[hn]
 simp only[uB,h1,e,aB];rw[W.take_at (H:=H) (b:=b) h2 n 0 (by omega),fZ,<-hn,mC]
def Sn (w h k:Int):Bool:=decide (0<=k)&&decide (k<=100000)&&(List.range (3*k.toNat)).all λi=>(Ap w h i).isSome
def wI:zB:=λfree H=>match free with
 | [.ptr b o]=>match uB H b o 2,uB H 1 0 qN with
   | some [.int .i64 w,.int .i64 h],some q=>bif pC q qL then(match In.sheets_Count fuel (w,h) with
     | some k=>bif Sn w h k then some ((tH w h (3*k.toNat)).map (fun(i:Nat)=>[.agg [.int .i64 ((i / 3:Nat):Int),.int .u8 ((i%3:Nat):Int)]]),[.int .i64 w,.int .i64 h]) else none
     | none=>none) else none
   | _,_=>none
 | _=>none
def Vo:Ty:=.prod (.int .i64) (.int .i64)
def jd5:Ty:=.prod (.int .i64) (.int .u8)
def Hl (x:rN [Vo]):Option (List (Int×Int)):=match In.sheets_Count fuel (x.1.1,x.1.2) with
 | some k=>bif Sn x.1.1 x.1.2 k then some ((tH x.1.1 x.1.2 (3*k.toNat)).map fun(i:Nat)=>(((i / 3:Nat):Int),((i%3:Nat):Int))) else none
 | none=>none
def Ox {F:aQ}:∀(t:Ty),t.flatK=true->∀(x:t.den) (l:List AV),aX F t x l->l=qH t x
 | .int k,_,x,l,h=>h
 | .bool,_,x,l,h=>h
 | .str,_,x,l,h=>h
 | .unit,_,x,l,h=>h
 | .prod a b,hf,x,l,⟨l1,l2,e,h1,h2⟩=>by
   simp only[Ty.flatK,aN] at hf;rw[e,Ox a hf.1 _ _ h1,Ox b hf.2 _ _ h2];rfl
 | .arr n t,hf,x,l,⟨_,h⟩=>by
   simp only[Ty.flatK] at hf;have key:∀(L:List t.den) (l:List AV),bO (aX F t) L l->l=L.flatMap (qH t):=by
    intro L;induction L with
    | nil=>intro l h;exact h
    | cons x L ih=>
      rintro l ⟨l1,l2,rfl,h1,h2⟩;rw[Ox t hf _ _ h1,ih _ h2];rfl
   exact key _ _ h
def jfx {F:aQ} {t:Ty} (hf:t.flatK=true):∀(L:List t.den) (l:List AV),bO (aX F t) L l->l=L.flatMap (qH t)
 | [],l,h=>h
 | x::L,l,⟨l1,l2,e,h1,h2⟩=>by rw[e,Ox t hf _ _ h1,jfx hf _ _ h2];rfl
def je3 (G:bE):Bool:=match cL G (gB+1) with
 | some (.fix t n L)=>t.flatK&&pC (L.flatMap (qH t)) qL
 | _=>false
def Sw:qL.length=qN:=by kernel_rfl
def j98 (G:bE) (F:aQ) (H:Tr Blk) (cap:rN [Vo]) (free:List AV) (l:List (Int×Int)) (hn:je3 G=true) (hg:Ol G H) (h:yZ F H [Vo] cap free) (hF:∀x∈F,x.2.At H x.1) (hr:Hl cap=some l):
  wI free H=some (l.map (λy=>[encV jd5 y]),[.int .i64 cap.1.1,.int .i64 cap.1.2]):=by
 obtain⟨b1,m1,_,rfl,a1,r1,hnil⟩:=h;simp only[yZ] at hnil;subst hnil;obtain⟨⟨w,h⟩,u⟩:=cap;obtain⟨_,_,rfl,r1,r2⟩:=r1;simp only[aX] at r1 r2;subst r1;subst r2;unfold je3 at hn;split at hn<;>try (cases hn;done)
 rename_i t n L hq;simp only[aN] at hn;obtain⟨m,hm1,_,hm2⟩:=hg 1 t n L hq;have hm3:=jfx hn.1 _ _ hm2;have hm4:=Zt hn.2;rw[hm4] at hm3;subst hm3;unfold Hl at hr;split at hr<;>try (cases hr;done)
 rename_i k hk;obtain⟨hc,hr⟩:=aR hr;cases hr;simp only at hk hc;have e9:pC qL qL=true:=by kernel_rfl
 simp only[wI,jcw a1 (n:=2) rfl,jcw hm1 (n:=qN) Sw,dZ,eW,e9,aB];rw[hk];simp only[hc,aB];show some _=some (List.map (λy:Int×Int=>[encV jd5 y]) (List.map _ (tH w h (3*k.toNat))),_);rw[lO];rfl
def jzt:ITE:=⟨160,[Vo],jd5,Hl,wI,λcap=>[.int .i64 cap.1.1,.int .i64 cap.1.2],je3,false,j98,[(160,wI)],rfl⟩
def j5k {ρ:RM} {H:Tr Blk} {w:World} {b o n:Nat} {l:List AV} {lc:Loc} (h:uB H b o n=some l) (hr:HR ρ H w) (hb:ρ b=some lc):
  ∃vs:List Value,VRs ρ l vs/\∀j v,vs[j]?=some v->w.cell? ⟨lc.blk,lc.base+o+j,none⟩=some v:=by
 unfold uB at h;split at h<;>try (cases h;done)
 rename_i c m hc;obtain⟨hm,h2⟩:=aR h;rw[aP,aH] at hm;obtain⟨vs,h3,_,h4,_⟩:=zW (P:=Tryz.prog) hr hc hb hm h2;refine⟨vs,h3,λj v hv=>?_⟩;have:=h4 j v hv;rw[nZ] at this;exact this
def jzp {ρ ρ':RM} {a:AV} {v:Value} (hi:(match a with | .int _ _=>true | _=>false)=true) (h:VR ρ a v):VR ρ' a v:=by
 cases a<;>first | (cases hi;done) | exact h
def j5e:(qL.all λa=>match a with | .int _ _=>true | _=>false)=true:=by kernel_rfl
def j99 {ρ:RM} {H:Tr Blk} {w:World} {gl:List Nat} {q:List AV} (h:uB H 1 0 qN=some q) (hq:pC q qL=true) (hr:HR ρ H w) (hgl:GLok gl ρ) (h2:gl.contains 1=true):In.QOn w:=by
 obtain rfl:=Zt hq;obtain⟨lc,hb,hblk,hbase⟩:=hgl 1 h2;refine⟨λb=>if b=1 then some lc else none,⟨λb k l hk hl=>?_,λb b' l l' h1 h2' e1 e2 _=>?_⟩,λg hg=>?_,λb hb=>?_⟩
 ·obtain rfl:b=1:=by
   by_cases e:b=1
   ·exact e
   ·simp only[e,cO] at hl;cases hl
  simp only[bR] at hl;cases hl;obtain⟨L,hL,rfl⟩:=Kq hk;have hes:In.es=[(1,qL)]:=by kernel_rfl
  rw[hes] at hL;simp only[bL,aM,true_and,gW,gU] at hL;subst hL;unfold uB at h;split at h<;>try (cases h;done)
  rename_i c m hc;obtain⟨hm,ht⟩:=aR h;rw[aP,aH] at hm;obtain⟨cs,elem,fr,g1,g2,g3,g4,g5⟩:=hr.blk 1 _ lc hc hb;obtain⟨t1,t2⟩:=Cm _ c 0 qL ht;refine⟨cs,elem,fr,g1,by rw[Sw];omega,g3,g4,λi hi=>?_⟩;rw[Sw] at hi;obtain⟨a,v,k1,k2,k3⟩:=g5 i (by omega);refine⟨a,v,?_,k2,?_⟩
  ·rw[mP,aK (by rw[Sw];omega),<-k1,nN,<-t2 i (by omega),iC]
  ·have e:qL[i]?=some a:=by rw[<-k1];have:=t2 i (by omega);simpa using this.symm
   exact jzp (bS.1 j5e a (rC e)) k3
 ·have f1:b=1:=by
   by_cases e:b=1
   ·exact e
   ·simp only[e,cO] at e1;cases e1
  have f2:b'=1:=by
   by_cases e:b'=1
   ·exact e
   ·simp only[e,cO] at e2;cases e2
  exact .inl (f1.trans f2.symm)
 ·have:g=1:=by simpa[In.gl] using hg
  subst this;exact⟨lc,by simp,hblk,hbase⟩
 ·have:b≠1:=λe=>by subst e;revert hb;decide
  simp only[this,cO]
def jra {ρ:RM} {H:Tr Blk} {w:World} {gl:List Nat} {b o:Nat} {l1:Loc} {yk:List (List AV)×List AV} (h:wI [.ptr b o] H=some yk) (hr:HR ρ H w) (hgl:GLok gl ρ) (h2:gl.contains 1=true) (h1:ρ b=some l1):
  ∃W0 H0 k,yk=((tH W0 H0 (3*k.toNat)).map (fun(i:Nat)=>[.agg [.int .i64 ((i / 3:Nat):Int),.int .u8 ((i%3:Nat):Int)]]),[.int .i64 W0,.int .i64 H0])/\In.sheets_Count fuel (W0,H0)=some k/\0<=k/\k<=100000/\(∀i,i<3*k.toNat->(Ap W0 H0 i).isSome)/\UnRdy l1.blk (l1.base+o) W0 H0 w:=by
 simp only[wI] at h;split at h<;>try (cases h;done)
 rename_i W0 H0 q e1 e2;obtain⟨hq,h⟩:=aR h;split at h<;>try (cases h;done)
 rename_i k hk;obtain⟨hc,h⟩:=aR h;cases h;simp only[Sn,aN,aH,bS,jI] at hc;obtain⟨vs1,⟨w0,_,rfl,g0,w1,_,rfl,g1,g2⟩,k1⟩:=j5k e1 hr h1;simp only[VRs] at g2;subst g2;simp only[VR] at g0 g1;subst g0;subst g1;exact⟨W0,H0,k,rfl,hk,hc.1.1,hc.1.2,hc.2,⟨k1 0 _ rfl,k1 1 _ rfl,j99 e2 hq hr hgl h2⟩⟩
def j97 {gl:List Nat} (h2:gl.contains 1=true):jfm Tryz.prog gl 160 wI:=by
 intro free H yk h ρ w lb hr hgl hv;have hfree:∃b o,free=[.ptr b o]:=by
  unfold wI at h;split at h<;>try (cases h;done)
  exact⟨_,_,rfl⟩
 obtain⟨b,o,rfl⟩:=hfree;obtain⟨v1,_,hl,⟨l1,h1,rfl⟩,he⟩:=hv;simp only[VRs] at he;subst he;obtain rfl:lb=#[.pointer (some ⟨l1.blk,l1.base+o,none⟩)]:=gF.1 hl;obtain⟨W0,H0,k,rfl,hk,hk0,hk1,hok,hrd⟩:=jra h hr hgl h2 h1;refine⟨⟨Tryz.f160,Tryz.func160,by kernel_rfl,by kernel_rfl⟩,(tH W0 H0 (3*k.toNat)).map Hm,by simp,λi y z hy hz=>?_,_,λρ' H' w' hle h' hr'=>?_,kac hk hk0 hk1 hok w⟩
 ·simp only[jH,cX] at hy hz;obtain⟨j,hj,rfl⟩:=hy;obtain⟨j',hj',rfl⟩:=hz;rw[hj] at hj';cases hj';exact⟨_,[],rfl,⟨_,rfl,_,_,rfl,rfl,_,_,rfl,rfl,rfl⟩,rfl⟩
 ·obtain⟨W1,H1,k',e1,_,_,_,_,g⟩:=jra h' hr' (hgl.mono hle) h2 (hle _ _ h1);simp only[aM,kX,AV.int.injEq,true_and,mD] at e1;obtain⟨_,rfl,rfl⟩:=e1;exact g
end X
end Go.Vm
namespace Go.Proofs
open Go.RowKit Go.Shelf Go.Vm
attribute [local go_sem] Oper.semAt_some
namespace Ln
open Go.Vm.X
def eF (s:ByteArray):List Nat:=s.data.toList.map UInt8.toNat
def jha (s:ByteArray):(eF s).length=s.size:=by unfold eF;rw[dM,gS];rfl
def BxS (b o:Nat) (s:ByteArray) (w:World):Prop:=∃cs T fr,w.heap[b]?=some (.cells cs T fr)/\cs[o]?=some (.string s)/\¬(fr.1<=o/\o<fr.2)
def BxS.cell {b o:Nat} {s:ByteArray} {w:World} (h:BxS b o s w):w.cell? ⟨b,o,none⟩=some (.string s):=by
 obtain⟨cs,T,fr,h1,h2,_⟩:=h;simp only[World.cell?,h1,tX,fX,cO,h2]
def BxS.frz {b o:Nat} {s:ByteArray} {w:World} (h:BxS b o s w):w.frozen? ⟨b,o,none⟩=false:=by
 obtain⟨cs,T,fr,h1,_,h3⟩:=h;obtain⟨lo,hi⟩:=fr;simp only[World.frozen?,h1];simp only[vM,eH];simp only at h3;omega
def BxS.set {b o:Nat} {s:ByteArray} {w:World} (h:BxS b o s w) (t:ByteArray) {bx:Nat->Prop} (hb:bx b):
  BxS b o t (w.setCell ⟨b,o,none⟩ (.string t))/\Vm.Own bx w (w.setCell ⟨b,o,none⟩ (.string t)):=by
 obtain⟨cs,T,fr,h1,h2,h3⟩:=h;have ho:o<cs.size:=(eJ.1 h2).1;refine⟨⟨cs.setIfInBounds o (.string t),T,fr,?_,?_,h3⟩,rfl,rfl,rfl,by simp[World.setCell],λk u hk hn=>?_⟩
 ·simp only[World.setCell,sQ,bR,h1,eX,tX,fX,cO]
 ·simp[vN,ho]
 ·have hne:b≠k:=λe=>hn (e▸hb)
  simp only[World.setCell,sQ,aD hne,hk]
def BxS.lt {b o:Nat} {s:ByteArray} {w:World} (h:BxS b o s w):b<w.heap.size:=by
 obtain⟨cs,T,fr,h1,_⟩:=h;exact(eJ.1 h1).1
def BxS.off {b o k:Nat} {s:ByteArray} {w w':World} {S S':Nat->Prop} (h:BxS b o s w) (g:Off S k w S' w') (h1:¬S b) (h2:b≠k):BxS b o s w':=by
 obtain⟨cs,T,fr,e1,e2,e3⟩:=h;exact⟨cs,T,fr,g.keep b _ e1 h1 h2 rfl,e2,e3⟩
def szAt (w:World) (b o:Nat):Nat:=match w.cell? ⟨b,o,none⟩ with
 | some (.string c)=>c.size
 | _=>0
def BxS.szAt {b o:Nat} {s:ByteArray} {w:World} (h:BxS b o s w):szAt w b o=s.size:=by unfold Ln.szAt;rw[h.cell]
def jvo (c:ByteArray) {k:Nat} (hk:k<c.size):eF c=eF (c.extract 0 (k+1))++eF (c.extract (k+1) c.size):=by
 have hk':k<c.data.size:=hk;unfold eF;rw[<-fY]
 congr 1
 simp only[ByteArray.data_extract,Sy,qe2];rw[fZ,nN];conv=>lhs;rw[<-Bi (k+1) c.data.toList]
 congr 1
 rw[iU];rw[tZ,gS];exact aU _
def jvn (c:ByteArray) {k:Nat} (hk:k<c.size) (h3:c.data.toList=c.data.toList.take k++(10:UInt8)::c.data.toList.drop (k+1)) (h4:(10:UInt8)∉c.data.toList.take k):∃p,eF (c.extract 0 (k+1))=p++[10]/\10∉p:=by
 have hk':k<c.data.size:=hk;refine⟨(c.data.toList.take k).map UInt8.toNat,?_,λhm=>?_⟩
 ·have e:c.data.toList.take (k+1)=c.data.toList.take k++[10]:=by
   have hl:(c.data.toList.take k).length=k:=by rw[yG,gS];omega
   conv=>lhs;rw[h3]
   rw[Tp,hl,iU (by omega),show k+1-k=1 by omega];rfl
  unfold eF;simp only[ByteArray.data_extract,Sy,qe2];rw[fZ,nN,e,fY];rfl
 ·obtain⟨x,hx,e⟩:=bU.1 hm;have:x=10:=Bl.1 e;exact h4 (this▸hx)
set_option maxRecDepth 100000 in
set_option maxHeartbeats 1000000 in
theorem j0p {b o nb:Nat} {s:ByteArray} {bx:Nat->Prop} (w0:World) (hs:s.size<=1000000000) (hbox:BxS b o s w0) (hbx:eF s≠[]->bx b):
  Xf Tryz.prog 79 #[.pointer (some ⟨b,o,none⟩)] bx ((eT (eF s)).map λl=>Itm.val nb (.str l)) (λ_ _=>True) w0:=by
 intro l J Jx W hB hJ hJx hS hY hR S0 h0;have hm:Tryz.prog.follows .mixedOrders=true:=by kernel_rfl
 refine callsIn_of_wp Tryz.func79 rfl trivial ?_ rfl;simp only[Tryz.ntmps79,Tm,dG,iT,Nat.reduceAdd,Nat.reduceSub,Array.replicate_succ,Array.replicate_zero,List.push_toArray,List.append_toArray,dZ,eW];have hb0:BxS b o s W:=by
  obtain⟨cs,T,fr,h1,h2,h3⟩:=hbox;exact⟨cs,T,fr,(hB.block b (eJ.1 h1).1).trans h1,h2,h3⟩
 gi_wp2
 gi_loopw [] (λwr=>∃(i:Nat) (S:Nat->Prop) (c:ByteArray),J i S wr/\BxS b o c wr/\eT (eF c)=(eT (eF s)).drop i/\c.size<=1000000000/\w0.heap.size<=wr.heap.size/\i<=(eT (eF s)).length)
  (λwr=>szAt wr b o)
 case atStart=>exact⟨0,S0,s,h0,hb0,rfl,hs,hB.size,fM _⟩
 case round=>
  obtain⟨i,S,c,hJi,hbc,hln,hcs,hsz,hil⟩:=hrel;have hcell:=hbc.cell;by_cases hc0:c.size=0
  ·have hd:decide ((0:Int)< (c.size:Int))=false:=pS (by omega)
   gi_wp2
   go_end0
   refine⟨⟨_,rfl⟩,.inl ⟨S,?_⟩⟩;have e1:eF c=[]:=oK (by rw[jha];exact hc0);rw[e1] at hln;have e2:(eT (eF s)).length<=i:=qfq.1 hln.symm;rw[dM,show(eT (eF s)).length=i by omega];exact hJi
  ·have hd:decide ((0:Int)< (c.size:Int))=true:=cK (by omega);have hcn:eF c≠[]:=λe=>hc0 (by have:=congrArg List.length e;rw[jha] at this;exact this)
   have hln1:eT (eF c)≠[]:=λe=>hcn (Ki.1 e)
   have hbb:bx b:=hbx λe=>hln1 (by rw[hln,e];simp[eT])
   have hltl:i< (eT (eF s)).length:=by
    rcases Nat.lt_or_ge i (eT (eF s)).length with h | h
    ·exact h
    ·exact absurd (hln.trans (qfq.2 h)) hln1
   gi_wp2
   refine⟨trivial,(Dg (Tryz.strings_IndexByte c 10 wr)).mono ?_⟩;rintro e W1 ⟨rfl,rfl⟩;rcases jkn 10 c.data.toList with⟨h1,h2⟩ | ⟨k,h1,h2,h3,h4⟩
   ·rw[show Lib.indexByte c.data.toList (Nat.toUInt8 (Int.toNat 10))= -1 from h1];have hten:10∉eF c:=λhm=>by
     obtain⟨x,hx,e⟩:=bU.1 hm;have:x=10:=Bl.1 e;exact h2 (this▸hx)
    have hln2:=jbm hcn hten;rw[hln2] at hln;have hrow:(eT (eF s))[i]?=some (eF c):=by
     have:=congrArg (λl=>l[0]?) hln;simpa[sM] using this.symm
    have hrest:(eT (eF s)).drop (i+1)=[]:=by
     have:=congrArg (λl=>l.drop 1) hln;simpa[rF] using this.symm
    have hset:=hbc.set ⟨#[]⟩ hbb;have hfz:=hbc.frz;have hJ2:=hJ _ _ _ _ hJi hset.2;have hsz2:=hset.2.size;obtain⟨fn,tmps,assign,body,hy,hR1⟩:=hY i S (.val nb (.str (eF c))) #[.string c] _ _ (by rw[jH,hrow];rfl) hJ2 ⟨rfl,_,rfl,λρ=>⟨c,rfl,rfl⟩⟩ (by omega) (λh=>Nat.lt_irrefl _ (hS _ _ _ _ hJ2 h).1)
    gi_wp2
    refine RoundIn.mono hR1 ?_;rintro en W3 (⟨rfl,S',hJ3,hoff⟩ | ⟨rfl,hJ3⟩)
    ·have hb3:BxS b o ⟨#[]⟩ W3:=hset.1.off hoff (λh=>(hS _ _ _ _ hJ2 h).2 hbb) (Nat.ne_of_lt hset.1.lt);have hsz3:=hoff.size
     gi_wp2
     go_roundw
     case rel=>exact⟨i+1,S',⟨#[]⟩,hJ3,hb3,hrest.symm,by decide,by omega,by omega⟩
     case measure=>
      rw[hb3.szAt,hbc.szAt];show 0<c.size;omega
    ·gi_wp2
     refine bodyPost_ret (results_none rfl _ _ _) rfl ?_;exact⟨⟨_,rfl⟩,.inr hJ3⟩
   ·rw[show Lib.indexByte c.data.toList (Nat.toUInt8 (Int.toNat 10))=(k:Int) from h1];have k0:(0:Int)<=(k:Int):=by omega
    have hkc:k<c.size:=by
     rw[gS] at h2;exact h2
    have k1:(k:Int)+1<=(c.size:Int):=by omega
    have k2:(0:Int)<=(k:Int)+1:=by omega
    have k3:wrap64 ((k:Int)+1)=(k:Int)+1:=by unfold wrap64;omega
    gi_wp2
    refine j6u (m:=9) (d:=1) rfl hm (by kernel_rfl) rfl (by kernel_rfl) rfl (R:=λa' w'=>(∃(v12 v13 v14 v15 v16 v17 v18:Value),a'={ tmps:=#[Value.func (Fn.yield l) #[] #[],Value.pointer (some ⟨b,o,none⟩),undef,Value.string (c.extract 0 (k+1)),Value.int .i64 k,Value.string c,Value.int .i64 c.size,Value.bool true,Value.string c,Value.int .i64 k,Value.int .i64 k,Value.bool true,v12,v13,v14,v15,v16,v17,v18,Value.string (c.extract (k+1) c.size),u20,u21,u22,u23,u24],defers:=[] })/\∃n,w'=W1.drewN n) ?_ ?_
    ·simp only[List.extract_toArray,qe2,fZ,nN,Fs,Fw];repeat (gi_big_quiet_step (fail))
     refine wpQuietIn_nil ?_;exact λw' hw'=>⟨⟨_,_,_,_,_,_,_,rfl⟩,hw'⟩
    ·rintro _ _ ⟨⟨v12,v13,v14,v15,v16,v17,v18,rfl⟩,q,rfl⟩ f;have hbq:BxS b o c (W1.drewN q):=hbc;have hJq:J i S (W1.drewN q):=hJ _ _ _ _ hJi ⟨rfl,rfl,rfl,aU _,λ_ _ h _=>h⟩;have hset:=hbq.set (c.extract (k+1) c.size) hbb;have hfz:=hbq.frz;have hcq:=hbq.cell;have hJ2:=hJ _ _ _ _ hJq hset.2;have hsz2:W1.heap.size<=_:=hset.2.size;have e1:eF c=eF (c.extract 0 (k+1))++eF (c.extract (k+1) c.size):=jvo c hkc;obtain⟨p,hp,hp10⟩:∃p,eF (c.extract 0 (k+1))=p++[10]/\10∉p:=jvn c hkc h3 h4;have hln2:eT (eF c)=eF (c.extract 0 (k+1))::eT (eF (c.extract (k+1) c.size)):=by
      rw[e1,hp,cD];exact jbl hp10
     rw[hln2] at hln;have hrow:(eT (eF s))[i]?=some (eF (c.extract 0 (k+1))):=by
      have:=congrArg (λl=>l[0]?) hln;simpa[sM] using this.symm
     have hrest:(eT (eF s)).drop (i+1)=eT (eF (c.extract (k+1) c.size)):=by
      have:=congrArg (λl=>l.drop 1) hln;simpa[rF] using this.symm
     have hrs:(c.extract (k+1) c.size).size=c.size-(k+1):=by simp
     obtain⟨fn,tmps,assign,body,hy,hR1⟩:=hY i S (.val nb (.str (eF (c.extract 0 (k+1))))) #[.string (c.extract 0 (k+1))] _ _ (by rw[jH,hrow];rfl) hJ2 ⟨rfl,_,rfl,λρ=>⟨_,rfl,rfl⟩⟩ (by omega) (λh=>Nat.lt_irrefl _ (hS _ _ _ _ hJ2 h).1);refine wpAnyIn_ready (rs:=[9]) (by kernel_rfl) (by simp) (AllReadyIn.cons rfl (λK hK=>?_) AllReadyIn.nil)
     go_simp
     refine hK _ _ ?_;refine wpAnyIn_done (by kernel_rfl) ?_ _
     gi_wp2
     refine RoundIn.mono hR1 ?_;rintro en W3 (⟨rfl,S',hJ3,hoff⟩ | ⟨rfl,hJ3⟩)
     ·have hb3:BxS b o (c.extract (k+1) c.size) W3:=hset.1.off hoff (λh=>(hS _ _ _ _ hJ2 h).2 hbb) (Nat.ne_of_lt hset.1.lt);have hsz3:=hoff.size
      gi_wp2
      go_roundw
      case rel=>exact⟨i+1,S',_,hJ3,hb3,hrest.symm,by omega,by omega,by omega⟩
      case measure=>
       rw[hb3.szAt,hbc.szAt,hrs];omega
     ·gi_wp2
      refine bodyPost_ret (results_none rfl _ _ _) rfl ?_;exact⟨⟨_,rfl⟩,.inr hJ3⟩
end Ln
end Go.Proofs
namespace Go.Vm
namespace X
open W Go.Proofs Go.Proofs.Ln
def Ao:zB:=λfree H=>match free with
 | [.ptr b o]=>match uB H b o 1 with
   | some [.str s]=>bif s.length.ble 1000000000 then some ((eT s).map λl=>zT b (.str l),[.str s]) else none
   | _=>none
 | _=>none
def Kj (x:rN [.str]):Option (List (List Nat)):=bif x.1.length.ble 1000000000 then some (eT x.1) else none
def j0v (G:bE) (F:aQ) (H:Tr Blk) (cap:rN [.str]) (free:List AV) (l:List (List Nat)) (hn:(λ_:bE=>true) G=true) (hg:Ol G H) (h:yZ F H [.str] cap free) (hF:∀x∈F,x.2.At H x.1) (hr:Kj cap=some l):
  Ao free H=some (l.map (λy=>fP true free .str y),[.str cap.1]):=by
 obtain⟨b1,m1,_,rfl,a1,r1,hnil⟩:=h;simp only[yZ] at hnil;subst hnil;obtain⟨s,u⟩:=cap;simp only[aX] at r1;subst r1;unfold Kj at hr;obtain⟨hc,hr⟩:=aR hr;cases hr;simp only at hc;simp only[Ao,jcw a1 (n:=1) rfl,hc,aB];rfl
def j0u {gl:List Nat}:jfn Tryz.prog gl 79 Ao:=by
 intro free H yk h ρ w lb hr hgl hv;have hfree:∃b o,free=[.ptr b o]:=by
  unfold Ao at h;split at h<;>try (cases h;done)
  exact⟨_,_,rfl⟩
 obtain⟨b,o,rfl⟩:=hfree;obtain⟨v1,_,hl,⟨l1,h1,rfl⟩,he⟩:=hv;simp only[VRs] at he;subst he;obtain rfl:lb=#[.pointer (some ⟨l1.blk,l1.base+o,none⟩)]:=gF.1 hl;simp only[Ao] at h;split at h<;>try (cases h;done)
 rename_i s hrd;obtain⟨hc,h⟩:=aR h;rw[aP,aH] at hc;cases h;unfold uB at hrd;split at hrd<;>try (cases hrd;done)
 rename_i c m hb;obtain⟨hm,ht⟩:=aR hrd;rw[aP,aH] at hm;obtain⟨t1,t2⟩:=Cm _ _ _ _ ht;obtain⟨cs,el,fr,g1,g2,g3,g4,g5⟩:=hr.blk b _ l1 hb h1;obtain⟨a,v,k1,k2,k3⟩:=g5 o (by omega);have e1:=t2 0 (by omega);rw[iV,k1] at e1;simp only[pR,aG] at e1;subst e1;obtain⟨bs,rfl,hbs⟩:=k3;have hsz:bs.size=s.length:=by rw[<-hbs,dM,gS];rfl
 have hbx:BxS l1.blk (l1.base+o) bs w:=⟨cs,el,fr,g1,k2,g4 _ (by omega) λ_=>by omega⟩
 refine⟨⟨Tryz.f79,Tryz.func79,by kernel_rfl,by kernel_rfl⟩,(eT s).map λl=>Itm.val b (.str l),?_,λ_ _=>True,λ_ _ _ _ _ _=>trivial,?_⟩
 ·simp only[lO];rfl
 ·have key:=j0p (bx:=zV ρ ((eT s).map λl=>zT b (.str l))) (nb:=b) w (by omega) hbx λhne=>by
   have e2:eF bs=s:=hbs;rw[e2] at hne;cases hq:eT s with
   | nil=>exact absurd (Ki.1 hq) hne
   | cons x r=>exact⟨b,0,.str x,_,0,0,0,none,l1,rfl,h1,rfl⟩
  have e2:eF bs=s:=hbs;rw[e2] at key;exact key
abbrev itsL:nV:=[(160,wI),(79,Ao)]
def jzr:ITE:=⟨79,[.str],.str,Kj,Ao,λcap=>[.str cap.1],λ_=>true,true,j0v,itsL,rfl⟩
def jzs:ITE:={ jzt with ls:=itsL,inl:=rfl }
def itsL_ok {gl:List Nat} (h2:gl.contains 1=true:=by rfl):wL Tryz.prog gl itsL:=λf it h=>by
 simp only[itsL,Ef] at h;cases h1:Nat.beq 160 f with
 | true=>
   rw[h1,aB] at h;rw[aL,aH] at h1;cases h;subst h1;exact .inl (j97 h2)
 | false=>
   rw[h1,aF] at h;obtain⟨h3,h4⟩:=aR h;rw[aL,aH] at h3;cases h4;subst h3;exact .inr j0u
end X
end Go.Vm
