/-
  Steps of the extraction's state: a new block, a block written, frozen, taken away.
  Reading and writing of memory, on symbolic values.
  Writing into blocks of one's own, on symbolic values.
  New blocks, and what is frozen, on symbolic values.
  Append, copy, slices of arrays, on symbolic values.
-/
import Derived.Test.YtccefhabickfiaaGreatDoorXG2
set_option linter.unusedSimpArgs false
set_option linter.unusedVariables false
set_option linter.unusedSectionVars false
set_option linter.unnecessarySimpa false
namespace Go.Vm
namespace X
open W
variable {B:Base} {ro:Nat} {e:Env} {c:Cnv} {S:St} {tm:Tr AV} {H:Tr Blk} {nx:Nat} {ν:Nm} {F:cE} {M R:List Ent}
def fresh (e:Env) (S:St):Bool:=Nat.blt S.nc gB&& !(joy S.nc (S.fr++e.ct))&& !(SV.hasL S.nc e.ov)&& !(U8 S.nc (S.mv++e.mc))
def tH (S:St) (sb:SB):St:={ S with mv:=(S.nc,sb)::S.mv,nc:=S.nc+1 }
theorem jtx {n:Nat}:∀ {m m':dT},U8 n (m++m')=(U8 n m||U8 n m')
 | [],m'=>rfl
 | (b,sb)::m,m'=>by simp only[fN,U8,jtx,Bool.or_assoc]
theorem ConX.name (h:ConX B ro e c S tm H nx ν F M R) (hf:fresh e S=true) (x:Nat×AV):ConX B ro e c S tm H nx (ν.upd S.nc x) F M R:=by
 simp only[fresh,aW,kL,jtx,yS] at hf;obtain⟨⟨⟨h1,h2⟩,h3⟩,h4,h5⟩:=hf;have hn:S.nc<gB:=by
  have:S.nc+1<=gB:=by simpa[Nat.blt] using h1
  omega
 exact⟨h.hk,λn v hv=>jnx _ _ (jps h2 hv) (h.fr n v hv),B8 _ _ h3 h.ov,jnl h4 h.mv,h.wr,jnk h5 h.mc,h.fz,h.gl.upd hn⟩
theorem ConX.newc (h:ConX B ro e c S tm H nx ν F M R) (hf:fresh e S=true) {l:List AV} {hdr:AV} {sb:SB} (hb:jW (ν.upd S.nc (nx,hdr)) F S.nc sb [⟨nx,true,.cells l⟩]):
  ConX B ro e c (tH S sb) tm (H.set nx (.cells (put l 0 .e) l.length)) (nx+1) (ν.upd S.nc (nx,hdr)) F (⟨nx,true,.cells l⟩::M) R:=by
 have h':=h.name hf (nx,hdr);exact⟨h.hk.cells l,h'.fr,h'.ov,⟨_,M,rfl,hb,h'.mv⟩,λx hx=>by rcases bJ.1 hx with rfl | hx;rfl;exact h.wr x hx,h'.mc,h.fz,h'.gl⟩
theorem Upd.mid (b:Nat) (x y:HB) (Y:List Ent):∀(A:List Ent),Upd (A++⟨b,true,x⟩::Y) b x y (A++⟨b,true,y⟩::Y)
 | []=>.here
 | a::A=>.there (Upd.mid b x y Y A)
theorem Del.mid (b:Nat) (x:HB) (Y:List Ent):∀(A:List Ent),Del (A++⟨b,true,x⟩::Y) b x (A++Y)
 | []=>.here
 | a::A=>.there (Del.mid b x Y A)
def vO (E:List Ent):cE:=E.map λx=>(x.b,x.c)
theorem j0n {E:List Ent}:∀x∈vO E,Has E x.1 x.2:=by
 intro x hx;obtain⟨y,hy,rfl⟩:=bC.1 hx;exact Has.of_mem (w:=y.w) hy
theorem ConX.own (h:ConX B ro e c S tm H nx ν F M R) {b:Nat} {sb:SB} (hb:gC S.mv b=some sb):
  ∃E,jW ν F b sb E/\(∀x∈E,x.w=true/\rx ro<=x.b/\x.b<nx/\x.c.At H x.b)/\
  (∀blk x y k sb',E=[⟨blk,true,x⟩]->y.At (H.set blk k) blk->jW ν F b sb' [⟨blk,true,y⟩]->∃M',ConX B ro e c { S with mv:=wJ S.mv b sb' } tm (H.set blk k) nx ν F M' R)/\
  (∃M',ConX B ro e c { S with mv:=lL S.mv b } tm H nx ν (vO E++F) M' (E++R))/\
  (∀blk x,E=[⟨blk,true,x⟩]->∃M',ConX B ro e c { S with mv:=lL S.mv b } tm (H.del blk) nx ν F M' R)/\
  (∃M',(E++(M'++(c.Mc++(R++c.O0)))).Perm (M++(c.Mc++(R++c.O0)))/\oE ν F (lL S.mv b) M'/\∀x∈M',x.w=true):=by
 obtain⟨M1,E,M2,e1,g1,g2,g3⟩:=ja8 h.mv hb;have hE:∀x∈E,x∈M:=λx hx=>by rw[e1];simp[hx]
 have hk:=h.hk;rw[e1] at hk;have wr:∀x∈M1++M2,x.w=true:=λx hx=>h.wr x (by rw[e1];rcases bU.1 hx with h1 | h1<;>simp[h1])
 refine⟨E,g1,λx hx=>?_,λblk x y k sb' hEe hy hsb=>?_,?_,λblk x hEe=>?_,M1++M2,?_,g3,wr⟩
 ·have hx':=hE x hx;have:=h.hk.ent x (bU.2 (.inl hx'));exact⟨h.wr x hx',this.2.1 (h.wr x hx'),this.1,this.2.2⟩
 ·subst hEe;refine⟨M1++([⟨blk,true,y⟩]++M2),?_,h.fr,h.ov,g2 sb' _ hsb,λz hz=>?_,h.mc,h.fz,h.gl⟩
  ·have:=hk.upd (O':=M1++⟨blk,true,y⟩::(M2++(c.Mc++(R++c.O0)))) (b:=blk) (c:=x) (c':=y) (by simpa using Upd.mid blk x y _ M1) k hy;simpa using this
  ·simp only[bU,cD] at hz;rcases hz with hz | rfl | hz
   ·exact wr z (by simp[hz])
   ·rfl
   ·exact wr z (by simp[hz])
 ·refine⟨M1++M2,hk.perm ?_,λn v hv=>zP (λy hy=>bU.2 (.inr hy)) _ _ (h.fr n v hv),sD (λy hy=>bU.2 (.inr hy)) _ _ h.ov,jcm (λy hy=>bU.2 (.inr hy)) g3,wr,
   jcl (λy hy=>bU.2 (.inr hy)) h.mc,λx hx=>?_,h.gl⟩
  ·simp only[dX];refine kI M1 ?_;have p1:(M2++(c.Mc++(E++(R++c.O0)))).Perm (M2++(E++(c.Mc++(R++c.O0)))):=by
    refine kI M2 ?_;rw[<-dX,<-dX E];exact qek _ qep
   refine p1.trans ?_;rw[<-dX,<-dX E];exact qek _ qep
  ·rcases bU.1 hx with h1 | h1
   ·exact .inl (by rw[dX];exact Has.append_left (j0n x h1))
   ·rcases h.fz x h1 with h2 | h2
    ·exact .inl (by rw[dX];exact Has.append_right h2)
    ·exact .inr h2
 ·subst hEe;refine⟨M1++M2,?_,h.fr,h.ov,g3,wr,h.mc,h.fz,h.gl⟩;have:=hk.del (O':=M1++(M2++(c.Mc++(R++c.O0)))) (b:=blk) (c:=x) (by simpa using Del.mid blk x _ M1);simpa using this
 ·rw[e1];simp only[dX];rw[<-dX E,<-dX M1];exact qek _ qep
def jat (lm:Nat->Option SB) (t:Ty):SV->Option (List t.den)
 | .fz t' L=>if h:t'=t then some (h▸L) else none
 | .fzn t' L=>if h:t'=t then some (h▸L) else none
 | .fzx t' L=>if h:t'=t then some (h▸L) else none
 | .own b=>match lm b with
   | some (.arr t' L cap)=>if h:t'=t then some (h▸L) else none
   | _=>none
 | .view b o n c z=>match lm b with
   | some (.arr t' L cap)=>bif z.beq t.size then(if h:t'=t then some (((h▸L:List t.den).drop o).take n) else none) else none
   | _=>none
 | .nils=>some []
 | .emp z=>bif z.beq t.size then some [] else none
 | _=>none
def jvc (t:Ty):SV->Option (List t.den)
 | .fzx t' L=>if h:t'=t then some (h▸L) else none
 | .nils=>some []
 | _=>none
def jg2 {α:Type} (f:List SV->Option α) (z:Nat):Nat->List SV->Option (List α)
 | 0,l=>match l with
   | []=>some []
   | _::_=>none
 | n+1,l=>match f (l.take z),jg2 f z n (l.drop z) with
   | some x,some r=>some (x::r)
   | _,_=>none
def rK (lm:Nat->Option SB):(t:Ty)->List SV->Option t.den
 | .int k,l=>match l with
   | [.int k' n]=>bif rV k' k then some n else none
   | _=>none
 | .bool,l=>match l with
   | [s]=>asB s
   | _=>none
 | .str,l=>match l with
   | [.str s]=>some s
   | _=>none
 | .unit,l=>match l with
   | []=>some ()
   | _=>none
 | .prod a b,l=>match rK lm a (l.take a.size),rK lm b (l.drop a.size) with
   | some x,some y=>some (x,y)
   | _,_=>none
 | .arr n t,l=>jg2 (rK lm t) t.size n l
 | .sl t,l=>match l with
   | [s]=>bif t.size.beq 0 then none else jat lm t s
   | _=>none
 | .slx t,l=>match l with
   | [s]=>bif t.size.beq 0 then none else jvc t s
   | _=>none
def jdq (lm:Nat->Option SB) (t:Ty) (s:SV):Option t.den:=match t with
 | .arr n t=>match s with
   | .ag n' t' L=>bif n'.beq n then(if h:t'=t then some (h▸L) else none) else none
   | .agg l=>rK lm (.arr n t) l
   | _=>none
 | .prod a b=>match s with
   | .agg l=>rK lm (.prod a b) l
   | _=>none
 | .unit=>match s with
   | .agg l=>rK lm .unit l
   | _=>none
 | t=>rK lm t [s]
def jcn (ν:Nm) (F:cE) (lm:Nat->Option SB):Prop:=∀b t L cap,lm b=some (.arr t L cap)->sE F t.size (eM (cT F t)) (L:List t.den) (ν b).2/\
 ∀o len cp,(ν b).2=.sl (ν b).1 o len cp t.size->len=List.length (α:=t.den) L
variable {lm:Nat->Option SB}
theorem jsc {α:Type} {z:Nat} {P:α->List AV->Prop} (hP:∀x l,P x l->l.length=z) {L:List α} {b len:Nat} {cp:Option Nat} (h:sE F z (eM P) L (.sl b 0 len cp z)) {o n:Nat} {c':Option Nat} (hle:o+n<=L.length) (hc:∀m,c'=some m->n<=m):
  sE F z (eM P) ((L.drop o).take n) (.sl b (o*z) n c' z):=by
 rcases h with⟨_,h⟩ | ⟨b',o',cap,l,h1,h2,h3,h4,h5⟩
 ·cases h
 ·cases h1;have hlen:((L.drop o).take n).length=n:=by simp;omega
  refine .inr ⟨b,o*z,c',l,by rw[hlen],h2,by rw[hlen];exact hc,?_,?_⟩
  ·rw[hlen];have:o*z+n*z<=L.length*z:=by rw[<-mQ];exact oT _ hle
   omega
  ·rw[hlen];have h1:=Z5 hP n (jiw hP o h5);have e:List.take (n*z) (List.drop (o*z) (List.take (L.length*z) (List.drop 0 l)))=List.take (n*z) (List.drop (o*z) l):=by
    rw[fW,qgn,P1,m5];have:n*z+o*z<=L.length*z:=by rw[<-mQ];exact oT _ (by omega)
    omega
   rw[e] at h1;exact h1
theorem klq (ho:jcn ν F lm) {t:Ty} {s:SV} {x:List t.den} (h:jat lm t s=some x) {v:AV} (hv:bO ν F s v):sE F t.size (eM (cT F t)) x v:=by
 unfold jat at h;split at h<;>try (cases h;done)
 ·rename_i t' L;split at h<;>try (cases h;done)
  rename_i e;subst e;cases h;exact hv.2
 ·rename_i t' L;split at h<;>try (cases h;done)
  rename_i e;subst e;cases h;exact .inr hv.2
 ·rename_i t' L;split at h<;>try (cases h;done)
  rename_i e;subst e;cases h;exact hv.2.sl
 ·rename_i b;split at h<;>try (cases h;done)
  rename_i t' L cap hb;split at h<;>try (cases h;done)
  rename_i e;subst e;cases h;obtain⟨rfl,_⟩:=hv;exact(ho _ _ _ _ hb).1
 ·rename_i b o n cp z;split at h<;>try (cases h;done)
  rename_i t' L cap hb;obtain⟨hz,h2⟩:=cF h;rw[bQ,aQ] at hz;split at h2<;>try (cases h2;done)
  rename_i e;subst e;subst hz;cases h2;obtain⟨k1,k2⟩:=ho _ _ _ _ hb;rcases hv with⟨rfl,rfl,_⟩ | ⟨c',rfl,h1,h3,len,cp',e,h5,_⟩
  ·exact .inl ⟨by simp,rfl⟩
  ·rw[e] at k1;exact jsc (gZ t') k1 (by have:=k2 _ _ _ e;omega) h3
 ·cases h;simp only[bO] at hv;exact .inl ⟨rfl,hv⟩
 ·rename_i z;obtain⟨hz,h2⟩:=cF h;rw[bQ,aQ] at hz;subst hz;cases h2;rcases hv with rfl | ⟨b,o,l,rfl,h1,h2⟩
  ·exact .inl ⟨rfl,rfl⟩
  ·exact .inr ⟨b,o,some 0,l,rfl,h1,λ_ _=>eW _,by simpa using h2,by simp[eM]⟩
theorem klr {t:Ty} {s:SV} {x:List t.den} (h:jvc t s=some x) {v:AV} (hv:bO ν F s v):SlX F t.size (eM (cT F t)) x v:=by
 unfold jvc at h;split at h<;>try (cases h;done)
 ·split at h<;>try (cases h;done)
  rename_i e;subst e;cases h;exact hv.2
 ·cases h;simp only[bO] at hv;exact .inl ⟨rfl,hv⟩
theorem jva {α:Type} {P:α->List AV->Prop} {f:List SV->Option α} {z:Nat} (hf:∀l m x,f l=some x->dO ν F l m->P x m):∀ {n:Nat} {l:List SV} {x:List α} {m:List AV},jg2 f z n l=some x->dO ν F l m->x.length=n/\eM P x m
 | 0,l,x,m,h,hm=>by
   simp only[jg2] at h;split at h<;>cases h
   exact⟨rfl,hm⟩
 | n+1,l,x,m,h,hm=>by
   simp only[jg2] at h;split at h<;>cases h
   rename_i y r h1 h2;obtain⟨k1,k2⟩:=jva hf h2 (zR z hm);exact⟨by simp[k1],m.take z,m.drop z,by rw[O3],hf _ _ _ h1 (o9 z hm),k2⟩
theorem uO (ho:jcn ν F lm):∀(t:Ty) {l:List SV} {x:t.den} {m:List AV},rK lm t l=some x->dO ν F l m->cT F t x m
 | .int k,l,x,m,h,hm=>by
   simp only[rK] at h;split at h<;>try (cases h;done)
   obtain⟨hk,h2⟩:=cF h;rw[t7] at hk;subst hk;cases h2;obtain⟨v,_,rfl,h1,rfl⟩:=hm;simp only[bO] at h1;rw[h1];rfl
 | .bool,l,x,m,h,hm=>by
   simp only[rK] at h;split at h<;>try (cases h;done)
   obtain⟨v,_,rfl,h1,rfl⟩:=hm;rw[ji9 h h1];rfl
 | .str,l,x,m,h,hm=>by
   simp only[rK] at h;split at h<;>try (cases h;done)
   cases h;obtain⟨v,_,rfl,h1,rfl⟩:=hm;simp only[bO] at h1;rw[h1];rfl
 | .unit,l,x,m,h,hm=>by
   simp only[rK] at h;split at h<;>try (cases h;done)
   exact hm
 | .prod a b,l,x,m,h,hm=>by
   simp only[rK] at h;split at h<;>try (cases h;done)
   rename_i y z h1 h2;cases h;exact⟨m.take a.size,m.drop a.size,by rw[O3],uO ho a h1 (o9 _ hm),uO ho b h2 (zR _ hm)⟩
 | .arr n t,l,x,m,h,hm=>jva (λl m x h k=>uO ho t h k) h hm
 | .sl t,l,x,m,h,hm=>by
   simp only[rK] at h;split at h<;>try (cases h;done)
   obtain⟨hz,h2⟩:=X0 h;obtain⟨v,_,rfl,h1,rfl⟩:=hm;exact⟨v,rfl,klq ho h2 h1⟩
 | .slx t,l,x,m,h,hm=>by
   simp only[rK] at h;split at h<;>try (cases h;done)
   obtain⟨hz,h2⟩:=X0 h;obtain⟨v,_,rfl,h1,rfl⟩:=hm;exact⟨v,rfl,klr h2 h1⟩
theorem jlc (ho:jcn ν F lm) {t:Ty} {s:SV} {x:t.den} (h:jdq lm t s=some x) {v:AV} (hv:bO ν F s v):Rel F t x v:=by
 cases t<;>simp only[jdq] at h
 case arr n t=>
  split at h<;>try (cases h;done)
  ·rename_i n' t' L;obtain⟨hn,h2⟩:=cF h;rw[bQ,aQ] at hn;subst hn;split at h2<;>try (cases h2;done)
   rename_i e;subst e;cases h2;exact hv
  ·obtain⟨m,rfl,hm⟩:=hv;exact⟨m,rfl,uO ho (.arr n t) h hm⟩
 case prod a b=>
  split at h<;>try (cases h;done)
  obtain⟨m,rfl,hm⟩:=hv;exact⟨m,rfl,uO ho (.prod a b) h hm⟩
 case unit=>
  split at h<;>try (cases h;done)
  obtain⟨m,rfl,hm⟩:=hv;exact⟨m,rfl,uO ho .unit h hm⟩
 case int k=>exact uO ho (.int k) h ⟨v,[],rfl,hv,rfl⟩
 case bool=>exact uO ho .bool h ⟨v,[],rfl,hv,rfl⟩
 case str=>exact uO ho .str h ⟨v,[],rfl,hv,rfl⟩
 case sl t=>exact uO ho (.sl t) h ⟨v,[],rfl,hv,rfl⟩
 case slx t=>exact uO ho (.slx t) h ⟨v,[],rfl,hv,rfl⟩
theorem B5:jcn ν F λ_=>none:=λb t L cap h=>by cases h
end X
end Go.Vm
namespace Go.Vm
namespace X
open W
variable {B:Base} {ro:Nat} {e:Env} {c:Cnv} {S:St} {tm:Tr AV} {H:Tr Blk} {nx:Nat} {ν:Nm} {F:cE} {M R:List Ent}
def jcc (t:Ty) (x:t.den) (f n:Nat) (agg:Bool):Option SV:=
 bif f.beq 0&&n.beq t.size&&(t.agg==agg)&&t.ok then some (D0 t x) else bif(f+n).ble t.size&&t.ok then mkS agg (((C3 t x).drop f).take n) else none
theorem jhn {t:Ty} {x:t.den} {f n:Nat} {agg:Bool} {s:SV} (h:jcc t x f n agg=some s) {l:List AV} (hl:cT F t x l):f+n<=t.size/\∃v,yM agg ((l.drop f).take n)=some v/\bO ν F s v:=by
 unfold jcc at h;cases hb:f.beq 0&&n.beq t.size&&(t.agg==agg)&&t.ok with
 | true=>
   rw[hb] at h;cases h;simp only[aW,bQ,aQ,beq_iff_eq] at hb;obtain⟨⟨⟨rfl,rfl⟩,rfl⟩,ht⟩:=hb;obtain⟨v,k1,k2⟩:=jxy hl;refine⟨by omega,v,?_,jfm ht k2⟩;rw[fW,iM (by rw[gZ t x l hl];omega)];exact k1
 | false=>
   rw[hb] at h;simp only[aJ] at h;obtain⟨h1,h2⟩:=cF h;simp only[aW,bE,aQ] at h1;obtain⟨v,k1,k2⟩:=jk0 h2 (o9 n (zR f (Z8 t h1.2 x l hl)));exact⟨h1.1,v,k1,k2⟩
def R9:(t:Ty)->t.den->Nat->Nat->Nat->Option ((t':Ty)×List t'.den)
 | .arr n' t',x,f,n,y=>bif f.beq 0&&n'.beq n&&t'.size.beq y then some ⟨t',x⟩ else none
 | .prod a b,x,f,n,y=>bif f.blt a.size then R9 a x.1 f n y else R9 b x.2 (f-a.size) n y
 | _,_,_,_,_=>none
theorem jwd {F:cE}:∀ {t:Ty} {x:t.den} {f n y:Nat} {t':Ty} {L:List t'.den},R9 t x f n y=some ⟨t',L⟩->∀ {l:List AV},cT F t x l->t'.size=y/\L.length=n/\f+n*y<=t.size/\eM (cT F t') L ((l.drop f).take (n*y))
 | .arr n' t1,x,f,n,y,t',L,h,l,hl=>by
   simp only[R9] at h;obtain⟨h1,h2⟩:=cF h;simp only[aW,bQ,aQ] at h1;obtain⟨⟨rfl,rfl⟩,rfl⟩:=h1;cases h2;obtain⟨h3,h4⟩:=hl;refine⟨rfl,h3,by simp[Ty.size],?_⟩;rw[fW,iM (by rw[rR (gZ _) h4,h3];omega)];exact h4
 | .prod a b,x,f,n,y,t',L,h,l,hl=>by
   simp only[R9] at h;obtain⟨l1,l2,rfl,h1,h2⟩:=hl;have e1:=gZ a _ _ h1;cases hf:Nat.blt f a.size with
   | true=>
     rw[hf] at h;simp only[aH] at h;obtain⟨k1,k2,k3,k4⟩:=jwd h h1;refine⟨k1,k2,by simp only[Ty.size];omega,?_⟩;rw[List.drop_append_of_le_length (by omega),qfw (by rw[mA];omega)];exact k4
   | false=>
     rw[hf] at h;simp only[aJ] at h;simp only[Nat.blt,bE,iU] at hf;obtain⟨k1,k2,k3,k4⟩:=jwd h h2;refine⟨k1,k2,by simp only[Ty.size];omega,?_⟩;rw[qhj,lZ (by omega),fB,e1];exact k4
 | .int _,_,_,_,_,_,_,h,_,_=>by simp[R9] at h
 | .bool,_,_,_,_,_,_,h,_,_=>by simp[R9] at h
 | .str,_,_,_,_,_,_,h,_,_=>by simp[R9] at h
 | .unit,_,_,_,_,_,_,h,_,_=>by simp[R9] at h
 | .sl _,_,_,_,_,_,_,h,_,_=>by simp[R9] at h
def ldS (lk:Nat->Option SB) (agg:Bool) (n:Nat):SV->Option SV
 | .ptr b o=>match lk b with
   | some (.lit l)=>bif(o+n).ble l.length then mkS agg ((l.drop o).take n) else none
   | some (.fix t k L)=>bif o.beq 0&&n.beq (k*t.size)&&agg then some (.ag k t L) else
      bif(o / t.size).blt k&&(o / t.size*t.size).beq o then jcc t (L.getD (o / t.size) t.df) 0 n agg else none
   | _=>none
 | .eptr b i z f=>match lk b with
   | some (.arr t L cap)=>bif t.size.beq z then jcc t (L.getD i t.df) f n agg else none
   | _=>none
 | .aptr b o k z i f=>match lk b with
   | some (.fix t k' L)=>bif t.size.beq z&&o.beq 0&&k.ble k' then jcc t (L.getD i t.df) f n agg else none
   | some (.lit l)=>bif z.beq 1&&f.beq 0&&n.beq 1&& !agg&&(o+k).ble l.length then(match (l.drop o).take k with
      | .int d y::r=>(jfp d (.int d y::r)).map λr=>.int d (r.getD i 0)
      | _=>none) else none
   | _=>none
 | .fptr t x f=>jcc t x f n agg
 | .nptr b t x f=>jcc t x f n agg
 | .sptr f=>bif n.beq 1&& !agg then some (.fn f [] [.sptr f]) else none
 | .cptr b f k c=>bif n.beq 1&& !agg then some (.fn f [] (c.set k (.cptr b f k c))) else none
 | .aptr2 b o k z i f m y j g=>match lk b with
   | some (.fix t k' L)=>bif t.size.beq z&&o.beq 0&&k.ble k' then(match R9 t (L.getD i t.df) f m y with
     | some ⟨t',L'⟩=>jcc t' (L'.getD j t'.df) g n agg
     | none=>none) else none
   | _=>none
 | _=>none
theorem jhm {l:List AV} {j z f n:Nat} (h:f+n<=z):(((l.drop j).take z).drop f).take n=(l.drop (j+f)).take n:=by
 rw[qgn,P1,F6,m5 (by omega)]
theorem j46 {l:List AV} {k j z:Nat} (h:j+z<=k):((l.take k).drop j).take z=(l.drop j).take z:=by
 rw[qgn,P1,m5 (by omega)]
theorem jbw {i k z:Nat} (h:i<k):i*z+z<=k*z:=by
 have:=oT z (show i+1<=k by omega);rw[mQ] at this;omega
theorem j1x (h:ConX B ro e c S tm H nx ν F M R) {agg:Bool} {n:Nat} {p s:SV} (hs:ldS (look e S) agg n p=some s) {v:AV} (hv:bO ν F p v):
  ∃b o l u,v=.ptr b o/\HB.At H b (.cells l)/\ldv agg n o l=some u/\bO ν F s u:=by
 have ldv_of:∀ {l:List AV} {o:Nat} {u:AV},o+n<=l.length->yM agg ((l.drop o).take n)=some u->ldv agg n o l=some u:=λh1 h2=>by
  unfold ldv;rw[bE,bD h1];exact h2
 have lift:∀ {F':cE},(F'=F\/F'=[])->∀x∈F',x∈F:=λh x hx=>by rcases h with rfl | rfl;exact hx;cases hx
 unfold ldS at hs;split at hs<;>try (cases hs;done)
 ·rename_i b o;simp only[bO] at hv;subst hv;split at hs<;>try (cases hs;done)
  ·rename_i l hb;obtain⟨h1,h2⟩:=cF hs;rw[bE,aQ] at h1;obtain⟨F',E,⟨w,m,rfl,hm⟩,hF,hE⟩:=h.look hb;have hlen:=rS hm;obtain⟨u,k1,k2⟩:=jk0 h2 (o9 n (zR o hm));exact⟨_,_,m,u,rfl,(hE _ (cD.2 rfl)).2,ldv_of (by omega) k1,zP (lift hF) _ _ k2⟩
  ·rename_i t k L hb;obtain⟨F',E,⟨w,m,rfl,hk,hm⟩,hF,hE⟩:=h.look hb;have hlen:=rR (gZ t) hm;cases hc:o.beq 0&&n.beq (k*t.size)&&agg with
   | true=>
     rw[hc] at hs;cases hs;simp only[aW,bQ,aQ] at hc;obtain⟨⟨rfl,rfl⟩,rfl⟩:=hc;refine⟨_,_,m,.agg m,rfl,(hE _ (cD.2 rfl)).2,ldv_of (by rw[hlen,hk];omega) ?_,m,rfl,hk,tY (oP (lift hF) t) hm⟩;rw[fW,iM (by rw[hlen,hk];omega)];rfl
   | false=>
     rw[hc] at hs;simp only[aJ] at hs;obtain⟨h1,h2⟩:=cF hs;simp only[aW,bQ,aQ,Nat.blt,bE] at h1;obtain⟨h1,h3⟩:=h1;have hj:o / t.size<L.length:=by omega
     obtain⟨k1,u,k2,k3⟩:=jhn (ν:=ν) h2 (B7 (gZ t) t.df hm hj);have hle:=jbw (z:=t.size) hj;rw[jhm k1,h3,nX] at k2;refine⟨_,_,m,u,rfl,(hE _ (cD.2 rfl)).2,ldv_of (by omega) ?_,zP (lift hF) _ _ k3⟩;exact k2
 ·rename_i b i z f;split at hs<;>try (cases hs;done)
  rename_i t L cap hb;obtain⟨hz,h2⟩:=cF hs;rw[bQ,aQ] at hz;subst hz;obtain⟨rfl,len,cp,e1,hi⟩:=hv;obtain⟨F',E,⟨h0,hE1⟩,hF,hE⟩:=h.look hb;rcases hE1 with⟨hd,_⟩ | ⟨w,m,rfl,hd,hm,ha⟩
  ·rcases hd with⟨e2,_⟩ | ⟨c',n',_,e2,_⟩
   ·rw[e1] at e2;cases e2
   ·cases e2
  ·rcases hd with⟨e2,_⟩ | ⟨c',n',e2,e3,hle,_⟩
   ·rw[e1] at e2;cases e2
   ·rw[e1] at e2;cases e2;cases e3;obtain⟨k1,u,k2,k3⟩:=jhn (ν:=ν) h2 (B7 (gZ t) t.df hm hi);have hlt:=jbw (z:=t.size) hi;rw[j46 hlt,jhm k1] at k2;exact⟨_,_,m,u,rfl,(hE _ (cD.2 rfl)).2,ldv_of (by omega) k2,zP (lift hF) _ _ k3⟩
 ·rename_i b o k z i f;obtain⟨rfl,hi⟩:=hv;split at hs<;>try (cases hs;done)
  ·rename_i t k' L hb;obtain⟨h1,h2⟩:=cF hs;simp only[aW,bQ,bE,aQ] at h1;obtain⟨⟨rfl,rfl⟩,hkk⟩:=h1;obtain⟨F',E,⟨w,m,rfl,hk,hm⟩,hF,hE⟩:=h.look hb;have hlen:=rR (gZ t) hm;have hj:i<L.length:=by omega
   obtain⟨k1,u,k2,k3⟩:=jhn (ν:=ν) h2 (B7 (gZ t) t.df hm hj);have hle:=jbw (z:=t.size) hj;rw[jhm k1] at k2;exact⟨_,i*t.size+f,m,u,by rw[mV],(hE _ (cD.2 rfl)).2,ldv_of (by omega) k2,zP (lift hF) _ _ k3⟩
  ·rename_i l hb;obtain⟨h1,h2⟩:=cF hs;simp only[aW,bQ,bE,aQ,kL] at h1;obtain⟨⟨⟨⟨rfl,rfl⟩,rfl⟩,rfl⟩,h3⟩:=h1;split at h2<;>try (cases h2;done)
   rename_i d y r hd;obtain⟨r',hr,e1⟩:=map_some h2;subst e1;obtain⟨F',E,⟨w,m,rfl,hm⟩,hF,hE⟩:=h.look hb;have hlen:=rS hm;have hm2:=o9 k (zR o hm);rw[hd] at hm2;have em:=jo9 hr hm2;have hrl:r'.length=k:=by
    have:=congrArg List.length em;simp at this;omega
   refine⟨_,_,m,.int d (r'.getD i 0),rfl,(hE _ (cD.2 rfl)).2,ldv_of (by omega) ?_,rfl⟩;have e2:(m.drop (o+i*1+0)).take 1=(((m.drop o).take k).drop i).take 1:=by
    rw[qgn,F6,P1,m5 (by omega)];simp
   rw[e2,em,iJ (by simp;omega)];simp[yM,gP,hrl,hi]
 ·rename_i t x f;obtain⟨b,o,l,rfl,h1,h2,h3⟩:=hv;obtain⟨k1,u,k2,k3⟩:=jhn (ν:=ν) hs h3;rw[jhm k1] at k2;exact⟨_,_,l,u,rfl,(h.fact h1).2,ldv_of (by omega) k2,k3⟩
 ·rename_i b t x f;obtain⟨rfl,l,h1,h2,h3⟩:=hv;obtain⟨k1,u,k2,k3⟩:=jhn (ν:=ν) hs h3;rw[qgn,P1,m5 (by omega)] at k2;exact⟨_,_,l,u,rfl,(h.fact h1).2,ldv_of (by omega) k2,k3⟩
 ·rename_i f;obtain⟨b,rfl,hb⟩:=hv;obtain⟨h1,h2⟩:=cF hs;simp only[aW,bQ,aQ,kL] at h1;obtain⟨rfl,rfl⟩:=h1;cases h2;exact⟨b,0,[.fn (.func f) [] [.ptr b 0]],_,rfl,(h.fact hb).2,rfl,⟨[],[.ptr b 0],rfl,rfl,⟨_,[],rfl,⟨b,rfl,hb⟩,rfl⟩⟩⟩
 ·rename_i b f k c;have hv0:=hv;obtain⟨rfl,c',hb,h3,h4⟩:=hv;obtain⟨h1,h2⟩:=cF hs;simp only[aW,bQ,aQ,kL] at h1;obtain⟨rfl,rfl⟩:=h1;cases h2;refine⟨(ν b).1,0,[.fn (.func f) [] c'],_,rfl,(h.fact hb).2,rfl,⟨[],c',rfl,rfl,?_⟩⟩;have:=jr8 k h4 hv0;rw[List.set_set] at this;rwa[show c'.set k (.ptr (ν b).1 0)=c' from ?_] at this;obtain⟨hk,h5⟩:=oM.1 h3;rw[<-h5,List.set_getElem_self]
 ·rename_i b o k z i f my y j g;obtain⟨rfl,hi,hj⟩:=hv;split at hs<;>try (cases hs;done)
  rename_i t k' L hb;obtain⟨h1,h2⟩:=cF hs;simp only[aW,bQ,bE,aQ] at h1;obtain⟨⟨rfl,rfl⟩,hkk⟩:=h1;split at h2<;>try (cases h2;done)
  rename_i t' L' hsub;obtain⟨F',E,⟨w,m,rfl,hk,hm⟩,hF,hE⟩:=h.look hb;have hlen:=rR (gZ t) hm;have hil:i<L.length:=by omega
  obtain⟨q1,q2,q3,q4⟩:=jwd hsub (B7 (gZ t) t.df hm hil);subst q1;have hjl:j<L'.length:=by omega
  obtain⟨k1,u,k2,k3⟩:=jhn (ν:=ν) h2 (B7 (gZ t') t'.df q4 hjl);have hle:=jbw (z:=t.size) hil;have hle2:=jbw (z:=t'.size) (show j<my by omega);rw[jhm q3,j46 hle2,jhm k1,F6,<-rZ] at k2;refine⟨_,i*t.size+f+j*t'.size+g,m,u,by rw[mV],(hE _ (cD.2 rfl)).2,ldv_of (by omega) ?_,zP (lift hF) _ _ k3⟩;exact k2
end X
end Go.Vm
namespace Go.Vm
namespace X
open W
variable {B:Base} {ro:Nat} {e:Env} {c:Cnv} {S:St} {tm:Tr AV} {H:Tr Blk} {nx:Nat} {ν:Nm} {F:cE} {M R:List Ent}
abbrev D6:Nat->Option SB:=λ_=>none
def jg7 (t:Ty) (x:t.den) (f:Nat) (cs:List SV):Option t.den:=
 bif f.beq 0&&cs.length.beq t.size then rK D6 t cs else bif(f+cs.length).ble t.size&&t.ok then rK D6 t ((C3 t x).take f++(cs++(C3 t x).drop (f+cs.length))) else none
theorem jqc {t:Ty} {x y:t.den} {f:Nat} {cs:List SV} (h:jg7 t x f cs=some y) {l m:List AV} (hl:cT F t x l) (hm:dO ν F cs m):f+m.length<=t.size/\cT F t y (jV l f m):=by
 have hlen:=rS hm;unfold jg7 at h;cases hb:f.beq 0&&cs.length.beq t.size with
 | true=>
   rw[hb] at h;simp only[aW,bQ,aQ] at hb;obtain⟨rfl,hb⟩:=hb;refine⟨by omega,?_⟩;have e1:jV l 0 m=m:=by
    rw[jV,qg1,fB,lZ (by rw[gZ t x l hl];omega),kO]
   rw[e1];exact uO B5 t h hm
 | false=>
   rw[hb] at h;simp only[aJ] at h;obtain⟨h1,h2⟩:=cF h;simp only[aW,bE,aQ] at h1;exact⟨by omega,uO B5 t h2 (jr9 (Z8 t h1.2 x l hl) hm)⟩
theorem jqt {l m:List AV} {j z f:Nat} (h:f+m.length<=z) (hj:j+z<=l.length):jV l j (jV ((l.drop j).take z) f m)=jV l (j+f) m:=by
 apply qf1;intro i;have hin:((l.drop j).take z).length=z:=by simp;omega
 have hs:(jV ((l.drop j).take z) f m).length=z:=by rw[jhi (by omega),hin]
 have eL:=jd7 (l:=l) (o:=j) (new:=jV ((l.drop j).take z) f m) (by omega) i;have eR:=jd7 (l:=l) (o:=j+f) (new:=m) (by omega) i;rw[eL,eR,hs];by_cases h1:j<=i/\i<j+z
 ·rw[aK h1,jd7 (by omega)];by_cases h2:f<=i-j/\i-j<f+m.length
  ·rw[aK h2,aK (by omega)];congr 1;omega
  ·rw[aF h2,aF (by omega),F9,aK (by omega),O5];congr 1;omega
 ·rw[aF h1,aF (by omega)]
theorem j40 {l m:List AV} {o n:Nat} (h:o+m.length<=n) (hn:n<=l.length):(jV l o m).take n=jV (l.take n) o m:=by
 apply qf1;intro i;rw[F9,jd7 (by omega),jd7 (by simp;omega),F9];by_cases h1:i<n
 ·simp[h1]
 ·rw[aF h1,aF (by omega),aF h1]
theorem jsh {l m:List AV} {o:Nat} (h:l.all oR=true) (k:m.all oR=true):(jV l o m).all oR=true:=by
 simp only[jV,qgu,k,sK];rw[aW];rw[cI] at h;exact⟨cI.2 λx hx=>h x (wE hx),cI.2 λx hx=>h x (rM hx)⟩
def stS (mv:dT) (n:Nat) (p u:SV):Option dT:=
 bif u.cells.length.beq n&&u.cells.all SV.one then(match p with
  | .ptr b o=>match gC mv b with
    | some (.lit l)=>bif(o+n).ble l.length then some (wJ mv b (.lit (l.take o++(u.cells++l.drop (o+u.cells.length))))) else none
    | some (.fix t k L)=>match u with
      | .ag k' t' L'=>bif o.beq 0&&k'.beq k then(if h:t'=t then some (wJ mv b (.fix t k (h▸L'))) else none) else none
      | u=>bif o.beq 0&&(Nat.blt 1 k&&n.beq (Ty.arr k t).size) then(jg7 (.arr k t) L 0 u.cells).map λy=>wJ mv b (.fix t k y) else bif(o / t.size).blt k&&(o / t.size*t.size).beq o then(jg7 t (L.getD (o / t.size) t.df) 0 u.cells).map λy=>wJ mv b (.fix t k (L.set (o / t.size) y)) else none
    | _=>none
  | .eptr b i z f=>match gC mv b with
    | some (.arr t L cap)=>bif t.size.beq z then(jg7 t (L.getD i t.df) f u.cells).map λy=>wJ mv b (.arr t (L.set i y) cap) else none
    | _=>none
  | .aptr b o k z i f=>match gC mv b with
    | some (.fix t k' L)=>bif t.size.beq z&&o.beq 0&&k.ble k' then(jg7 t (L.getD i t.df) f u.cells).map λy=>wJ mv b (.fix t k' (L.set i y)) else none
    | some (.lit l)=>bif z.beq 1&&f.beq 0&&(o+k).ble l.length then(match (l.drop o).take k,u with
       | .int d y::r,.int d' x=>bif rV d d' then(jfp d (.int d y::r)).map λr=>wJ mv b (.lit (l.take o++(((List.range k).map λj=>SV.int d ((r.set i x).getD j 0))++l.drop (o+k)))) else none
       | _,_=>none) else none
    | _=>none
  | _=>none) else none
def jvj:SV->Option Nat
 | .ptr b _=>some b
 | .eptr b _ _ _=>some b
 | .aptr b _ _ _ _ _=>some b
 | _=>none
theorem kn8 (h:ConX B ro e c S tm H nx ν F M R) {n:Nat} {p u:SV} {mv:dT} (hs:stS S.mv n p u=some mv) {v w:AV} (hv:bO ν F p v) (hw:bO ν F u w):
  ∃b,jvj p=some b/\(gC S.mv b).isSome=true/\∃o l,v=.ptr (ν b).1 o/\HB.At H (ν b).1 (.cells l)/\rx ro<=(ν b).1/\(nA w).length=n/\(nA w).all oR=true/\o+n<=l.length/\
   ∀k,HB.At (H.set (ν b).1 k) (ν b).1 (.cells (jV l o (nA w)))->∃M',ConX B ro e c { S with mv:=mv } tm (H.set (ν b).1 k) nx ν F M' R:=by
 unfold stS at hs;obtain⟨hc,hs2⟩:=cF hs;clear hs;revert hs2;intro hs
 simp only[aW,bQ,aQ] at hc;obtain⟨hn,hone⟩:=hc;have hcs:=jr5 hone hw;have hlen:=rS hcs;have hall:=jx6 hone hcs;split at hs<;>try (cases hs;done)
 ·rename_i b o;simp only[bO] at hv;split at hs<;>try (cases hs;done)
  ·rename_i l hb;obtain⟨h1,h2⟩:=cF hs;rw[bE,aQ] at h1;cases h2;obtain⟨E,hE,hp,hset,_⟩:=h.own hb;obtain⟨w',m,rfl,hm⟩:=hE;obtain⟨rfl,p1,p2,p3⟩:=hp _ (cD.2 rfl);have hml:=rS hm;refine⟨b,rfl,by rw[hb];rfl,o,m,hv,p3,p1,by omega,hall,by omega,λk hk=>?_⟩;exact hset _ _ _ k _ rfl hk ⟨_,_,rfl,jr9 hm hcs⟩
  ·rename_i t k' L hb;split at hs
   ·rename_i k2 t' L';obtain⟨h1,h2⟩:=cF hs;simp only[aW,bQ,aQ] at h1;obtain⟨rfl,rfl⟩:=h1;split at h2<;>try (cases h2;done)
    rename_i ht;subst ht;cases h2;obtain⟨E,hE,hp,hset,_⟩:=h.own hb;obtain⟨w',m,rfl,hk,hm⟩:=hE;obtain⟨rfl,p1,p2,p3⟩:=hp _ (cD.2 rfl);have hml:=rR (gZ t') hm;obtain⟨lw,rfl,hL1,hL2⟩:∃l,w=.agg l/\List.length (α:=t'.den) L'=k2/\eM (cT F t') L' l:=hw;have hlw:=rR (gZ t') hL2;rw[hk] at hml;rw[hL1] at hlw;have hlen':lw.length=n:=by
     have:(nA (.agg lw)).length=n:=by omega
     exact this
    refine⟨b,rfl,by rw[hb];rfl,0,m,hv,p3,p1,by omega,hall,by omega,λk hk'=>?_⟩;refine hset _ _ _ k _ rfl hk' ⟨_,_,rfl,by simpa using hL1,?_⟩;have e1:jV m 0 (nA (.agg lw))=lw:=by
     show jV m 0 lw=lw;rw[jV,qg1,fB,lZ (by omega),kO]
    rw[e1];exact hL2
   ·rename_i u' _;cases hW:o.beq 0&&(Nat.blt 1 k'&&n.beq (Ty.arr k' t).size) with
    | true=>
      rw[hW] at hs;simp only[aH] at hs;simp only[aW,bQ,aQ] at hW;obtain⟨rfl,_,hWn⟩:=hW;obtain⟨y,hy,e1⟩:=map_some hs;cases e1;obtain⟨E,hE,hp,hset,_⟩:=h.own hb;obtain⟨w',m,rfl,hk,hm⟩:=hE;obtain⟨rfl,p1,p2,p3⟩:=hp _ (cD.2 rfl);have hml:=rR (gZ t) hm;obtain⟨q1,q2⟩:=jqc (t:=.arr k' t) hy (l:=m) ⟨hk,hm⟩ hcs;refine⟨b,rfl,by rw[hb];rfl,0,m,hv,p3,p1,by omega,hall,?_,λk hk'=>?_⟩
      ·simp only[Ty.size] at hWn;rw[hml,hk];omega
      ·exact hset _ _ _ k _ rfl hk' ⟨_,_,rfl,q2.1,q2.2⟩
    | false=>
    rw[hW] at hs;simp only[aJ] at hs;obtain⟨h1,h2⟩:=cF hs;simp only[aW,bQ,aQ,Nat.blt,bE] at h1;obtain⟨h1,h3⟩:=h1;obtain⟨y,hy,e1⟩:=map_some h2;cases e1;obtain⟨E,hE,hp,hset,_⟩:=h.own hb;obtain⟨w',m,rfl,hk,hm⟩:=hE;obtain⟨rfl,p1,p2,p3⟩:=hp _ (cD.2 rfl);have hml:=rR (gZ t) hm;have hj:o / t.size<L.length:=by omega
    have hle:=jbw (z:=t.size) hj;obtain⟨q1,q2⟩:=jqc hy (B7 (gZ t) t.df hm hj) hcs;refine⟨b,rfl,by rw[hb];rfl,o,m,hv,p3,p1,by omega,hall,by omega,λk hk'=>?_⟩;refine hset _ _ _ k _ rfl hk' ⟨_,_,rfl,by simpa using hk,?_⟩;have:=jns (gZ t) hm hj q2;rw[jqt q1 (by omega),h3,nX] at this;exact this
 ·rename_i b i z f;split at hs<;>try (cases hs;done)
  rename_i t L cap hb;obtain⟨hz,h2⟩:=cF hs;rw[bQ,aQ] at hz;subst hz;obtain⟨y,hy,e1⟩:=map_some h2;cases e1;obtain⟨hv1,len,cp,e1,hi⟩:=hv;obtain⟨E,hE,hp,hset,_⟩:=h.own hb;obtain⟨h0,hE⟩:=hE;rcases hE with⟨hd,_⟩ | ⟨w',m,rfl,hd,hm,ha⟩
  ·rcases hd with⟨e2,_⟩ | ⟨c',n',_,e2,_⟩
   ·rw[e1] at e2;cases e2
   ·cases e2
  ·obtain⟨rfl,p1,p2,p3⟩:=hp _ (cD.2 rfl);have hd0:=hd;rcases hd with⟨e2,_⟩ | ⟨c',n',e2,e3,hle,_⟩
   ·rw[e1] at e2;cases e2
   ·rw[e1] at e2;cases e2;cases e3;have hlt:=jbw (z:=t.size) hi;obtain⟨q1,q2⟩:=jqc hy (B7 (gZ t) t.df hm hi) hcs;have hsl:(jV m (i*t.size+f) (nA w)).length=m.length:=jhi (by omega);refine⟨b,rfl,by rw[hb];rfl,_,m,hv1,p3,p1,by omega,hall,by omega,λk hk'=>?_⟩;refine hset _ _ _ k _ rfl hk' ⟨h0,.inr ⟨_,_,rfl,by rw[hsl,rP];exact hd0,?_,jsh ha hall⟩⟩;have:=jns (gZ t) hm hi q2;rw[jqt q1 (by simp;omega)] at this;rw[rP,j40 (by omega) hle];exact this
 ·rename_i b o k' z i f;obtain⟨hv1,hi⟩:=hv;split at hs<;>try (cases hs;done)
  ·rename_i t k2 L hb;obtain⟨h1,h2⟩:=cF hs;simp only[aW,bQ,bE,aQ] at h1;obtain⟨⟨rfl,rfl⟩,hkk⟩:=h1;obtain⟨y,hy,e1⟩:=map_some h2;cases e1;obtain⟨E,hE,hp,hset,_⟩:=h.own hb;obtain⟨w',m,rfl,hk,hm⟩:=hE;obtain⟨rfl,p1,p2,p3⟩:=hp _ (cD.2 rfl);have hml:=rR (gZ t) hm;have hj:i<L.length:=by omega
   have hle:=jbw (z:=t.size) hj;obtain⟨q1,q2⟩:=jqc hy (B7 (gZ t) t.df hm hj) hcs;refine⟨b,rfl,by rw[hb];rfl,i*t.size+f,m,by rw[hv1,mV],p3,p1,by omega,hall,by omega,λk hk'=>?_⟩;refine hset _ _ _ k _ rfl hk' ⟨_,_,rfl,by simpa using hk,?_⟩;have:=jns (gZ t) hm hj q2;rw[jqt q1 (by omega)] at this;exact this
  ·rename_i l hb;obtain⟨h1,h2⟩:=cF hs;simp only[aW,bQ,bE,aQ] at h1;obtain⟨⟨rfl,rfl⟩,h3⟩:=h1;split at h2<;>try (cases h2;done)
   rename_i d y r d' x hd;obtain⟨hkk,h5⟩:=cF h2;rw[t7] at hkk;subst hkk;obtain⟨r',hr,e1⟩:=map_some h5;cases e1;obtain⟨E,hE,hp,hset,_⟩:=h.own hb;obtain⟨w',m,rfl,hm⟩:=hE;obtain⟨rfl,p1,p2,p3⟩:=hp _ (cD.2 rfl);have hml:=rS hm;have hm2:=o9 k' (zR o hm);rw[hd] at hm2;have em:=jo9 hr hm2;have hrl:r'.length=k':=by
    have:=congrArg List.length em;simp at this;omega
   simp only[bO] at hw;subst hw;simp only[SV.cells,cL,iD] at hn;refine⟨b,rfl,by rw[hb];rfl,o+i*1+0,m,hv1,p3,p1,by simp[nA];omega,rfl,by omega,λk hk'=>?_⟩;refine hset _ _ _ k _ rfl hk' ⟨_,_,rfl,?_⟩;have e5:jV m (o+i*1+0) (nA (.int d x))=m.take o++((List.range k').map (λj=>AV.int d ((r'.set i x).getD j 0))++m.drop (o+k')):=by
    have e6:(List.range k').map (λj=>AV.int d ((r'.set i x).getD j 0))=jV ((m.drop o).take k') i [.int d x]:=by
     rw[em,kn3 (by simp;omega)];apply qf1;intro j;by_cases hj:j<k'
     ·have hj':j<r'.length:=by omega
      simp only[mG,List.getElem?_range hj,iS,O6,cY,gP];by_cases hij:i=j
      ·subst hij;simp[hj']
      ·simp[hij,hj']
     ·rw[uP (by simp;omega),uP (by simp;omega)]
    have:=jqt (l:=m) (m:=[.int d x]) (j:=o) (z:=k') (f:=i) (by simp;omega) (by omega);rw[qh6,nX];show jV m (o+i) [.int d x]=_;rw[<-this,<-e6,jV];simp
   rw[e5];refine zQ (o9 o hm) (zQ ?_ (zR _ hm));have:∀(l:List Nat),dO ν F (l.map λj=>SV.int d ((r'.set i x).getD j 0)) (l.map λj=>AV.int d ((r'.set i x).getD j 0)):=by
    intro l;induction l with
    | nil=>rfl
    | cons a l ih=>exact⟨_,_,rfl,rfl,ih⟩
   exact this _
def jnz (e:Env) (S:St) (b:Nat):SV->Bool
 | .ptr b' _ | .aptr b' _ _ _ _ _=> !(b'.beq b)&&(match look e S b' with
   | some (.lit _) | some (.fix _ _ _)=>true
   | some (.arr _ _ _) | some (.mp _ _ _)=>false
   | none=>false)
 | .eptr b' _ _ _=> !(b'.beq b)&&(match look e S b' with
   | some (.lit _) | some (.fix _ _ _)=>true
   | some (.arr _ _ _)=>true
   | some (.mp _ _ _)=>false
   | none=>false)
 | .fptr _ _ _=>true
 | .nptr _ _ _ _=>true
 | _=>false
theorem jrv {b b':Nat} {sb sb':SB}:∀ {m:dT} {M:List Ent},oE ν F m M->gC m b=some sb->gC m b'=some sb'->b≠b'->∃E E',jW ν F b sb E/\jW ν F b' sb' E'/\((E++E').Sublist M\/(E'++E).Sublist M)
 | [],M,_,h,_,_=>by cases h
 | (k,v)::m,M,⟨E,M',e1,h1,h2⟩,h,h',hne=>by
   have sub:∀ {x:Nat} {s:SB},gC m x=some s->∃E,jW ν F x s E/\E.Sublist M':=λhx=>by
    obtain⟨M1,E1,M2,e2,g1,_⟩:=ja8 h2 hx;exact⟨E1,g1,by rw[e2];exact(qhm ..).trans (qew ..)⟩
   simp only[gC] at h h';cases hk:Nat.beq k b<;>cases hk':Nat.beq k b'<;>rw[hk] at h<;>rw[hk'] at h'<;>simp only[aH,aJ] at h h'
   ·obtain⟨E1,E2,g1,g2,g3⟩:=jrv h2 h h' hne;refine⟨E1,E2,g1,g2,?_⟩;rw[e1];rcases g3 with g3 | g3
    ·exact .inl (g3.trans (qew ..))
    ·exact .inr (g3.trans (qew ..))
   ·cases h';rw[bQ,aQ] at hk';subst hk';obtain⟨E1,g1,g2⟩:=sub h;exact⟨E1,E,g1,h1,.inr (by rw[e1];exact qil g2 _)⟩
   ·cases h;rw[bQ,aQ] at hk;subst hk;obtain⟨E1,g1,g2⟩:=sub h';exact⟨E,E1,h1,g1,.inl (by rw[e1];exact qil g2 _)⟩
   ·rw[bQ,aQ] at hk hk';exact absurd (hk.symm.trans hk') hne
theorem jym (h:ConX B ro e c S tm H nx ν F M R) {b:Nat} {p:SV} (hp:jnz e S b p=true) (hb:∃sb E,gC S.mv b=some sb/\jW ν F b sb E/\∃x∈E,x.b=(ν b).1) (hro:ro<=(ν b).1) {v:AV} (hv:bO ν F p v):∃b' o,v=.ptr b' o/\b'≠(ν b).1:=by
 have nm:∀ {b':Nat} {o:Nat} {A:Bool},(A=true->∃len cap z,(ν b').2=.sl (ν b').1 0 len cap z)->(!(b'.beq b)&&(match look e S b' with
  | some (.lit _) | some (.fix _ _ _)=>true
  | some (.arr _ _ _)=>A
  | some (.mp _ _ _)=>false
  | none=>false))=true->v=.ptr (ν b').1 o->∃b' o,v=.ptr b' o/\b'≠(ν b).1:=by
  intro b' o A hA hc hv;refine⟨_,_,hv,λheq=>?_⟩;simp only[aW,kL,bQ,iU] at hc;obtain⟨hne,hc⟩:=hc;obtain⟨sb,E0,hb1,hE0,x0,hx0,hx0b⟩:=hb;have one:∀ {sb':SB} {E':List Ent},look e S b'=some sb'->jW ν F b' sb' E'->∃y∈E',y.b=(ν b').1:=by
   intro sb' E' hl hE';rw[hl] at hc;cases sb' with
   | lit l=>obtain⟨w,m,rfl,_⟩:=hE';exact⟨_,cD.2 rfl,rfl⟩
   | fix t n L=>obtain⟨w,m,rfl,_⟩:=hE';exact⟨_,cD.2 rfl,rfl⟩
   | mp k v L=>obtain⟨w,m,rfl,_⟩:=hE';exact⟨_,cD.2 rfl,rfl⟩
   | arr t L cap=>
     obtain⟨len,cp,z,hA⟩:=hA hc;obtain⟨_,hE'⟩:=hE';rcases hE' with⟨hd,_⟩ | ⟨w,m,rfl,_⟩
     ·rcases hd with⟨e1,_⟩ | ⟨_,_,_,e1,_⟩
      ·rw[hA] at e1;cases e1
      ·cases e1
     ·exact⟨_,cD.2 rfl,rfl⟩
  cases hl:gC (S.mv++e.mc) b' with
  | some sb'=>
    have hl':look e S b'=some sb':=by unfold look;rw[hl]
    have hb2:gC (S.mv++e.mc) b=some sb:=by rw[jpr,hb1]
    obtain⟨E1,E2,g1,g2,g3⟩:=jrv (Z3 h.mv h.mcm) hb2 hl (λh=>hne h.symm);obtain⟨y,hy,hyb⟩:=one hl' g2;have hnd:=h.hk.nd;have hx1:∃x∈E1,x.b=(ν b).1:=by
     cases sb with
     | lit l=>obtain⟨w,m,rfl,_⟩:=g1;exact⟨_,cD.2 rfl,rfl⟩
     | fix t n L=>obtain⟨w,m,rfl,_⟩:=g1;exact⟨_,cD.2 rfl,rfl⟩
     | mp k v L=>obtain⟨w,m,rfl,_⟩:=g1;exact⟨_,cD.2 rfl,rfl⟩
     | arr t L cap=>
       obtain⟨_,hE0⟩:=hE0;obtain⟨_,g1⟩:=g1;rcases g1 with⟨hd,rfl⟩ | ⟨w,m,rfl,_⟩
       ·rcases hE0 with⟨_,rfl⟩ | ⟨w,m,rfl,hd2,_⟩
        ·cases hx0
        ·rcases hd with⟨e1,_⟩ | ⟨_,_,_,e1,_⟩
         ·rcases hd2 with⟨_,e2,_⟩ | ⟨_,_,e2,_⟩
          ·cases e2
          ·rw[e1] at e2;cases e2
         ·cases e1
       ·exact⟨_,cD.2 rfl,rfl⟩
    obtain⟨x,hx,hxb⟩:=hx1;have hsub:∀ {A:List Ent},A.Sublist (M++c.Mc)->(A.map Ent.b).Nodup:=λhA=>by
     rw[<-dX] at hnd;exact hnd.sublist ((hA.trans (qhm ..)).map _)
    rcases g3 with g3 | g3
    ·have:=hsub g3;rw[eI,qM] at this;exact this.2.2 _ (bC.2 ⟨x,hx,rfl⟩) _ (bC.2 ⟨y,hy,rfl⟩) (by rw[hxb,hyb,heq])
    ·have:=hsub g3;rw[eI,qM] at this;exact this.2.2 _ (bC.2 ⟨y,hy,rfl⟩) _ (bC.2 ⟨x,hx,rfl⟩) (by rw[hxb,hyb,heq])
  | none=>
    cases hl2:look e S b' with
    | none=>rw[hl2] at hc;cases hc
    | some sb'=>
      have hG:gC e.G b'=some sb':=by unfold look at hl2;rw[hl] at hl2;exact hl2
      obtain⟨_,_,_,E,g1,g2⟩:=h.gl.2 _ _ hG;obtain⟨y,hy,hyb⟩:=one hl2 (Z2 (λ_ h=>by cases h) g1);have:=(g2 y hy).1;have:=h.hk.r0;omega
 have fp:∀ {b' o:Nat} {l:List AV},(b',HB.cells l)∈F->∃b2 o2,AV.ptr b' o=.ptr b2 o2/\b2≠(ν b).1:=by
  intro b' o l h1;refine⟨b',_,rfl,λheq=>?_⟩;obtain⟨sb,E0,hb1,hE0,x0,hx0,hx0b⟩:=hb;rcases h.fz _ h1 with h2 | ⟨h2,_⟩
  ·obtain⟨w,hm⟩:=h2.mem;obtain⟨M1,E,M2,e1,g1,_⟩:=ja8 h.mv hb1;have hx1:∃x∈E,x.b=(ν b).1:=by
    cases sb with
    | lit l=>obtain⟨w,m,rfl,_⟩:=g1;exact⟨_,cD.2 rfl,rfl⟩
    | fix t n L=>obtain⟨w,m,rfl,_⟩:=g1;exact⟨_,cD.2 rfl,rfl⟩
    | mp k v L=>obtain⟨w,m,rfl,_⟩:=g1;exact⟨_,cD.2 rfl,rfl⟩
    | arr t L cap=>
      obtain⟨_,hE0⟩:=hE0;obtain⟨_,g1⟩:=g1;rcases g1 with⟨hd,rfl⟩ | ⟨w,m,rfl,_⟩
      ·rcases hE0 with⟨_,rfl⟩ | ⟨w,m,rfl,hd2,_⟩
       ·cases hx0
       ·rcases hd with⟨e1,_⟩ | ⟨_,_,_,e1,_⟩
        ·rcases hd2 with⟨_,e2,_⟩ | ⟨_,_,e2,_⟩
         ·cases e2
         ·rw[e1] at e2;cases e2
        ·cases e1
      ·exact⟨_,cD.2 rfl,rfl⟩
   obtain⟨x,hx,hxb⟩:=hx1;have hnd:=h.hk.nd;rw[eI,qM] at hnd;refine hnd.2.2 _ (bC.2 ⟨x,by rw[e1];simp[hx],rfl⟩) _ (bC.2 ⟨_,bU.2 (.inr (by simp only[Cnv.O0,bU] at hm ⊢;rcases hm with hm | hm;exact .inl hm;exact .inr (.inr hm))),rfl⟩) ?_;rw[hxb];exact heq.symm
  ·have:=h.hk.r0;simp only at h2;omega
 cases p<;>simp only[jnz,reduceCtorEq] at hp
 ·exact nm (A:=false) (λh=>by cases h) hp hv
 ·exact nm (A:=true) (λ_=>⟨_,_,_,hv.2.choose_spec.choose_spec.1⟩) hp hv.1
 ·exact nm (A:=false) (λh=>by cases h) hp hv.1
 ·obtain⟨b',o,l,rfl,h1,_⟩:=hv;exact fp h1
 ·obtain⟨rfl,l,h1,_⟩:=hv;exact fp h1
def jsi (e:Env) (S:St) (b:Nat):SV->Bool
 | .own b'=> !(b'.beq b)&&(match gC (S.mv++e.mc) b' with
   | some (.arr t L cap)=> !((List.length (α:=t.den) L).beq 0)
   | _=>false)
 | _=>false
theorem j9y (h:ConX B ro e c S tm H nx ν F M R) {b:Nat} {p:SV} (hp:jsi e S b p=true) {sb:SB} {E0:List Ent} (hb1:gC S.mv b=some sb) (hE0:jW ν F b sb E0) (hx0:∃x∈E0,x.b=(ν b).1) {v:AV} (hv:bO ν F p v):∃b' o n cp z,v=.sl b' o n cp z/\b'≠(ν b).1:=by
 cases p<;>simp only[jsi,reduceCtorEq] at hp
 rename_i b';simp only[aW,kL,bQ,iU] at hp;obtain⟨hne,hc⟩:=hp;split at hc<;>try (cases hc;done)
 rename_i t L cap hl;have hL:List.length (α:=t.den) L≠0:=by simpa[bQ] using hc
 have hb2:gC (S.mv++e.mc) b=some sb:=by rw[jpr,hb1]
 obtain⟨E1,E2,g1,g2,g3⟩:=jrv (Z3 h.mv h.mcm) hb2 hl (λh=>hne h.symm);have hnd:=h.hk.nd;obtain⟨x0,hx0,hx0b⟩:=hx0;have hx1:∃x∈E1,x.b=(ν b).1:=by
  cases sb with
  | lit l=>obtain⟨w,m,rfl,_⟩:=g1;exact⟨_,cD.2 rfl,rfl⟩
  | fix t n L=>obtain⟨w,m,rfl,_⟩:=g1;exact⟨_,cD.2 rfl,rfl⟩
  | mp k v L=>obtain⟨w,m,rfl,_⟩:=g1;exact⟨_,cD.2 rfl,rfl⟩
  | arr t L cap=>
    obtain⟨_,hE0⟩:=hE0;obtain⟨_,g1⟩:=g1;rcases g1 with⟨hd,rfl⟩ | ⟨w,m,rfl,_⟩
    ·rcases hE0 with⟨_,rfl⟩ | ⟨w,m,rfl,hd2,_⟩
     ·cases hx0
     ·rcases hd with⟨e1,_⟩ | ⟨_,_,_,e1,_⟩
      ·rcases hd2 with⟨_,e2,_⟩ | ⟨_,_,e2,_⟩
       ·cases e2
       ·rw[e1] at e2;cases e2
      ·cases e1
    ·exact⟨_,cD.2 rfl,rfl⟩
 obtain⟨x,hx,hxb⟩:=hx1;obtain⟨_,g2⟩:=g2;rcases g2 with⟨hd,_⟩ | ⟨w,m,rfl,hd,_⟩
 ·rcases hd with⟨_,_,e1,_⟩ | ⟨_,_,_,e1,_⟩
  ·exact absurd e1 hL
  ·cases e1
 ·rcases hd with⟨_,e1,_⟩ | ⟨c',n',e1,_⟩
  ·cases e1
  ·obtain⟨rfl,_⟩:=hv;refine⟨_,_,_,_,_,e1,λheq=>?_⟩;have hsub:∀ {A:List Ent},A.Sublist (M++c.Mc)->(A.map Ent.b).Nodup:=λhA=>by
    rw[<-dX] at hnd;exact hnd.sublist ((hA.trans (qhm ..)).map _)
   rcases g3 with g3 | g3
   ·have:=hsub g3;rw[eI,qM] at this;exact this.2.2 _ (bC.2 ⟨x,hx,rfl⟩) _ (bC.2 ⟨_,cD.2 rfl,rfl⟩) (by rw[hxb,<-heq])
   ·have:=hsub g3;rw[eI,qM] at this;exact this.2.2 _ (bC.2 ⟨_,cD.2 rfl,rfl⟩) _ (bC.2 ⟨x,hx,rfl⟩) (by rw[hxb,<-heq])
def jtl (g:Opd->Option SV) (e:Env) (S:St) (ex:List Opd):SV->Bool
 | .nils=>true
 | .own b=>ex.all λy=>match g y with
   | some p'=>jnz e S b p'||jsi e S b p'
   | none=>false
 | _=>false
theorem kdl {z bytes:Nat} {x y:Opd} {g:Opd->Option SV} (hg:∀x s,g x=some s->bO ν F s (cP tm x)) (h:ConX B ro e c S tm H nx ν F M R) {ex:List Opd} {s:SV} (hs:jtl g e S ex s=true) (hx:bO ν F s (cP tm x)) (hlk:∀b,s=.own b->∃t L cap,gC S.mv b=some (.arr t L cap)):yC (cP tm) (.app z bytes x y) ex=true:=by
 unfold jtl at hs;split at hs<;>try (cases hs;done)
 ·simp only[bO] at hx;simp only[yC,hx]
 ·rename_i b;obtain⟨t,L,cap,hsb⟩:=hlk b rfl;obtain⟨E,hE,hEp,_⟩:=h.own hsb;obtain⟨e1,hsl⟩:=hx;have hE':=hE;obtain⟨h0,hE1⟩:=hE;rcases hE1 with⟨hd,rfl⟩ | ⟨w,m,rfl,hd,_⟩
  ·rcases hd with⟨q1,_⟩ | ⟨_,_,_,q1,_⟩
   ·rw[q1] at e1;simp only[yC,e1]
   ·cases q1
  ·rcases hd with⟨_,q1,_⟩ | ⟨c',n',q1,_⟩
   ·cases q1
   ·rw[q1] at e1;simp only[yC,e1];refine cI.2 λy' hy=>?_
    have h1:=cI.1 hs y' hy;split at h1<;>try (cases h1;done)
    rename_i p' hp';rw[pC] at h1;have hone:∃z∈([⟨(ν b).1,w,.cells m⟩]:List Ent),z.b=(ν b).1:=⟨_,cD.2 rfl,rfl⟩
    rcases h1 with h1 | h1
    ·obtain⟨b2,o2,k1,k2⟩:=jym h h1 ⟨_,_,hsb,hE',hone⟩ (rJ (hEp _ (cD.2 rfl)).2.1).1 (hg _ _ hp');simp only[k1,bQ];simp[k2]
    ·obtain⟨b2,o2,n2,cp2,z2,k1,k2⟩:=j9y h h1 hsb hE' hone (hg _ _ hp');simp only[k1,bQ];simp[k2]
end X
end Go.Vm
namespace Go.Vm
namespace X
open W
variable {B:Base} {ro:Nat} {e:Env} {c:Cnv} {S:St} {tm:Tr AV} {H:Tr Blk} {nx:Nat} {ν:Nm} {F:cE} {M R:List Ent}
mutual
def mE:dT->SV->Option (dT×SV)
 | mv,.own b=>match gC mv b with
   | some (.arr t L cap)=>some (lL mv b,.fz t L)
   | _=>none
 | mv,.view b o n _ z=>match gC mv b with
   | some (.arr t L cap)=>bif z.beq t.size then some (lL mv b,.fz t ((L.drop o).take n)) else none
   | _=>none
 | mv,.agg l=>match jbk mv l with
   | some (mv',l')=>some (mv',.agg l')
   | none=>none
 | mv,s=>some (mv,s)
def jbk:dT->List SV->Option (dT×List SV)
 | mv,[]=>some (mv,[])
 | mv,s::l=>match mE mv s with
   | some (mv',s')=>match jbk mv' l with
     | some (mv'',l')=>some (mv'',s'::l')
     | none=>none
   | none=>none
end
theorem jrn {b:Nat} {t:Ty} {L:List t.den} {cap:Option Nat} {E:List Ent} (h:jW ν F b (.arr t L cap) E) {F':cE} (hF:∀x∈F,x∈F') (hE:∀x∈vO E,x∈F'):
  sE F' t.size (eM (cT F' t)) L (ν b).2/\∀o len cp,(ν b).2=.sl (ν b).1 o len cp t.size->len=L.length:=by
 obtain⟨h0,h⟩:=h;rcases h with⟨hd,rfl⟩ | ⟨w,m,rfl,hd,hm,ha⟩
 ·rcases hd with⟨e1,_,e2,_⟩ | ⟨_,_,_,e1,_⟩
  ·refine⟨.inl ⟨tJ e2,e1⟩,λo len cp e3=>?_⟩;rw[e1] at e3;cases e3
  ·cases e1
 ·rcases hd with⟨_,e1,_⟩ | ⟨c',n,e1,e2,h1,h3,h4⟩
  ·cases e1
  ·cases e2;refine⟨.inr ⟨(ν b).1,0,c',m,e1,hE _ (by simp[vO]),λx hx=>(h3 x hx).2,by omega,?_⟩,λo len cp e3=>?_⟩
   ·rw[fW];exact tY (oP hF t) hm
   ·rw[e1] at e3;cases e3;rfl
theorem knz {t:Ty} {L:List t.den} {x:Nat×AV} {F':cE} (h0:t.size≠0) (h:sE F' t.size (eM (cT F' t)) L x.2) (h2:∀o len cp,x.2=.sl x.1 o len cp t.size->len=L.length) {b o n:Nat} {cp:Option Nat} (hν:ν b=x) {v:AV} (hv:bO ν F (.view b o n cp t.size) v):
  bO ν F' (.fz t ((L.drop o).take n)) v:=by
 subst hν;rcases hv with⟨rfl,rfl,_⟩ | ⟨c',rfl,k1,k3,len,cp',e,h5,_⟩
 ·exact⟨h0,.inl ⟨by simp,rfl⟩⟩
 ·rw[e] at h;exact⟨h0,jsc (gZ t) h (by have:=h2 _ _ _ e;omega) k3⟩
mutual
theorem keb:∀ {S:St} {F:cE} {M R:List Ent} (h:ConX B ro e c S tm H nx ν F M R) (s:SV) {mv:dT} {s':SV},mE S.mv s=some (mv,s')->∃F' M' R',ConX B ro e c { S with mv:=mv } tm H nx ν F' M' R'/\(∀x∈F,x∈F')/\∀v,bO ν F s v->bO ν F' s' v
 | S,F,M,R,h,.own b,mv,s',hf=>by
   simp only[mE] at hf;split at hf<;>try (cases hf;done)
   rename_i t L cap hb;cases hf;obtain⟨E,hE,hp,_,⟨M',hM⟩,_⟩:=h.own hb;refine⟨_,_,_,hM,λx hx=>bU.2 (.inr hx),λv hv=>?_⟩;obtain⟨k1,k2⟩:=jrn (F':=vO E++F) hE (λx hx=>bU.2 (.inr hx)) (λx hx=>bU.2 (.inl hx));obtain⟨rfl,_⟩:=hv;exact⟨hE.1,k1⟩
 | S,F,M,R,h,.view b o n cp z,mv,s',hf=>by
   simp only[mE] at hf;split at hf<;>try (cases hf;done)
   rename_i t L cap hb;obtain⟨hz,hf2⟩:=cF hf;rw[bQ,aQ] at hz;subst hz;cases hf2;obtain⟨E,hE,hp,_,⟨M',hM⟩,_⟩:=h.own hb;refine⟨_,_,_,hM,λx hx=>bU.2 (.inr hx),λv hv=>?_⟩;obtain⟨k1,k2⟩:=jrn (F':=vO E++F) hE (λx hx=>bU.2 (.inr hx)) (λx hx=>bU.2 (.inl hx));exact knz hE.1 k1 k2 rfl hv
 | S,F,M,R,h,.agg l,mv,s',hf=>by
   simp only[mE] at hf;split at hf<;>try (cases hf;done)
   rename_i mv' l' hl;cases hf;obtain⟨F',M',R',k1,k2,k3⟩:=jjw h l hl;exact⟨F',M',R',k1,k2,λv ⟨m,e1,hm⟩=>⟨m,e1,k3 m hm⟩⟩
 | S,F,M,R,h,.int _ _,mv,s',hf=>by simp only[mE,bA,bK] at hf;obtain⟨rfl,rfl⟩:=hf;exact⟨F,M,R,h,λ_ h=>h,λ_ h=>h⟩
 | S,F,M,R,h,.bool _,mv,s',hf=>by simp only[mE,bA,bK] at hf;obtain⟨rfl,rfl⟩:=hf;exact⟨F,M,R,h,λ_ h=>h,λ_ h=>h⟩
 | S,F,M,R,h,.str _,mv,s',hf=>by simp only[mE,bA,bK] at hf;obtain⟨rfl,rfl⟩:=hf;exact⟨F,M,R,h,λ_ h=>h,λ_ h=>h⟩
 | S,F,M,R,h,.fzn _ _,mv,s',hf=>by simp only[mE,bA,bK] at hf;obtain⟨rfl,rfl⟩:=hf;exact⟨F,M,R,h,λ_ h=>h,λ_ h=>h⟩
 | S,F,M,R,h,.fzx _ _,mv,s',hf=>by simp only[mE,bA,bK] at hf;obtain⟨rfl,rfl⟩:=hf;exact⟨F,M,R,h,λ_ h=>h,λ_ h=>h⟩
 | S,F,M,R,h,.fz _ _,mv,s',hf=>by simp only[mE,bA,bK] at hf;obtain⟨rfl,rfl⟩:=hf;exact⟨F,M,R,h,λ_ h=>h,λ_ h=>h⟩
 | S,F,M,R,h,.ag _ _ _,mv,s',hf=>by simp only[mE,bA,bK] at hf;obtain⟨rfl,rfl⟩:=hf;exact⟨F,M,R,h,λ_ h=>h,λ_ h=>h⟩
 | S,F,M,R,h,.tup _,mv,s',hf=>by simp only[mE,bA,bK] at hf;obtain⟨rfl,rfl⟩:=hf;exact⟨F,M,R,h,λ_ h=>h,λ_ h=>h⟩
 | S,F,M,R,h,.ptr _ _,mv,s',hf=>by simp only[mE,bA,bK] at hf;obtain⟨rfl,rfl⟩:=hf;exact⟨F,M,R,h,λ_ h=>h,λ_ h=>h⟩
 | S,F,M,R,h,.eptr _ _ _ _,mv,s',hf=>by simp only[mE,bA,bK] at hf;obtain⟨rfl,rfl⟩:=hf;exact⟨F,M,R,h,λ_ h=>h,λ_ h=>h⟩
 | S,F,M,R,h,.aptr _ _ _ _ _ _,mv,s',hf=>by simp only[mE,bA,bK] at hf;obtain⟨rfl,rfl⟩:=hf;exact⟨F,M,R,h,λ_ h=>h,λ_ h=>h⟩
 | S,F,M,R,h,.aptr2 _ _ _ _ _ _ _ _ _ _,mv,s',hf=>by simp only[mE,bA,bK] at hf;obtain⟨rfl,rfl⟩:=hf;exact⟨F,M,R,h,λ_ h=>h,λ_ h=>h⟩
 | S,F,M,R,h,.aview _ _ _ _ _,mv,s',hf=>by simp only[mE,bA,bK] at hf;obtain⟨rfl,rfl⟩:=hf;exact⟨F,M,R,h,λ_ h=>h,λ_ h=>h⟩
 | S,F,M,R,h,.sptr _,mv,s',hf=>by simp only[mE,bA,bK] at hf;obtain⟨rfl,rfl⟩:=hf;exact⟨F,M,R,h,λ_ h=>h,λ_ h=>h⟩
 | S,F,M,R,h,.mp _,mv,s',hf=>by simp only[mE,bA,bK] at hf;obtain⟨rfl,rfl⟩:=hf;exact⟨F,M,R,h,λ_ h=>h,λ_ h=>h⟩
 | S,F,M,R,h,.cptr _ _ _ _,mv,s',hf=>by simp only[mE,bA,bK] at hf;obtain⟨rfl,rfl⟩:=hf;exact⟨F,M,R,h,λ_ h=>h,λ_ h=>h⟩
 | S,F,M,R,h,.fptr _ _ _,mv,s',hf=>by simp only[mE,bA,bK] at hf;obtain⟨rfl,rfl⟩:=hf;exact⟨F,M,R,h,λ_ h=>h,λ_ h=>h⟩
 | S,F,M,R,h,.nptr _ _ _ _,mv,s',hf=>by simp only[mE,bA,bK] at hf;obtain⟨rfl,rfl⟩:=hf;exact⟨F,M,R,h,λ_ h=>h,λ_ h=>h⟩
 | S,F,M,R,h,.fn _ _ _,mv,s',hf=>by simp only[mE,bA,bK] at hf;obtain⟨rfl,rfl⟩:=hf;exact⟨F,M,R,h,λ_ h=>h,λ_ h=>h⟩
 | S,F,M,R,h,.tt,mv,s',hf=>by simp only[mE,bA,bK] at hf;obtain⟨rfl,rfl⟩:=hf;exact⟨F,M,R,h,λ_ h=>h,λ_ h=>h⟩
 | S,F,M,R,h,.ff,mv,s',hf=>by simp only[mE,bA,bK] at hf;obtain⟨rfl,rfl⟩:=hf;exact⟨F,M,R,h,λ_ h=>h,λ_ h=>h⟩
 | S,F,M,R,h,.nils,mv,s',hf=>by simp only[mE,bA,bK] at hf;obtain⟨rfl,rfl⟩:=hf;exact⟨F,M,R,h,λ_ h=>h,λ_ h=>h⟩
 | S,F,M,R,h,.nilp,mv,s',hf=>by simp only[mE,bA,bK] at hf;obtain⟨rfl,rfl⟩:=hf;exact⟨F,M,R,h,λ_ h=>h,λ_ h=>h⟩
 | S,F,M,R,h,.nilf,mv,s',hf=>by simp only[mE,bA,bK] at hf;obtain⟨rfl,rfl⟩:=hf;exact⟨F,M,R,h,λ_ h=>h,λ_ h=>h⟩
 | S,F,M,R,h,.nili,mv,s',hf=>by simp only[mE,bA,bK] at hf;obtain⟨rfl,rfl⟩:=hf;exact⟨F,M,R,h,λ_ h=>h,λ_ h=>h⟩
 | S,F,M,R,h,.nilm,mv,s',hf=>by simp only[mE,bA,bK] at hf;obtain⟨rfl,rfl⟩:=hf;exact⟨F,M,R,h,λ_ h=>h,λ_ h=>h⟩
 | S,F,M,R,h,.err _,mv,s',hf=>by simp only[mE,bA,bK] at hf;obtain⟨rfl,rfl⟩:=hf;exact⟨F,M,R,h,λ_ h=>h,λ_ h=>h⟩
 | S,F,M,R,h,.emp _,mv,s',hf=>by simp only[mE,bA,bK] at hf;obtain⟨rfl,rfl⟩:=hf;exact⟨F,M,R,h,λ_ h=>h,λ_ h=>h⟩
theorem jjw:∀ {S:St} {F:cE} {M R:List Ent} (h:ConX B ro e c S tm H nx ν F M R) (l:List SV) {mv:dT} {l':List SV},jbk S.mv l=some (mv,l')->∃F' M' R',ConX B ro e c { S with mv:=mv } tm H nx ν F' M' R'/\(∀x∈F,x∈F')/\∀m,dO ν F l m->dO ν F' l' m
 | S,F,M,R,h,[],mv,l',hf=>by simp only[jbk,bA,bK] at hf;obtain⟨rfl,rfl⟩:=hf;exact⟨F,M,R,h,λ_ h=>h,λ_ h=>h⟩
 | S,F,M,R,h,s::l,mv,l',hf=>by
   simp only[jbk] at hf;split at hf<;>try (cases hf;done)
   rename_i mv1 s1 h1;split at hf<;>try (cases hf;done)
   rename_i mv2 l2 h2;cases hf;obtain⟨F1,M1,R1,k1,k2,k3⟩:=keb h s h1;obtain⟨F2,M2,R2,j1,j2,j3⟩:=jjw (S:={ S with mv:=mv1 }) k1 l h2;refine⟨F2,M2,R2,j1,λx hx=>j2 x (k2 x hx),?_⟩;rintro m ⟨v,m',rfl,q1,q2⟩;exact⟨v,m',rfl,zP j2 _ _ (k3 v q1),j3 m' (sD k2 _ _ q2)⟩
end
def j57:SV->Option Ty
 | .int k _=>some (.int k)
 | .bool _ | .tt | .ff=>some .bool
 | .str _=>some .str
 | .fz t _=>some (.sl t)
 | _=>none
def jw5:List SV->Option Ty
 | []=>none
 | s::l=>match l with
   | []=>j57 s
   | _::_=>match j57 s,jw5 l with
     | some a,some b=>some (.prod a b)
     | _,_=>none
abbrev NS:=Option (Option Bool×SV×St)
theorem jr2 {F:cE} {k:IntKind}:∀ {L:List Int} {l:List AV},eM (cT F (.int k)) L l->l=L.map (AV.int k)
 | [],l,h=>h
 | x::L,l,⟨l1,l2,e,h1,h2⟩=>by
   simp only[cT] at h1;rw[e,h1,jr2 h2];rfl
theorem jw6:∀ {L:List Int},(L.all λx=>decide (0<=x)&&decide (x<=255))=true->u8s (L.map (AV.int .u8))=some (L.map Int.toNat)
 | [],_=>rfl
 | x::L,h=>by
   simp only[X5,aW,aQ] at h;obtain⟨⟨h0,h1⟩,h2⟩:=h;obtain⟨n,rfl⟩:=qe1 h0;have hn:n.ble 255=true:=by rw[bE,aQ];omega
   show u8s (.int .u8 (.ofNat n)::L.map (AV.int .u8))=_;simp only[u8s,hn,aH,jw6 h2];rfl
def jur (g:Opd->Option SV) (e:Env) (S:St) (hn:Option Ty):I->NS
 | .box x=>match g x with
   | some (.ag n t L)=>bif fresh e S then some (none,.ptr S.nc 0,tH S (.fix t n L)) else none
   | some s=>bif fresh e S&&s.cells.all SV.one&& !(SV.hasL S.nc s.cells) then some (none,.ptr S.nc 0,tH S (.lit s.cells)) else none
   | none=>none
 | .alloc z=>match jao z with
   | some l=>bif fresh e S&& !(SV.hasL S.nc l) then(match hn with
     | some (.arr n t)=>(rK D6 (.arr n t) l).map λL=>(none,.ptr S.nc 0,tH S (.fix t n L))
     | _=>some (none,.ptr S.nc 0,tH S (.lit l))) else none
   | none=>none
 | .bsl z n zs ps=>match jao zs,jlx g ps with
   | some l,some ps=>match jjq l ps with
     | some l=>bif n.beq 0&&hn.isNone then(bif !(z.beq 0)&&l.length.beq 0 then some (none,.emp z,S) else none) else match jbk S.mv l with
       | some (mv,l)=>match (match hn with
          | some t=>some t
          | none=>jw5 (l.take z)) with
         | some t=>match jg2 (rK D6 t) t.size n l with
           | some L=>bif fresh e { S with mv:=mv }&&t.size.beq z&& !(z.beq 0)&&(n*z).ble 1000000 then some (none,.own S.nc,tH { S with mv:=mv } (.arr t L (some n))) else none
           | none=>none
         | none=>none
       | none=>none
     | none=>none
   | _,_=>none
 | .mksl z bytes zs l k=>match jao zs,g l,g k with
   | some zs,some (.int _ l),some (.int _ k)=>match (match hn with
      | some t=>some t
      | none=>jw5 zs) with
     | some t=>match rK D6 t zs with
       | some x=>bif fresh e S&&t.size.beq z&& !(z.beq 0)&&bytes.ble 1000 then some (some (decide (0<=l)&&decide (l<=k)&&decide (k<=1000000)),.own S.nc,tH S (.arr t (List.replicate l.toNat x) (some k.toNat))) else none
       | none=>none
     | none=>none
   | _,_,_=>none
 | .slA n z x lo hi mx=>match g x with
   | some (.ptr b 0)=>match gC e.G b with
     | some (.fix t n' L)=>bif lo.isSome||hi.isSome||mx.isSome then none else bif n.beq n'&&t.size.beq z&& !(z.beq 0) then some (none,.fz t L,S) else none
     | _=>match look e S b with
       | some (.fix t n' L)=>bif n.beq n'&&t.size.beq z&& !(z.beq 0)&&mx.isNone then(match nQ g lo 0,nQ g hi n with
         | some l,some h=>some (some (cU l h n),.aview b n l.toNat (h.toNat-l.toNat) z,S)
         | _,_=>none) else none
       | _=>none
   | _=>none
 | .b2s x=>match g x with
   | some (.aview b n o m z)=>match look e S b with
     | some (.fix (.int .u8) n' L)=>bif n.beq n'&&z.beq 1 then some (some (((List.take m (List.drop o (L:List Int))).all λx=>decide (0<=x)&&decide (x<=255))),.str ((List.take m (List.drop o (L:List Int))).map Int.toNat),S) else none
     | _=>none
   | some (.own b)=>match look e S b with
     | some (.arr (.int .u8) L _)=>some (some ((L:List Int).all λx=>decide (0<=x)&&decide (x<=255)),.str ((L:List Int).map Int.toNat),S)
     | _=>none
   | _=>none
 | _=>none
section
variable {g:Opd->Option SV} (hg:∀x s,g x=some s->bO ν F s (cP tm x))
include hg
theorem ki5 {call:FuncId->List AV->Tr Blk->Nat->Nat->eQ} {rr:Nat} (h:ConX B ro e c S tm H nx ν F M R) {hn:Option Ty} {i:I} {cc:Option Bool} {s:SV} {S':St} (hs:jur g e S hn i=some (cc,s,S')) (hc:kG cc=true):
  ∃v H' nx' ν' F' M' R',hop call rr (cP tm) H nx i=some (v,H',nx')/\ConX B ro e c S' tm H' nx' ν' F' M' R'/\bO ν' F' s v/\S'.fr=S.fr:=by
 cases i<;>simp only[jur] at hs<;>try (cases hs;done)
 case box x=>
  split at hs<;>try (cases hs;done)
  ·rename_i n t L hx;obtain⟨hf,h2⟩:=cF hs;cases h2;obtain⟨m,e1,hl,hm⟩:=hg _ _ hx;refine⟨.ptr nx 0,_,_,_,F,_,R,?_,h.newc (l:=m) (hdr:=.nils) hf ?_,?_,rfl⟩
   ·simp only[hop,e1,nA,oS]
   ·exact⟨true,m,by rw[lE],hl,hm⟩
   ·simp only[bO,lE]
  ·rename_i s' _ hx;obtain⟨hf,h2⟩:=cF hs;cases h2;simp only[aW,kL] at hf;have hcs:=jr5 hf.1.2 (hg _ _ hx);refine⟨.ptr nx 0,_,_,_,F,_,R,?_,h.newc (l:=nA (cP tm x)) (hdr:=.nils) hf.1.1 ?_,?_,rfl⟩
   ·simp only[hop,oS]
   ·exact⟨true,_,by rw[lE],B8 _ _ hf.2 hcs⟩
   ·simp only[bO,lE]
 case alloc z=>
  split at hs<;>try (cases hs;done)
  rename_i l hz;obtain⟨hf,h2⟩:=cF hs;simp only[aW,kL] at hf;have hl:=jgz (F:=F) h.gl.1 hz;split at h2
  ·rename_i n t;obtain⟨L,hL,e1⟩:=map_some h2;cases e1;obtain⟨k1,k2⟩:=uO B5 (.arr n t) hL hl;refine⟨.ptr nx 0,_,_,_,F,_,R,?_,h.newc (l:=z) (hdr:=.nils) hf.1 ?_,?_,rfl⟩
   ·simp only[hop,oS]
   ·exact⟨true,z,by rw[lE],k1,k2⟩
   ·simp only[bO,lE]
  ·cases h2;refine⟨.ptr nx 0,_,_,_,F,_,R,?_,h.newc (l:=z) (hdr:=.nils) hf.1 ?_,?_,rfl⟩
   ·simp only[hop,oS]
   ·exact⟨true,z,by rw[lE],B8 _ _ hf.2 hl⟩
   ·simp only[bO,lE]
 case bsl z n zs ps=>
  split at hs<;>try (cases hs;done)
  rename_i l0 ps' hz hp;split at hs<;>try (cases hs;done)
  rename_i l hl;obtain⟨k1,k2⟩:=jv7 hg hp;obtain⟨m,e1,hm⟩:=jtq hl (jgz h.gl.1 hz) k2 (by simpa using k1);cases hn0:n.beq 0&&hn.isNone with
  | true=>
    rw[hn0] at hs;obtain⟨hb,h2⟩:=cF hs;simp only[aW,kL,bQ,aQ,iU] at hb;cases h2;simp only[aW,bQ,aQ] at hn0;obtain⟨hn0,_⟩:=hn0;subst hn0;have hm0:m=[]:=tJ (by rw[<-rS hm];exact hb.2);subst hm0;have hk:=h.hk.cells [];refine⟨.sl nx 0 0 (some 0) z,_,_,ν,(nx,.cells [])::F,M,⟨nx,true,.cells []⟩::R,?_,⟨hk.perm ?_,λn v hv=>zP (λ_ h=>bL _ h) _ _ (h.fr n v hv),sD (λ_ h=>bL _ h) _ _ h.ov,jcm (λ_ h=>bL _ h) h.mv,h.wr,jcl (λ_ h=>bL _ h) h.mc,λx hx=>?_,h.gl⟩,.inr ⟨nx,0,[],rfl,bH ..,bV _⟩,rfl⟩
    ·have e2:(z.beq 0|| !((0*z).ble 1000000))=false:=by rw[bQ,bE];simp[hb.1]
     have e3:(([]:List AV).length.beq (0*z))=true:=by rw[bQ];simp
     simp only[hop,e2,aJ,e1,e3,aH,oS]
    ·rw[fN];have:(M++(c.Mc++⟨nx,true,.cells []⟩::(R++c.O0))).Perm (⟨nx,true,.cells []⟩::(M++(c.Mc++(R++c.O0)))):=by
      rw[<-dX,<-dX M];exact List.perm_middle
     exact this
    ·rcases bJ.1 hx with rfl | hx
     ·exact .inl .here
     ·rcases h.fz x hx with h3 | h3
      ·exact .inl (.there h3)
      ·exact .inr h3
  | false=>
    rw[hn0] at hs;simp only[aJ] at hs;split at hs<;>try (cases hs;done)
    rename_i mv l' hfz;split at hs<;>try (cases hs;done)
    rename_i t _;split at hs<;>try (cases hs;done)
    rename_i L hL;obtain⟨hb,h2⟩:=cF hs;simp only[aW,kL,bQ,aQ,iU,bE] at hb;obtain⟨⟨⟨hf,rfl⟩,hz0⟩,hbig⟩:=hb;cases h2;obtain⟨F1,M1,R1,q1,q2,q3⟩:=jjw h l hfz;have hm':=q3 m hm;obtain⟨j1,j2⟩:=jva (P:=cT F1 t) (λl m x h k=>uO B5 t h k) hL hm';have hlen:=rR (gZ t) j2;rw[j1] at hlen;refine⟨.sl nx 0 n (some n) t.size,_,_,_,F1,_,R1,?_,q1.newc (S:={ S with mv:=mv }) (l:=m) (hdr:=.sl nx 0 n (some n) t.size) hf ?_,?_,rfl⟩
    ·have e2:(t.size.beq 0|| !((n*t.size).ble 1000000))=false:=by rw[bQ,bE];simp[hz0,hbig]
     have e3:(m.length.beq (n*t.size))=true:=by rw[bQ];simp[hlen]
     simp only[hop,e2,aJ,e1,e3,aH,oS]
    ·refine⟨hz0,.inr ⟨true,m,by rw[lE],?_,?_,I2 (B6 t) j2⟩⟩
     ·rw[lE];refine .inr ⟨some n,m.length,by rw[j1],rfl,by rw[j1,hlen];exact bV _,λy hy=>?_,λy hy=>hy⟩;cases hy;exact⟨by rw[hlen];exact bV _,by rw[j1];exact bV _⟩
     ·rw[j1,<-hlen,iL];exact j2
    ·simp only[bO,lE];exact⟨trivial,rfl⟩
 case mksl z bytes zs l k=>
  split at hs<;>try (cases hs;done)
  rename_i zs' k1 l1 k2 l2 hz hl hk;split at hs<;>try (cases hs;done)
  rename_i t _;split at hs<;>try (cases hs;done)
  rename_i x hx;obtain⟨hb,h2⟩:=cF hs;simp only[aW,kL,bQ,aQ,iU,bE] at hb;obtain⟨⟨⟨hf,rfl⟩,hz0⟩,hbig⟩:=hb;cases h2;simp only[kG,aW,aQ] at hc;obtain⟨⟨c0,c1⟩,c2⟩:=hc;have hr:=uO B5 t hx (jgz (F:=F) h.gl.1 hz);have hzl:=gZ t _ _ hr;have e1:=hg _ _ hl;have e2:=hg _ _ hk;simp only[bO] at e1 e2;have hlen:((List.replicate l2.toNat zs).flatten).length=l2.toNat*t.size:=by rw[List.length_flatten];simp[hzl]
  refine⟨.sl nx 0 l1.toNat (some l2.toNat) t.size,_,_,_,F,_,R,?_,h.newc (l:=(List.replicate l2.toNat zs).flatten) (hdr:=.sl nx 0 l1.toNat (some l2.toNat) t.size) hf ?_,?_,rfl⟩
  ·rw[jja c0] at e1;rw[jja (show 0<=l2 by omega)] at e2;have e3:(l1.toNat.ble l2.toNat&&l2.toNat.ble 1000000&&bytes.ble 1000&& !(t.size.beq 0)&&zs.length.beq t.size)=true:=by
    simp only[aW,bE,bQ,aQ,kL,iU];exact⟨⟨⟨⟨by omega,by omega⟩,hbig⟩,hz0⟩,hzl⟩
   simp only[hop,e1,e2,e3,aH,oS]
  ·refine⟨hz0,.inr ⟨true,_,by rw[lE],?_,?_,I2 (B6 t) (jr3 hr l2.toNat)⟩⟩
   ·rw[lE];refine .inr ⟨some l2.toNat,_,by simp,rfl,?_,λy hy=>?_,λy hy=>hy⟩
    ·rw[hlen,qeo];exact oT _ (by omega)
    ·cases hy;rw[qeo,hlen];exact⟨bV _,by omega⟩
   ·have h1:=Z5 (gZ t) l1.toNat (jr3 hr l2.toNat);rw[List.take_replicate,m5 (by omega)] at h1;rw[qeo];exact h1
  ·simp only[bO,lE];exact⟨trivial,rfl⟩
 case b2s x=>
  split at hs<;>try (cases hs;done)
  rotate_left
  ·rename_i b hx;split at hs<;>try (cases hs;done)
   rename_i L cap hb;cases hs;obtain⟨e1,_⟩:=hg _ _ hx;obtain⟨F',E,⟨_,hE1⟩,_,hE⟩:=h.look hb;refine⟨.str ((L:List Int).map Int.toNat),H,nx,ν,F,M,R,?_,h,rfl,rfl⟩;rcases hE1 with⟨hd,_⟩ | ⟨w,l,rfl,hd,hr,_⟩
   ·rcases hd with⟨e2,_,e3,_⟩ | ⟨_,_,_,e2,_⟩
    ·have e3:L=([]:List Int):=tJ e3;subst e3;rw[e2] at e1;simp only[hop,e1,lM]
    ·cases e2
   ·rcases hd with⟨_,e2,_⟩ | ⟨c',n',e2,e3,hle,_⟩
    ·cases e2
    ·cases e3;obtain⟨_,cc,hcc,hcl⟩:=hE _ (cD.2 rfl);rw[e2] at e1;have hle:(L:List Int).length*1<=l.length:=hle;rw[qh6] at hle;have hr:l.take ((L:List Int).length)=(L:List Int).map (AV.int .u8):=jr2 (by rw[<-qh6 ((L:List Int).length)];exact hr);have hat:=take_at (H:=H) (b:=(ν b).1) hcl (L:List Int).length 0 (by omega);rw[fW,hr] at hat;have e3:(Nat.beq 1 1&&(0+ (L:List Int).length).ble l.length)=true:=by
      rw[bE];simp;omega
     simp only[hop,e1,hcc,Ty.size,e3,aH,hat,jw6 hc,jfh]
  rename_i b n o m z hx;split at hs<;>try (cases hs;done)
  rename_i n' L hb;obtain⟨hb1,h2⟩:=cF hs;simp only[aW,bQ,aQ] at hb1;obtain⟨rfl,rfl⟩:=hb1;cases h2;obtain⟨⟨c,e1⟩,hle⟩:=hg _ _ hx;obtain⟨F',E,⟨w,l,rfl,hL,hr⟩,_,hE⟩:=h.look hb;obtain⟨_,cc,hcc,hcl⟩:=hE _ (cD.2 rfl);have hl:l=(L:List Int).map (AV.int .u8):=jr2 hr;subst hl;have hLn:(L:List Int).length=n:=hL;rw[qh6] at e1;have hat:=take_at (H:=H) (b:=(ν b).1) hcl m o (by rw[cY];omega);rw[<-List.map_drop,<-qhz] at hat;refine⟨.str (((List.take m (List.drop o (L:List Int)))).map Int.toNat),H,nx,ν,F,M,R,?_,h,rfl,rfl⟩;have e3:(Nat.beq 1 1&&(o+m).ble ((L:List Int).map (AV.int .u8)).length)=true:=by
   rw[cY,bE];simp;omega
  simp only[hop,e1,hcc,e3,aH,hat,jw6 hc,jfh]
 case slA n z x lo hi mx=>
  split at hs<;>try (cases hs;done)
  rename_i b hx;split at hs
  rotate_left
  ·rename_i hG;split at hs<;>try (cases hs;done)
   rename_i t n' L hb;obtain⟨hb1,h2⟩:=cF hs;simp only[aW,kL,bQ,aQ,iU,qhh] at hb1;obtain⟨⟨⟨rfl,rfl⟩,hz⟩,rfl⟩:=hb1;split at h2<;>try (cases h2;done)
   rename_i l0 h0 hlo hhi;cases h2;obtain⟨c0,c1,c2⟩:=cN.1 hc;obtain⟨F',E,⟨w,l,rfl,hL,hr⟩,_,hE⟩:=h.look hb;obtain⟨_,cc,hcc,hcl⟩:=hE _ (cD.2 rfl);have hlen:=rR (gZ t) hr;have e1:=hg _ _ hx;simp only[bO] at e1;have hbd:=I6 (g':=cP tm) hg (len:=n) (cap:=n) hlo hhi c0 c1 c2;refine⟨.sl (ν b).1 (0+l0.toNat*t.size) (h0.toNat-l0.toNat) (some (n-l0.toNat)) t.size,H,nx,ν,F,M,R,?_,h,⟨⟨_,by rw[mV]⟩,by omega⟩,rfl⟩;have e2:(t.size.beq 0|| !((0+n*t.size).ble l.length))=false:=by
    rw[bQ,bE,hlen,hL];simp[hz]
   simp only[hop,e1,hcc,e2,aJ,sL,hbd]
  rename_i t n' L hG;obtain⟨hb,hs⟩:=X0 hs;simp only[yS,Option.isSome_eq_false_iff,qhh] at hb;obtain⟨⟨rfl,rfl⟩,rfl⟩:=hb;obtain⟨hb,h2⟩:=cF hs;simp only[aW,kL,bQ,aQ,iU] at hb;obtain⟨⟨rfl,rfl⟩,hz⟩:=hb;cases h2;obtain⟨_,_,_,E,g1,g2⟩:=h.gl.2 _ _ hG;obtain⟨w,l,rfl,hL,hr⟩:=g1;obtain⟨k1,k2⟩:=g2 _ (cD.2 rfl);have hlen:=rR (gZ t) hr;have e1:=hg _ _ hx;simp only[bO] at e1;have hH:HB.At H (ν b).1 (.cells l):=k2.congr (h.hk.base _ k1);have up:∀x∈F,x∈((ν b).1,HB.cells l)::F:=λ_ h=>bL _ h
  refine⟨.sl (ν b).1 0 n (some n) t.size,H,nx,ν,((ν b).1,.cells l)::F,M,R,?_,⟨h.hk,λn v hv=>zP up _ _ (h.fr n v hv),sD up _ _ h.ov,jcm up h.mv,h.wr,jcl up h.mc,λx hx=>?_,h.gl⟩,⟨hz,.inr ⟨(ν b).1,0,some n,l,by rw[hL],bH ..,λc hc=>?_,?_,?_⟩⟩,rfl⟩
  ·obtain⟨cc,hcc,_⟩:=hH;have e2:(t.size.beq 0|| !((0+n*t.size).ble l.length))=false:=by
    rw[bQ,bE,hlen,hL];simp[hz]
   have e3:xW n n none none none=some (0,n,n):=rfl;simp only[hop,e1,hcc,e2,aJ,sL,e3,P0,nX,sN]
  ·rcases bJ.1 hx with rfl | hx
   ·exact .inr ⟨k1,k2⟩
   ·exact h.fz x hx
  ·cases hc;rw[hL];exact bV _
  ·rw[hlen];simp
  ·rw[fW,<-hlen,iL];exact tY (λ_ _ h=>oP (λ_ h=>(by cases h)) t _ _ h) hr
end
end X
end Go.Vm
namespace Go.Vm
namespace X
open W
variable {B:Base} {ro:Nat} {e:Env} {c:Cnv} {S:St} {tm:Tr AV} {H:Tr Blk} {nx:Nat} {ν:Nm} {F:cE} {M R:List Ent}
def jxq (ν:Nm) (F' F:cE) (lm:Nat->Option SB):Prop:=∀b t L cap,lm b=some (.arr t L cap)->sE F' t.size (eM (cT F t)) (L:List t.den) (ν b).2/\
 ∀o len cp,(ν b).2=.sl (ν b).1 o len cp t.size->len=List.length (α:=t.den) L
theorem jsb {α:Type} {F':cE} (hF:∀x∈F,x∈F') {z:Nat} {P:List α->List AV->Prop} {x:List α} {v:AV} (k:sE F z P x v):sE F' z P x v:=jny hF (λ_ _ h=>h) k
theorem j3o {lm:Nat->Option SB} {F':cE} (hF:∀x∈F,x∈F') (ho:jxq ν F' F lm) {t:Ty} {s:SV} {x:List t.den} (h:jat lm t s=some x) {v:AV} (hv:bO ν F s v):sE F' t.size (eM (cT F t)) x v:=by
 unfold jat at h;split at h<;>try (cases h;done)
 ·rename_i t' L;split at h<;>try (cases h;done)
  rename_i e;subst e;cases h;exact jsb hF hv.2
 ·rename_i t' L;split at h<;>try (cases h;done)
  rename_i e;subst e;cases h;exact jsb hF (.inr hv.2)
 ·rename_i t' L;split at h<;>try (cases h;done)
  rename_i e;subst e;cases h;exact jsb hF hv.2.sl
 ·rename_i b;split at h<;>try (cases h;done)
  rename_i t' L cap hb;split at h<;>try (cases h;done)
  rename_i e;subst e;cases h;obtain⟨rfl,_⟩:=hv;exact(ho _ _ _ _ hb).1
 ·rename_i b o n cp z;split at h<;>try (cases h;done)
  rename_i t' L cap hb;obtain⟨hz,h2⟩:=cF h;rw[bQ,aQ] at hz;split at h2<;>try (cases h2;done)
  rename_i e;subst e;subst hz;cases h2;obtain⟨k1,k2⟩:=ho _ _ _ _ hb;rcases hv with⟨rfl,rfl,_⟩ | ⟨c',rfl,h1,h3,len,cp',e,h5,_⟩
  ·exact .inl ⟨by simp,rfl⟩
  ·rw[e] at k1;exact jsc (gZ t') k1 (by have:=k2 _ _ _ e;omega) h3
 ·cases h;simp only[bO] at hv;exact .inl ⟨rfl,hv⟩
 ·rename_i z;obtain⟨hz,h2⟩:=cF h;rw[bQ,aQ] at hz;subst hz;cases h2;rcases hv with rfl | ⟨b,o,l,rfl,h1,h2⟩
  ·exact .inl ⟨rfl,rfl⟩
  ·exact .inr ⟨b,o,some 0,l,rfl,hF _ h1,λ_ _=>eW _,by simpa using h2,by simp[eM]⟩
theorem j81 {b:Nat} {t:Ty} {L:List t.den} {cap:Option Nat} {E:List Ent} (h:jW ν F b (.arr t L cap) E) {F':cE} (hE:∀x∈vO E,x∈F'):
  sE F' t.size (eM (cT F t)) L (ν b).2/\∀o len cp,(ν b).2=.sl (ν b).1 o len cp t.size->len=L.length:=by
 obtain⟨h0,h⟩:=h;rcases h with⟨hd,rfl⟩ | ⟨w,m,rfl,hd,hm,ha⟩
 ·rcases hd with⟨e1,_,e2,_⟩ | ⟨_,_,_,e1,_⟩
  ·refine⟨.inl ⟨tJ e2,e1⟩,λo len cp e3=>?_⟩;rw[e1] at e3;cases e3
  ·cases e1
 ·rcases hd with⟨_,e1,_⟩ | ⟨c',n,e1,e2,h1,h3,h4⟩
  ·cases e1
  ·cases e2;refine⟨.inr ⟨(ν b).1,0,c',m,e1,hE _ (by simp[vO]),λx hx=>(h3 x hx).2,by omega,?_⟩,λo len cp e3=>?_⟩
   ·rw[fW];exact hm
   ·rw[e1] at e3;cases e3;rfl
def ji2 (F:cE) (c:Cnv) (M:List Ent):cE:=F++vO (M++c.Mc)
theorem ConX.allAt (h:ConX B ro e c S tm H nx ν F M R):∀x∈ji2 F c M,x.1<nx/\x.2.At H x.1:=by
 intro x hx;rcases bU.1 hx with hx | hx
 ·exact h.fact hx
 ·obtain⟨y,hy,rfl⟩:=bC.1 hx;have hm:y∈M++(c.Mc++(R++c.O0)):=by
   rcases bU.1 hy with h1 | h1<;>simp[h1]
  exact⟨(h.hk.ent y hm).1,(h.hk.ent y hm).2.2⟩
theorem ConX.ownR (h:ConX B ro e c S tm H nx ν F M R):jxq ν (ji2 F c M) F (X.look e S):=by
 intro b t L cap hl;unfold X.look at hl;split at hl
 ·rename_i y hy;cases hl;obtain⟨M1,E,M2,e1,g1,_⟩:=ja8 (Z3 h.mv h.mcm) hy;refine j81 g1 λx hx=>bU.2 (.inr ?_)
  rw[e1];obtain⟨z,hz,rfl⟩:=bC.1 hx;exact bC.2 ⟨z,by simp[hz],rfl⟩
 ·obtain⟨_,_,h3,_⟩:=h.gl.2 _ _ hl;cases h3
theorem ConX.heads (h:ConX B ro e c S tm H nx ν F M R):jrr ν (X.look e S):=by
 intro b t L cap hl;obtain⟨F',E,⟨h0,h1⟩,_⟩:=h.look hl;rcases h1 with⟨hd,_⟩ | ⟨w,m,_,hd,_⟩
 ·exact⟨h0,_,hd⟩
 ·exact⟨h0,_,hd⟩
theorem kn6 {α:Type} {F':cE} {z:Nat} {P:List α->List AV->Prop} (hAt:∀x∈F',x.1<nx/\x.2.At H x.1) (hnil:∀l,P [] l->l=[]) (hnil':P [] []) {L:List α} {v:AV} (h:sE F' z P L v):
  pH v=some L.length/\∃new,oB z H L.length v=some new/\P L new:=by
 rcases h with⟨rfl,rfl⟩ | ⟨b,o,cap,l,rfl,h1,h2,h3,h4⟩
 ·exact⟨rfl,[],rfl,hnil'⟩
 ·obtain⟨tc,k1,k2⟩:=(hAt _ h1).2;refine⟨rfl,_,?_,h4⟩;simp only[oB,iW,bE,bV,aU,rN,aH,k1,h3,take_at (H:=H) (b:=0) k2 _ _ h3]
def C4 (lm:Nat->Option SB) (t:Ty):SV->Option (List t.den)
 | .str s=>match t with
   | .int .u8=>some (s.map Int.ofNat)
   | _=>none
 | s=>jat lm t s
def joi (lm:Nat->Option SB):SV->Option ((t:Ty)×List t.den)
 | .fz t L=>some ⟨t,L⟩
 | .own b=>match lm b with
   | some (.arr t L cap)=>some ⟨t,L⟩
   | _=>none
 | .view b o n c z=>match lm b with
   | some (.arr t L cap)=>bif z.beq t.size then some ⟨t,(L.drop o).take n⟩ else none
   | _=>none
 | .str s=>some ⟨.int .u8,s.map Int.ofNat⟩
 | _=>none
theorem jwc (F:cE):∀(st:List Nat),eM (cT F (.int .u8)) (st.map Int.ofNat) (st.map λc=>AV.int .u8 (.ofNat c))
 | []=>rfl
 | a::st=>⟨[_],_,rfl,rfl,jwc F st⟩
theorem je6 (h:ConX B ro e c S tm H nx ν F M R) {t:Ty} {s:SV} {x:List t.den} (hd:C4 (look e S) t s=some x) {v:AV} (hv:bO ν F s v):
  pH v=some x.length/\∃new,oB t.size H x.length v=some new/\eM (cT F t) x new:=by
 unfold C4 at hd;split at hd
 ·rename_i s;split at hd<;>try (cases hd;done)
  cases hd;simp only[bO] at hv;subst hv;refine⟨by simp[pH],_,?_,jwc F s⟩;simp[oB,Ty.size,bE]
 ·exact kn6 (P:=eM (cT F t)) h.allAt (λl h=>by simpa[eM] using h) rfl (j3o (λx hx=>bU.2 (.inl hx)) h.ownR hd hv)
theorem jz3 (h:ConX B ro e c S tm H nx ν F M R) {s:SV} {t:Ty} {x:List t.den} (hd:joi (look e S) s=some ⟨t,x⟩) {v:AV} (hv:bO ν F s v):
  pH v=some x.length/\∃new,oB t.size H x.length v=some new/\eM (cT F t) x new:=by
 refine je6 h (s:=s) ?_ hv;unfold joi at hd;unfold C4;split at hd
 ·cases hd;simp only[jat,dite_true]
 ·split at hd<;>try (cases hd;done)
  rename_i hb;cases hd;simp only[jat,hb,dite_true]
 ·split at hd<;>try (cases hd;done)
  rename_i hb;obtain⟨hz,h2⟩:=cF hd;cases h2;simp only[jat,hb,hz,aH,dite_true]
 ·cases hd;rfl
 ·cases hd
def U3 (cap:Option Nat) (n:Nat):Option Nat:=match cap with
 | none=>none
 | some c=>bif n.ble c then some c else none
def gA (n:Nat):Bool:=n.ble 10000000
theorem jkv {n:Nat}:gA n=true↔n<=10000000:=by simp[gA,bE]
def jn1 (e:Env) (S:St) (q:Bool) (z bytes:Nat) (x y:SV):NS:=
 bif bytes.ble 1000&& !(z.beq 0) then(match x with
  | .own b=>match gC S.mv b with
    | some (.arr t L cap)=>bif t.size.beq z&& !q&&fresh e { S with mv:=lL S.mv b } then(match C4 (look e S) t y with
      | some N=>some (some (gA (L.length+N.length)),.own S.nc,tH { S with mv:=lL S.mv b } (.arr t (L++N) (U3 cap (L.length+N.length))))
      | none=>none) else none
    | _=>none
  | .nils=>match joi (look e S) y with
    | some ⟨t,N⟩=>bif t.size.beq z&&fresh e S then some (some (gA N.length),.own S.nc,tH S (.arr t N none)) else none
    | none=>none
  | .emp z'=>match joi (look e S) y with
    | some ⟨t,N⟩=>bif t.size.beq z&&z'.beq z&&fresh e S then some (some (gA N.length&&decide (0<N.length)),.own S.nc,tH S (.arr t N none)) else none
    | none=>none
  | .view b o n (some cp) z'=>match gC S.mv b with
    | some (.arr t L cap)=>bif t.size.beq z&&z'.beq z&&fresh e { S with mv:=lL S.mv b } then(match C4 (look e S) t y with
      | some N=>some (some (gA (n+N.length)&&o.beq 0&&decide (cp<=L.length)&&(decide (cp<n+N.length)||decide (N.length=0))),.own S.nc,tH { S with mv:=lL S.mv b } (.arr t (L.take n++N) none))
      | none=>none) else none
    | _=>none
  | .fz t L=>none
  | _=>none) else none
theorem jdc {call:FuncId->List AV->Tr Blk->Nat->Nat->eQ} {tm:Tr AV} {H:Tr Blk} {nx rr z bytes:Nat} {x y:Opd} {k len:Nat} {new:List AV} (h1:pH (cP tm y)=some k) (h2:pH (cP tm x)=some len) (h3:oB z H k (cP tm y)=some new)
  (h4:len+k<=10000000) (hb:bytes<=1000) (hz:z≠0) (h5:new.all oR=true):hop call rr (cP tm) H nx (.app z bytes x y)=rU z rr H nx (cP tm x) k new:=by
 have e:((len+k).ble 10000000&&bytes.ble 1000&& !(z.beq 0))=true:=by rw[bE,bE,bQ];simp[h4,hb,hz]
 simp only[hop,h1,h2,e,aH,h3,h5]
theorem ki6 {b:Nat} {t:Ty} {L:List t.den} {m:List AV} {cap:Option Nat} {n nx:Nat} (h0:t.size≠0) (hm:eM (cT F t) L m) (hn:n=L.length) (hcap:cap=none):
  jW (ν.upd b (nx,.sl nx 0 n none t.size)) F b (.arr t L cap) [⟨nx,true,.cells m⟩]:=by
 subst hn;subst hcap;have hlen:=rR (gZ t) hm;refine⟨h0,.inr ⟨true,m,by rw[lE],?_,?_,I2 (B6 t) hm⟩⟩
 ·rw[lE];exact .inr ⟨none,m.length,rfl,rfl,by rw[hlen];exact bV _,λ_ h=>(by cases h),λ_ h=>h⟩
 ·rw[<-hlen,iL];exact hm
theorem ConX.ren (h:ConX B ro e c S tm H nx ν F M R) {b:Nat} {sb:SB} (hb:gC S.mv b=some sb) (hf:fresh e { S with mv:=lL S.mv b }=true):
  ∃E,jW ν F b sb E/\(∀x∈E,x.w=true/\rx ro<=x.b/\x.b<nx/\x.c.At H x.b)/\
  (∀x' sb',jW (ν.upd S.nc x') F S.nc sb' E->∃M',ConX B ro e c (tH { S with mv:=lL S.mv b } sb') tm H nx (ν.upd S.nc x') F M' R)/\
  (∀x' blk x y k sb',E=[⟨blk,true,x⟩]->y.At (H.set blk k) blk->jW (ν.upd S.nc x') F S.nc sb' [⟨blk,true,y⟩]->∃M',ConX B ro e c (tH { S with mv:=lL S.mv b } sb') tm (H.set blk k) nx (ν.upd S.nc x') F M' R)/\
  (∀blk x,E=[⟨blk,true,x⟩]->∃M',ConX B ro e c { S with mv:=lL S.mv b } tm (H.del blk) nx ν F M' R)/\∃M',ConX B ro e c { S with mv:=lL S.mv b } tm H nx ν F M' R:=by
 obtain⟨E,h1,h2,_,_,hdel,M',hp,hm,hw⟩:=h.own hb;simp only[fresh,aW,kL,jtx,yS] at hf;obtain⟨⟨⟨f1,f2⟩,f3⟩,f4,f5⟩:=hf;have hn:S.nc<gB:=by
  have:S.nc+1<=gB:=by simpa[Nat.blt] using f1
  omega
 have hk:=h.hk.perm hp;refine⟨E,h1,h2,λx' sb' hsb=>⟨E++M',?_⟩,λx' blk x y k sb' hE hy hsb=>⟨[⟨blk,true,y⟩]++M',?_⟩,hdel,M',hk.sub (qew ..),h.fr,h.ov,hm,hw,h.mc,h.fz,h.gl⟩
 ·refine⟨by simpa using hk,λn v hv=>jnx _ _ (jps f2 hv) (h.fr n v hv),B8 _ _ f3 h.ov,⟨E,M',rfl,hsb,jnl f4 hm⟩,λz hz=>?_,jnk f5 h.mc,h.fz,h.gl.upd hn⟩;rcases bU.1 hz with hz | hz
  ·exact(h2 z hz).1
  ·exact hw z hz
 ·subst hE;have hk2:=hk.upd (O':=⟨blk,true,y⟩::(M'++(c.Mc++(R++c.O0)))) (b:=blk) (c:=x) (c':=y) .here k hy;refine⟨by simpa using hk2,λn v hv=>jnx _ _ (jps f2 hv) (h.fr n v hv),B8 _ _ f3 h.ov,⟨_,M',rfl,hsb,jnl f4 hm⟩,λz hz=>?_,jnk f5 h.mc,h.fz,h.gl.upd hn⟩;rcases bU.1 hz with hz | hz
  ·rw[cD.1 hz]
  ·exact hw z hz
section
variable {g:Opd->Option SV} (hg:∀x s,g x=some s->bO ν F s (cP tm x))
include hg
theorem j9z {call:FuncId->List AV->Tr Blk->Nat->Nat->eQ} {q:Bool} (h:ConX B ro e c S tm H nx ν F M R) {z bytes:Nat} {x y:Opd} {sx sy:SV} (hx:g x=some sx) (hy:g y=some sy) {cc:Option Bool} {s:SV} {S':St}
  (hs:jn1 e S q z bytes sx sy=some (cc,s,S')) (hc:kG cc=true):
  ∃v H' nx' ν' F' M' R',hop call (bif q then nx else ro) (cP tm) H nx (.app z bytes x y)=some (v,H',nx')/\ConX B ro e c S' tm H' nx' ν' F' M' R'/\bO ν' F' s v/\S'.fr=S.fr:=by
 unfold jn1 at hs;obtain⟨hbz,hs2⟩:=cF hs;clear hs;simp only[aW,kL,bQ,aQ,iU,bE] at hbz;obtain⟨hbytes,hz0⟩:=hbz;have vx:=hg _ _ hx;have vy:=hg _ _ hy
 have fin:∀(S0:St) (H1:Tr Blk) (M1:List Ent),ConX B ro e c S0 tm H1 nx ν F M1 R->fresh e S0=true->S0.fr=S.fr->∀(t:Ty),t.size≠0->∀(L:List t.den) (m:List AV) (n:Nat) (cap:Option Nat),eM (cT F t) L m->n=L.length->cap=none->
   ∃ν' F' M' R',ConX B ro e c (tH S0 (.arr t L cap)) tm (H1.set nx (.cells (put m 0 .e) m.length)) (nx+1) ν' F' M' R'/\bO ν' F' (.own S0.nc) (.sl nx 0 n none t.size)/\(tH S0 (.arr t L cap)).fr=S.fr:=by
  intro S0 H1 M1 hC hf hfr t h0 L m n cap hm hn hcap;refine⟨_,F,_,R,hC.newc (hdr:=.sl nx 0 n none t.size) hf (ki6 h0 hm hn hcap),?_,hfr⟩;simp only[bO,lE];exact⟨trivial,rfl⟩
 split at hs2<;>try (cases hs2;done)
 ·
  rename_i b;split at hs2<;>try (cases hs2;done)
  rename_i t L cap hb;obtain⟨hb2,hs3⟩:=cF hs2;simp only[aW,kL,bQ,aQ] at hb2;obtain⟨⟨rfl,rfl⟩,hf⟩:=hb2;split at hs3<;>try (cases hs3;done)
  rename_i N hN;cases hs3;simp only[kG,jkv,aQ] at hc;obtain⟨y1,new,y2,y3⟩:=je6 h hN vy;have hnew:=rR (gZ t) y3;have hone:=I2 (B6 t) y3;obtain⟨E,⟨h0,hE⟩,hp,hkeep,hupd,hdel,Md,hdrop⟩:=h.ren hb hf;obtain⟨vx1,hslv⟩:=vx;have e5:N.length≠0->N.length.beq 0=false:=λhk=>by rw[bQ];simpa using hk
  rcases hE with⟨hd,rfl⟩ | ⟨w,m,rfl,hd,hm,ha⟩
  ·rcases hd with⟨e1,_,e2,e3⟩ | ⟨_,_,_,e1,_⟩
   ·have eL:L=[]:=tJ e2;subst eL;rw[e1] at vx1;have e4:=jdc (call:=call) (nx:=nx) (rr:=bif false then nx else ro) (x:=x) (y:=y) y1 (by rw[vx1];rfl:pH (cP tm x)=some 0) y2 (by simpa using hc) hbytes hz0 hone;by_cases hk:N.length=0
    ·have eN:N=[]:=tJ hk;subst eN;obtain⟨M',hC⟩:=hkeep (nx,.nils) (.arr t ([]++[]) (U3 cap (([]:List t.den).length+ ([]:List t.den).length))) ⟨h0,.inl ⟨by
      rw[lE];refine .inl ⟨rfl,rfl,rfl,?_⟩;rcases e3 with rfl | rfl
      ·exact .inl rfl
      ·exact .inr rfl,rfl⟩⟩
     refine⟨.nils,H,nx,_,_,M',_,by rw[e4,vx1];rfl,hC,?_,rfl⟩;simp only[bO,lE];exact⟨trivial,rfl⟩
    ·obtain⟨ν',F',M',R',k1,k2,k3⟩:=fin _ H _ hdrop hf rfl t h0 ([]++N) new N.length (U3 cap (([]:List t.den).length+N.length)) y3 (by simp) (by
      rcases e3 with rfl | rfl
      ·rfl
      ·simp only[U3,iD,mV,bE,Nat.le_zero,hk,aT,aJ])
     refine⟨_,_,_,ν',F',M',R',?_,k1,k2,k3⟩;rw[e4,vx1];simp only[rU,e5 hk,aJ,oS]
   ·cases e1
  ·obtain⟨_,p1,p2,p3⟩:=hp _ (cD.2 rfl);have hd0:=hd;rcases hd with⟨_,e1,_⟩ | ⟨c',n',e1,e2,hle,h3,h4⟩
   ·cases e1
   ·cases e2;rw[e1] at vx1;have e4:=jdc (call:=call) (nx:=nx) (rr:=bif false then nx else ro) (x:=x) (y:=y) y1 (by rw[vx1];rfl:pH (cP tm x)=some L.length) y2 hc hbytes hz0 hone;obtain⟨tc,p4,p5⟩:=p3;simp only at p1 p2 p4 p5;by_cases hk:N.length=0
    ·have eN:N=[]:=tJ hk;subst eN;obtain⟨M',hC⟩:=hkeep (ν b) (.arr t (L++[]) (U3 cap (L.length+ ([]:List t.den).length))) ⟨h0,.inr ⟨w,m,by rw[lE],by
      rw[lE,kO];refine .inr ⟨c',m.length,e1,rfl,hle,h3,λy hy=>?_⟩;cases cap with
      | none=>cases hy
      | some cp=>
        have h5:=h4 cp rfl;have h6:=(h3 cp h5).2;simp only[U3,iD,nX,bE,h6,aU,aH] at hy;rw[<-hy];exact h5,by rw[kO];exact hm,ha⟩⟩
     refine⟨.sl (ν b).1 0 L.length c' t.size,H,nx,_,_,M',_,?_,hC,?_,rfl⟩
     ·rw[e4,vx1];simp only[rU,iW,fS,aJ,iD,aH]
     ·simp only[bO,lE,e1];exact⟨trivial,rfl⟩
    ·have hN0:0<N.length*t.size:=Nat.mul_pos (by omega) (by omega);have hadd:(L.length+N.length)*t.size=L.length*t.size+N.length*t.size:=mQ ..;by_cases hfit:(∃cp,c'=some cp/\L.length+N.length<=cp)\/(c'=none/\(L.length+N.length)*t.size<=m.length)
     ·have h7:(L.length+N.length)*t.size<=m.length:=by
       rcases hfit with⟨cp,rfl,hcp⟩ | ⟨_,h⟩
       ·exact gE (oT _ hcp) (h3 cp rfl).1
       ·exact h
      have hat:=jnh (H:=H) (b:=(ν b).1) (new:=new) (o:=L.length*t.size) p5 (by omega);have hsl:(jV m (L.length*t.size) new).length=m.length:=jhi (by omega);obtain⟨M',hC⟩:=hupd ((ν b).1,.sl (ν b).1 0 (L.length+N.length) c' t.size) (ν b).1 (.cells m) _ _ (.arr t (L++N) (U3 cap (L.length+N.length))) (by rw[show w=true from(hp _ (cD.2 rfl)).1]) hat ⟨h0,.inr ⟨true,_,by rw[lE],by
       rw[lE,hsl];refine .inr ⟨c',m.length,by simp,rfl,by rw[cZ];omega,λy hy=>?_,λy hy=>?_⟩
       ·refine⟨(h3 y hy).1,?_⟩;rcases hfit with⟨cp,h8,hcp⟩ | ⟨h8,_⟩
        ·rw[h8] at hy;cases hy;rw[cZ];exact hcp
        ·rw[h8] at hy;cases hy
       ·cases cap with
        | none=>cases hy
        | some c2=>
          have h8:=h4 c2 rfl;unfold U3 at hy;simp only at hy;obtain⟨_,hy⟩:=cF hy;rw[h8];exact hy,by
       rw[cZ,hadd];have e9:(jV m (L.length*t.size) new).take (L.length*t.size+N.length*t.size)=m.take (L.length*t.size)++new:=by
        rw[jV,<-dX,List.take_left' (by rw[cZ,nM,hnew];omega)]
       rw[e9];exact U2 hm y3,jsh ha hone⟩⟩
      refine⟨.sl (ν b).1 0 (L.length+N.length) c' t.size,_,nx,_,_,M',_,?_,hC,?_,rfl⟩
      ·have g2:((rx ro).ble (ν b).1&&((L.length+N.length)*t.size).ble m.length)=true:=by
        rw[bE,bE];simp;exact⟨p1,by omega⟩
       rw[e4,vx1];simp only[rU,iW,fS,aJ,e5 hk,p4,aH,rY,sR,mV];rcases hfit with⟨cp,h8,hcp⟩ | ⟨h8,h⟩
       ·simp only[h8,bE,hcp,aU,aH,rN,p1];rw[bE,bE] at g2;simp only[g2,aH,p1,h7,aU,rN,rY,sR]
       ·simp only[h8,bE,h,aU,aH,rN,p1,rY,sR]
      ·simp only[bO,lE];exact⟨trivial,rfl⟩
     ·have hcapn:U3 cap (L.length+N.length)=none:=by
       cases cap with
       | none=>rfl
       | some c2=>
         have h8:=h4 c2 rfl;have:¬(L.length+N.length<=c2):=λh=>hfit (.inl ⟨c2,h8,h⟩)
         simp only[U3,bE,this,aT,aJ]
      have e2':oB t.size H L.length (.sl (ν b).1 0 L.length c' t.size)=some (m.take (L.length*t.size)):=by
       have:0+L.length*t.size<=m.length:=by omega
       simp only[oB,iW,bE,bV,aU,rN,aH,p4,this,take_at (H:=H) (b:=0) p5 _ _ this,fW]
      cases c' with
      | none=>
        obtain⟨Mz,hC⟩:=hdel (ν b).1 _ (by rw[show w=true from(hp _ (cD.2 rfl)).1]);obtain⟨ν',F',M',R',k1,k2,k3⟩:=fin _ _ _ hC hf rfl t h0 (L++N) (m.take (L.length*t.size)++new) (L.length+N.length) _ (U2 hm y3) (by simp) hcapn;refine⟨_,_,_,ν',F',M',R',?_,k1,k2,k3⟩;have g1:(0+ (L.length+N.length)*t.size).ble m.length=false:=by
         have:¬((L.length+N.length)*t.size<=m.length):=λh=>hfit (.inr ⟨rfl,h⟩)
         rw[bE,mV];simpa using this
        have g2:(rx ro).ble (ν b).1=true:=by rw[bE];simpa using p1
        rw[e4,vx1];simp only[rU,iW,fS,aJ,e5 hk,p4,g1,g2,aH,Tr.delK_eq,oS,e2']
      | some cp=>
        obtain⟨ν',F',M',R',k1,k2,k3⟩:=fin _ _ _ hdrop hf rfl t h0 (L++N) (m.take (L.length*t.size)++new) (L.length+N.length) _ (U2 hm y3) (by simp) hcapn;refine⟨_,_,_,ν',F',M',R',?_,k1,k2,k3⟩;have g1:(L.length+N.length).ble cp=false:=by
         have:¬(L.length+N.length<=cp):=λh=>hfit (.inl ⟨cp,rfl,h⟩)
         rw[bE];simpa using this
        rw[e4,vx1];simp only[rU,iW,fS,aJ,e5 hk,p4,g1,oS,e2']
 ·
  split at hs2<;>try (cases hs2;done)
  rename_i t N hN;obtain⟨hb2,hs3⟩:=cF hs2;simp only[aW,bQ,aQ] at hb2;obtain⟨rfl,hf⟩:=hb2;cases hs3;simp only[kG,jkv,aQ] at hc;obtain⟨y1,new,y2,y3⟩:=jz3 h hN vy;have hone:=I2 (B6 t) y3;simp only[bO] at vx;have e4:=jdc (call:=call) (nx:=nx) (rr:=bif q then nx else ro) (x:=x) (y:=y) y1 (by rw[vx];rfl:pH (cP tm x)=some 0) y2 (by simpa using hc) hbytes hz0 hone;by_cases hk:N.length=0
  ·have eN:N=[]:=tJ hk;subst eN;have hC:=h.name hf (nx,.nils);refine⟨.nils,H,nx,_,_,M,_,by rw[e4,vx];rfl,⟨hC.hk,hC.fr,hC.ov,⟨[],M,rfl,⟨hz0,.inl ⟨by rw[lE];exact .inl ⟨rfl,rfl,rfl,.inl rfl⟩,rfl⟩⟩,hC.mv⟩,hC.wr,hC.mc,hC.fz,hC.gl⟩,?_,rfl⟩;simp only[bO,lE];exact⟨trivial,rfl⟩
  ·obtain⟨ν',F',M',R',k1,k2,k3⟩:=fin _ H _ h hf rfl t hz0 N new N.length none y3 rfl rfl;refine⟨_,_,_,ν',F',M',R',?_,k1,k2,k3⟩;have e5:N.length.beq 0=false:=by rw[bQ];simpa using hk
   rw[e4,vx];simp only[rU,e5,aJ,oS]
 ·
  rename_i z';split at hs2<;>try (cases hs2;done)
  rename_i t N hN;obtain⟨hb2,hs3⟩:=cF hs2;simp only[aW,bQ,aQ] at hb2;obtain⟨⟨rfl,rfl⟩,hf⟩:=hb2;cases hs3;simp only[kG,jkv,aW,aQ] at hc;obtain⟨hc,hk⟩:=hc;obtain⟨y1,new,y2,y3⟩:=jz3 h hN vy;have hone:=I2 (B6 t) y3;obtain⟨ν',F',M',R',k1,k2,k3⟩:=fin _ H _ h hf rfl t hz0 N new N.length none y3 rfl rfl;have e5:N.length.beq 0=false:=by rw[bQ];simp;intro h;rw[h] at hk;simp at hk
  rcases vx with vx | ⟨b,o,l,vx,hF,ho⟩
  ·have e4:=jdc (call:=call) (nx:=nx) (rr:=bif q then nx else ro) (x:=x) (y:=y) y1 (by rw[vx];rfl:pH (cP tm x)=some 0) y2 (by simpa using hc) hbytes hz0 hone;refine⟨_,_,_,ν',F',M',R',?_,k1,k2,k3⟩;rw[e4,vx];simp only[rU,e5,aJ,oS]
  ·have e4:=jdc (call:=call) (nx:=nx) (rr:=bif q then nx else ro) (x:=x) (y:=y) y1 (by rw[vx];rfl:pH (cP tm x)=some 0) y2 (by simpa using hc) hbytes hz0 hone;refine⟨_,_,_,ν',F',M',R',?_,k1,k2,k3⟩;obtain⟨tc,p4,p5⟩:=(h.fact hF).2;have g1:N.length.ble 0=false:=by rw[bE];simp;intro h;rw[h] at hk;simp at hk
   have g3:(o+0*t.size).ble l.length=true:=by rw[bE];simpa using ho
   have e2:oB t.size H 0 (.sl b o 0 (some 0) t.size)=some []:=by
    have g4:Nat.ble 0 0=true:=rfl;simp only[oB,iW,g4,rN,aH,p4,g3];rw[P0];rfl
   rw[e4,vx];simp only[rU,iW,fS,aJ,e5,p4,g1,e2,oS,fB,mV]
 ·
  rename_i b o n cp z';split at hs2<;>try (cases hs2;done)
  rename_i t L cap hb;obtain⟨hb2,hs3⟩:=cF hs2;simp only[aW,bQ,aQ] at hb2;obtain⟨⟨rfl,rfl⟩,hf⟩:=hb2;split at hs3<;>try (cases hs3;done)
  rename_i N hN;cases hs3;simp only[kG,jkv,aW,pC,bQ,aQ] at hc;obtain⟨⟨⟨hc,rfl⟩,hcp⟩,hfull⟩:=hc;obtain⟨y1,new,y2,y3⟩:=je6 h hN vy;have hone:=I2 (B6 t) y3;obtain⟨E,⟨h0,hE⟩,hp,hkeep,hupd,hdel,Md,hdrop⟩:=h.ren hb hf;have e5:N.length≠0->N.length.beq 0=false:=λhk=>by rw[bQ];simpa using hk
  rcases vx with⟨vx,rfl,_⟩ | ⟨c',vx,v1,v2,len,cap',v3,v4,_⟩
  ·have e4:=jdc (call:=call) (nx:=nx) (rr:=bif q then nx else ro) (x:=x) (y:=y) y1 (by rw[vx];rfl:pH (cP tm x)=some 0) y2 (by simpa using hc) hbytes hz0 hone;by_cases hk:N.length=0
   ·have eN:N=[]:=tJ hk;subst eN;have hC:=hdrop.name (S:={ S with mv:=lL S.mv b }) hf (nx,.nils);refine⟨.nils,H,nx,_,_,Md,_,by rw[e4,vx];rfl,⟨hC.hk,hC.fr,hC.ov,⟨[],Md,rfl,⟨hz0,.inl ⟨by rw[lE];exact .inl ⟨rfl,rfl,by simp,.inl rfl⟩,rfl⟩⟩,hC.mv⟩,hC.wr,hC.mc,hC.fz,hC.gl⟩,?_,rfl⟩;simp only[bO,lE];exact⟨trivial,rfl⟩
   ·obtain⟨ν',F',M',R',k1,k2,k3⟩:=fin _ H _ hdrop hf rfl t h0 (L.take 0++N) new N.length none y3 (by simp) rfl;refine⟨_,_,_,ν',F',M',R',?_,k1,k2,k3⟩;rw[e4,vx];simp only[rU,e5 hk,aJ,oS]
  ·have hcap:=v1 cp rfl;subst hcap;rw[P0] at vx;have e4:=jdc (call:=call) (nx:=nx) (rr:=bif q then nx else ro) (x:=x) (y:=y) y1 (by rw[vx];rfl:pH (cP tm x)=some n) y2 hc hbytes hz0 hone;rcases hE with⟨hd,rfl⟩ | ⟨w,m,rfl,hd,hm,ha⟩
   ·rcases hd with⟨e1,_⟩ | ⟨_,_,_,e1,_⟩
    ·rw[v3] at e1;cases e1
    ·cases e1
   ·rcases hd with⟨e1,_⟩ | ⟨c',n',e1,e2,hle,h3,h4⟩
    ·rw[v3] at e1;cases e1
    ·cases e2;rw[v3] at e1;cases e1;have hnL:n<=L.length:=by omega
     have hnz:n*t.size<=L.length*t.size:=oT _ hnL;have hmt:eM (cT F t) (L.take n) (m.take (n*t.size)):=by
      have:=Z5 (gZ t) n hm;rw[P1,m5 hnz] at this;exact this
     have hlt:(L.take n).length=n:=by simp;omega
     by_cases hk:N.length=0
     ·have eN:N=[]:=tJ hk;subst eN;have hcpz:cp*t.size<=L.length*t.size:=oT _ hcp;obtain⟨M',hC⟩:=hkeep ((ν b).1,.sl (ν b).1 0 n (some cp) t.size) (.arr t (L.take n++[]) none) ⟨h0,.inr ⟨w,m,by rw[lE],by
       rw[lE,kO,hlt];refine .inr ⟨some cp,m.length,rfl,rfl,by omega,λy hy=>?_,λy hy=>(by cases hy)⟩;cases hy;exact⟨by omega,v2 cp rfl⟩,by rw[kO,hlt];exact hmt,ha⟩⟩
      refine⟨.sl (ν b).1 0 n (some cp) t.size,H,nx,_,_,M',_,?_,hC,?_,rfl⟩
      ·rw[e4,vx];simp only[rU,iW,fS,aJ,iD,aH]
      ·simp only[bO,lE];exact⟨trivial,rfl⟩
     ·obtain⟨ν',F',M',R',k1,k2,k3⟩:=fin _ H _ hdrop hf rfl t h0 (L.take n++N) (m.take (n*t.size)++new) (n+N.length) none (U2 hmt y3) (by rw[cZ,hlt]) rfl;refine⟨_,_,_,ν',F',M',R',?_,k1,k2,k3⟩;obtain⟨tc,p4,p5⟩:=(hp _ (cD.2 rfl)).2.2.2;simp only at p4 p5;have g1:(n+N.length).ble cp=false:=by
       rw[bE];simp;omega
      have e2':oB t.size H n (.sl (ν b).1 0 n (some cp) t.size)=some (m.take (n*t.size)):=by
       have:0+n*t.size<=m.length:=by omega
       simp only[oB,iW,bE,bV,aU,rN,aH,p4,this,take_at (H:=H) (b:=0) p5 _ _ this,fW]
      rw[e4,vx];simp only[rU,iW,fS,aJ,e5 hk,p4,g1,oS,e2']
end
end X
end Go.Vm
