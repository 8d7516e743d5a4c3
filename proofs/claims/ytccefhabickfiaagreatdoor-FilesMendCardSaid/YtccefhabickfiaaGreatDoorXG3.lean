/- Parts of the proof. -/
import Derived.Test.YtccefhabickfiaaGreatDoorXG2
set_option linter.unusedSimpArgs false
set_option linter.defProp false
set_option linter.unusedVariables false
namespace Go.Vm
namespace X
open W
variable {B:Base} {ro:Nat} {e:Env} {c:Cnv} {S:St} {tm:Tr AV} {H:Tr Blk} {nx:Nat} {ν:Nm} {F:aQ} {M R:List Ent}
def fresh (e:Env) (S:St):Bool:=Nat.blt S.nc gB&& !(Qv S.nc (S.fr++e.ct))&& !(SV.hasL S.nc e.ov)&& !(tP S.nc (S.mv++e.mc))
def kT (S:St) (sb:SB):St:={ S with mv:=(S.nc,sb)::S.mv,nc:=S.nc+1 }
def jal {n:Nat}:∀ {m m':bE},tP n (m++m')=(tP n m||tP n m')
 | [],m'=>rfl
 | (b,sb)::m,m'=>by simp only[eW,tP,jal,Bool.or_assoc]
def ConX.name (h:ConX B ro e c S tm H nx ν F M R) (hf:fresh e S=true) (x:Nat×AV):ConX B ro e c S tm H nx (ν.upd S.nc x) F M R:=by
 simp only[fresh,aN,fB,jal,nK] at hf;obtain⟨⟨⟨h1,h2⟩,h3⟩,h4,h5⟩:=hf;have hn:S.nc<gB:=by
  have:S.nc+1<=gB:=by simpa[Nat.blt] using h1
  omega
 exact⟨h.hk,λn v hv=>Pd _ _ (Ru h2 hv) (h.fr n v hv),qE _ _ h3 h.ov,Oo h4 h.mv,h.wr,On h5 h.mc,h.fz,h.gl.upd hn⟩
def ConX.newc (h:ConX B ro e c S tm H nx ν F M R) (hf:fresh e S=true) {l:List AV} {hdr:AV} {sb:SB} (hb:dR (ν.upd S.nc (nx,hdr)) F S.nc sb [⟨nx,true,.cells l⟩]):
  ConX B ro e c (kT S sb) tm (H.set nx (.cells (put l 0 .e) l.length)) (nx+1) (ν.upd S.nc (nx,hdr)) F (⟨nx,true,.cells l⟩::M) R:=by
 have h':=h.name hf (nx,hdr);exact⟨h.hk.cells l,h'.fr,h'.ov,⟨_,M,rfl,hb,h'.mv⟩,λx hx=>by rcases bL.1 hx with rfl | hx;rfl;exact h.wr x hx,h'.mc,h.fz,h'.gl⟩
def Upd.mid (b:Nat) (x y:HB) (Y:List Ent):∀(A:List Ent),Upd (A++⟨b,true,x⟩::Y) b x y (A++⟨b,true,y⟩::Y)
 | []=>.here
 | a::A=>.there (Upd.mid b x y Y A)
def Del.mid (b:Nat) (x:HB) (Y:List Ent):∀(A:List Ent),Del (A++⟨b,true,x⟩::Y) b x (A++Y)
 | []=>.here
 | a::A=>.there (Del.mid b x Y A)
def lW (E:List Ent):aQ:=E.map λx=>(x.b,x.c)
def jjl {E:List Ent}:∀x∈lW E,Has E x.1 x.2:=by
 intro x hx;obtain⟨y,hy,rfl⟩:=bU.1 hx;exact Has.of_mem (w:=y.w) hy
def ConX.own (h:ConX B ro e c S tm H nx ν F M R) {b:Nat} {sb:SB} (hb:cL S.mv b=some sb):
  ∃E,dR ν F b sb E/\(∀x∈E,x.w=true/\rx ro<=x.b/\x.b<nx/\x.c.At H x.b)/\
  (∀blk x y k sb',E=[⟨blk,true,x⟩]->y.At (H.set blk k) blk->dR ν F b sb' [⟨blk,true,y⟩]->∃M',ConX B ro e c { S with mv:=mG S.mv b sb' } tm (H.set blk k) nx ν F M' R)/\
  (∃M',ConX B ro e c { S with mv:=eM S.mv b } tm H nx ν (lW E++F) M' (E++R))/\
  (∀blk x,E=[⟨blk,true,x⟩]->∃M',ConX B ro e c { S with mv:=eM S.mv b } tm (H.del blk) nx ν F M' R)/\
  (∃M',(E++(M'++(c.Mc++(R++c.O0)))).Perm (M++(c.Mc++(R++c.O0)))/\gN ν F (eM S.mv b) M'/\∀x∈M',x.w=true):=by
 obtain⟨M1,E,M2,e1,g1,g2,g3⟩:=wM h.mv hb;have hE:∀x∈E,x∈M:=λx hx=>by rw[e1];simp[hx]
 have hk:=h.hk;rw[e1] at hk;have wr:∀x∈M1++M2,x.w=true:=λx hx=>h.wr x (by rw[e1];rcases aZ.1 hx with h1 | h1<;>simp[h1])
 refine⟨E,g1,λx hx=>?_,λblk x y k sb' hEe hy hsb=>?_,?_,λblk x hEe=>?_,M1++M2,?_,g3,wr⟩
 ·have hx':=hE x hx;have:=h.hk.ent x (aZ.2 (.inl hx'));exact⟨h.wr x hx',this.2.1 (h.wr x hx'),this.1,this.2.2⟩
 ·subst hEe;refine⟨M1++([⟨blk,true,y⟩]++M2),?_,h.fr,h.ov,g2 sb' _ hsb,λz hz=>?_,h.mc,h.fz,h.gl⟩
  ·have:=hk.upd (O':=M1++⟨blk,true,y⟩::(M2++(c.Mc++(R++c.O0)))) (b:=blk) (c:=x) (c':=y) (by simpa using Upd.mid blk x y _ M1) k hy;simpa using this
  ·simp only[aZ,bF] at hz;rcases hz with hz | rfl | hz
   ·exact wr z (by simp[hz])
   ·rfl
   ·exact wr z (by simp[hz])
 ·refine⟨M1++M2,hk.perm ?_,λn v hv=>nW (λy hy=>aZ.2 (.inr hy)) _ _ (h.fr n v hv),jT (λy hy=>aZ.2 (.inr hy)) _ _ h.ov,zD (λy hy=>aZ.2 (.inr hy)) g3,wr,
   zC (λy hy=>aZ.2 (.inr hy)) h.mc,λx hx=>?_,h.gl⟩
  ·simp only[cD];refine dW M1 ?_;have p1:(M2++(c.Mc++(E++(R++c.O0)))).Perm (M2++(E++(c.Mc++(R++c.O0)))):=by
    refine dW M2 ?_;rw[<-cD,<-cD E];exact vP _ Bb
   refine p1.trans ?_;rw[<-cD,<-cD E];exact vP _ Bb
  ·rcases aZ.1 hx with h1 | h1
   ·exact .inl (by rw[cD];exact Has.append_left (jjl x h1))
   ·rcases h.fz x h1 with h2 | h2
    ·exact .inl (by rw[cD];exact Has.append_right h2)
    ·exact .inr h2
 ·subst hEe;refine⟨M1++M2,?_,h.fr,h.ov,g3,wr,h.mc,h.fz,h.gl⟩;have:=hk.del (O':=M1++(M2++(c.Mc++(R++c.O0)))) (b:=blk) (c:=x) (by simpa using Del.mid blk x _ M1);simpa using this
 ·rw[e1];simp only[cD];rw[<-cD E,<-cD M1];exact vP _ Bb
def vL (lm:Nat->Option SB) (t:Ty):SV->Option (List t.den)
 | .fz t' L=>if h:t'=t then some (h▸L) else none
 | .fzn t' L=>if h:t'=t then some (h▸L) else none
 | .fzx t' L=>if h:t'=t then some (h▸L) else none
 | .own b=>match lm b with
   | some (.arr t' L cap)=>if h:t'=t then some (h▸L) else none
   | _=>none
 | .view b o n c z=>match lm b with
   | some (.arr t' L cap)=>bif z.beq t.size then(if h:t'=t then some (((h▸L:List t.den).drop o).take n) else none) else none
   | _=>none
 | .nils=>some []
 | .emp z=>bif z.beq t.size then some [] else none
 | _=>none
def jck (t:Ty):SV->Option (List t.den)
 | .fzx t' L=>if h:t'=t then some (h▸L) else none
 | .nils=>some []
 | _=>none
def Fi {α:Type} (f:List SV->Option α) (z:Nat):Nat->List SV->Option (List α)
 | 0,l=>match l with
   | []=>some []
   | _::_=>none
 | n+1,l=>match f (l.take z),Fi f z n (l.drop z) with
   | some x,some r=>some (x::r)
   | _,_=>none
def jE (lm:Nat->Option SB):(t:Ty)->List SV->Option t.den
 | .int k,l=>match l with
   | [.int k' n]=>bif jO k' k then some n else none
   | _=>none
 | .bool,l=>match l with
   | [s]=>zR s
   | _=>none
 | .str,l=>match l with
   | [.str s]=>some s
   | _=>none
 | .unit,l=>match l with
   | []=>some ()
   | _=>none
 | .prod a b,l=>match jE lm a (l.take a.size),jE lm b (l.drop a.size) with
   | some x,some y=>some (x,y)
   | _,_=>none
 | .arr n t,l=>Fi (jE lm t) t.size n l
 | .sl t,l=>match l with
   | [s]=>bif t.size.beq 0 then none else vL lm t s
   | _=>none
 | .slx t,l=>match l with
   | [s]=>bif t.size.beq 0 then none else jck t s
   | _=>none
def As (lm:Nat->Option SB) (t:Ty) (s:SV):Option t.den:=match t with
 | .arr n t=>match s with
   | .ag n' t' L=>bif n'.beq n then(if h:t'=t then some (h▸L) else none) else none
   | .agg l=>jE lm (.arr n t) l
   | _=>none
 | .prod a b=>match s with
   | .agg l=>jE lm (.prod a b) l
   | _=>none
 | .unit=>match s with
   | .agg l=>jE lm .unit l
   | _=>none
 | t=>jE lm t [s]
def zF (ν:Nm) (F:aQ) (lm:Nat->Option SB):Prop:=∀b t L cap,lm b=some (.arr t L cap)->jU F t.size (bO (aX F t)) (L:List t.den) (ν b).2/\
 ∀o len cp,(ν b).2=.sl (ν b).1 o len cp t.size->len=List.length (α:=t.den) L
variable {lm:Nat->Option SB}
def Xz {α:Type} {z:Nat} {P:α->List AV->Prop} (hP:∀x l,P x l->l.length=z) {L:List α} {b len:Nat} {cp:Option Nat} (h:jU F z (bO P) L (.sl b 0 len cp z)) {o n:Nat} {c':Option Nat} (hle:o+n<=L.length) (hc:∀m,c'=some m->n<=m):
  jU F z (bO P) ((L.drop o).take n) (.sl b (o*z) n c' z):=by
 rcases h with⟨_,h⟩ | ⟨b',o',cap,l,h1,h2,h3,h4,h5⟩
 ·cases h
 ·cases h1;have hlen:((L.drop o).take n).length=n:=by simp;omega
  refine .inr ⟨b,o*z,c',l,by rw[hlen],h2,by rw[hlen];exact hc,?_,?_⟩
  ·rw[hlen];have:o*z+n*z<=L.length*z:=by rw[<-fU];exact iB _ hle
   omega
  ·rw[hlen];have h1:=uM hP n (Ic hP o h5);have e:List.take (n*z) (List.drop (o*z) (List.take (L.length*z) (List.drop 0 l)))=List.take (n*z) (List.drop (o*z) l):=by
    rw[fZ,yO,sU,oL];have:n*z+o*z<=L.length*z:=by rw[<-fU];exact iB _ (by omega)
    omega
   rw[e] at h1;exact h1
def j4x (ho:zF ν F lm) {t:Ty} {s:SV} {x:List t.den} (h:vL lm t s=some x) {v:AV} (hv:aJ ν F s v):jU F t.size (bO (aX F t)) x v:=by
 unfold vL at h;split at h<;>try (cases h;done)
 ·rename_i t' L;split at h<;>try (cases h;done)
  rename_i e;subst e;cases h;exact hv.2
 ·rename_i t' L;split at h<;>try (cases h;done)
  rename_i e;subst e;cases h;exact .inr hv.2
 ·rename_i t' L;split at h<;>try (cases h;done)
  rename_i e;subst e;cases h;exact hv.2.sl
 ·rename_i b;split at h<;>try (cases h;done)
  rename_i t' L cap hb;split at h<;>try (cases h;done)
  rename_i e;subst e;cases h;obtain⟨rfl,_⟩:=hv;exact(ho _ _ _ _ hb).1
 ·rename_i b o n cp z;split at h<;>try (cases h;done)
  rename_i t' L cap hb;obtain⟨hz,h2⟩:=aR h;rw[aL,aH] at hz;split at h2<;>try (cases h2;done)
  rename_i e;subst e;subst hz;cases h2;obtain⟨k1,k2⟩:=ho _ _ _ _ hb;rcases hv with⟨rfl,rfl,_⟩ | ⟨c',rfl,h1,h3,len,cp',e,h5,_⟩
  ·exact .inl ⟨by simp,rfl⟩
  ·rw[e] at k1;exact Xz (cV t') k1 (by have:=k2 _ _ _ e;omega) h3
 ·cases h;simp only[aJ] at hv;exact .inl ⟨rfl,hv⟩
 ·rename_i z;obtain⟨hz,h2⟩:=aR h;rw[aL,aH] at hz;subst hz;cases h2;rcases hv with rfl | ⟨b,o,l,rfl,h1,h2⟩
  ·exact .inl ⟨rfl,rfl⟩
  ·exact .inr ⟨b,o,some 0,l,rfl,h1,λ_ _=>fM _,by simpa using h2,by simp[bO]⟩
def j4y {t:Ty} {s:SV} {x:List t.den} (h:jck t s=some x) {v:AV} (hv:aJ ν F s v):SlX F t.size (bO (aX F t)) x v:=by
 unfold jck at h;split at h<;>try (cases h;done)
 ·split at h<;>try (cases h;done)
  rename_i e;subst e;cases h;exact hv.2
 ·cases h;simp only[aJ] at hv;exact .inl ⟨rfl,hv⟩
def jci {α:Type} {P:α->List AV->Prop} {f:List SV->Option α} {z:Nat} (hf:∀l m x,f l=some x->bC ν F l m->P x m):∀ {n:Nat} {l:List SV} {x:List α} {m:List AV},Fi f z n l=some x->bC ν F l m->x.length=n/\bO P x m
 | 0,l,x,m,h,hm=>by
   simp only[Fi] at h;split at h<;>cases h
   exact⟨rfl,hm⟩
 | n+1,l,x,m,h,hm=>by
   simp only[Fi] at h;split at h<;>cases h
   rename_i y r h1 h2;obtain⟨k1,k2⟩:=jci hf h2 (nY z hm);exact⟨by simp[k1],m.take z,m.drop z,by rw[Bi],hf _ _ _ h1 (oX z hm),k2⟩
def lL (ho:zF ν F lm):∀(t:Ty) {l:List SV} {x:t.den} {m:List AV},jE lm t l=some x->bC ν F l m->aX F t x m
 | .int k,l,x,m,h,hm=>by
   simp only[jE] at h;split at h<;>try (cases h;done)
   obtain⟨hk,h2⟩:=aR h;rw[pH] at hk;subst hk;cases h2;obtain⟨v,_,rfl,h1,rfl⟩:=hm;simp only[aJ] at h1;rw[h1];rfl
 | .bool,l,x,m,h,hm=>by
   simp only[jE] at h;split at h<;>try (cases h;done)
   obtain⟨v,_,rfl,h1,rfl⟩:=hm;rw[Ip h h1];rfl
 | .str,l,x,m,h,hm=>by
   simp only[jE] at h;split at h<;>try (cases h;done)
   cases h;obtain⟨v,_,rfl,h1,rfl⟩:=hm;simp only[aJ] at h1;rw[h1];rfl
 | .unit,l,x,m,h,hm=>by
   simp only[jE] at h;split at h<;>try (cases h;done)
   exact hm
 | .prod a b,l,x,m,h,hm=>by
   simp only[jE] at h;split at h<;>try (cases h;done)
   rename_i y z h1 h2;cases h;exact⟨m.take a.size,m.drop a.size,by rw[Bi],lL ho a h1 (oX _ hm),lL ho b h2 (nY _ hm)⟩
 | .arr n t,l,x,m,h,hm=>jci (λl m x h k=>lL ho t h k) h hm
 | .sl t,l,x,m,h,hm=>by
   simp only[jE] at h;split at h<;>try (cases h;done)
   obtain⟨hz,h2⟩:=tU h;obtain⟨v,_,rfl,h1,rfl⟩:=hm;exact⟨v,rfl,j4x ho h2 h1⟩
 | .slx t,l,x,m,h,hm=>by
   simp only[jE] at h;split at h<;>try (cases h;done)
   obtain⟨hz,h2⟩:=tU h;obtain⟨v,_,rfl,h1,rfl⟩:=hm;exact⟨v,rfl,j4y h2 h1⟩
def Kx (ho:zF ν F lm) {t:Ty} {s:SV} {x:t.den} (h:As lm t s=some x) {v:AV} (hv:aJ ν F s v):Rel F t x v:=by
 cases t<;>simp only[As] at h
 case arr n t=>
  split at h<;>try (cases h;done)
  ·rename_i n' t' L;obtain⟨hn,h2⟩:=aR h;rw[aL,aH] at hn;subst hn;split at h2<;>try (cases h2;done)
   rename_i e;subst e;cases h2;exact hv
  ·obtain⟨m,rfl,hm⟩:=hv;exact⟨m,rfl,lL ho (.arr n t) h hm⟩
 case prod a b=>
  split at h<;>try (cases h;done)
  obtain⟨m,rfl,hm⟩:=hv;exact⟨m,rfl,lL ho (.prod a b) h hm⟩
 case unit=>
  split at h<;>try (cases h;done)
  obtain⟨m,rfl,hm⟩:=hv;exact⟨m,rfl,lL ho .unit h hm⟩
 case int k=>exact lL ho (.int k) h ⟨v,[],rfl,hv,rfl⟩
 case bool=>exact lL ho .bool h ⟨v,[],rfl,hv,rfl⟩
 case str=>exact lL ho .str h ⟨v,[],rfl,hv,rfl⟩
 case sl t=>exact lL ho (.sl t) h ⟨v,[],rfl,hv,rfl⟩
 case slx t=>exact lL ho (.slx t) h ⟨v,[],rfl,hv,rfl⟩
def qB:zF ν F λ_=>none:=λb t L cap h=>by cases h
end X
end Go.Vm
namespace Go.Vm
namespace X
open W
variable {B:Base} {ro:Nat} {e:Env} {c:Cnv} {S:St} {tm:Tr AV} {H:Tr Blk} {nx:Nat} {ν:Nm} {F:aQ} {M R:List Ent}
def yV (t:Ty) (x:t.den) (f n:Nat) (agg:Bool):Option SV:=
 bif f.beq 0&&n.beq t.size&&(t.agg==agg)&&t.ok then some (qS t x) else bif(f+n).ble t.size&&t.ok then mkS agg (((qI t x).drop f).take n) else none
def Gy {t:Ty} {x:t.den} {f n:Nat} {agg:Bool} {s:SV} (h:yV t x f n agg=some s) {l:List AV} (hl:aX F t x l):f+n<=t.size/\∃v,nG agg ((l.drop f).take n)=some v/\aJ ν F s v:=by
 unfold yV at h;cases hb:f.beq 0&&n.beq t.size&&(t.agg==agg)&&t.ok with
 | true=>
   rw[hb] at h;cases h;simp only[aN,aL,aH,beq_iff_eq] at hb;obtain⟨⟨⟨rfl,rfl⟩,rfl⟩,ht⟩:=hb;obtain⟨v,k1,k2⟩:=jf3 hl;refine⟨by omega,v,?_,Ea ht k2⟩;rw[fZ,iU (by rw[cV t x l hl];omega)];exact k1
 | false=>
   rw[hb] at h;simp only[aF] at h;obtain⟨h1,h2⟩:=aR h;simp only[aN,aP,aH] at h1;obtain⟨v,k1,k2⟩:=Kn h2 (oX n (nY f (uR t h1.2 x l hl)));exact⟨h1.1,v,k1,k2⟩
def tB:(t:Ty)->t.den->Nat->Nat->Nat->Option ((t':Ty)×List t'.den)
 | .arr n' t',x,f,n,y=>bif f.beq 0&&n'.beq n&&t'.size.beq y then some ⟨t',x⟩ else none
 | .prod a b,x,f,n,y=>bif f.blt a.size then tB a x.1 f n y else tB b x.2 (f-a.size) n y
 | _,_,_,_,_=>none
def jdw {F:aQ}:∀ {t:Ty} {x:t.den} {f n y:Nat} {t':Ty} {L:List t'.den},tB t x f n y=some ⟨t',L⟩->∀ {l:List AV},aX F t x l->t'.size=y/\L.length=n/\f+n*y<=t.size/\bO (aX F t') L ((l.drop f).take (n*y))
 | .arr n' t1,x,f,n,y,t',L,h,l,hl=>by
   simp only[tB] at h;obtain⟨h1,h2⟩:=aR h;simp only[aN,aL,aH] at h1;obtain⟨⟨rfl,rfl⟩,rfl⟩:=h1;cases h2;obtain⟨h3,h4⟩:=hl;refine⟨rfl,h3,by simp[Ty.size],?_⟩;rw[fZ,iU (by rw[jK (cV _) h4,h3];omega)];exact h4
 | .prod a b,x,f,n,y,t',L,h,l,hl=>by
   simp only[tB] at h;obtain⟨l1,l2,rfl,h1,h2⟩:=hl;have e1:=cV a _ _ h1;cases hf:Nat.blt f a.size with
   | true=>
     rw[hf] at h;simp only[aB] at h;obtain⟨k1,k2,k3,k4⟩:=jdw h h1;refine⟨k1,k2,by simp only[Ty.size];omega,?_⟩;rw[List.drop_append_of_le_length (by omega),qfo (by rw[tZ];omega)];exact k4
   | false=>
     rw[hf] at h;simp only[aF] at h;simp only[Nat.blt,aP,eH] at hf;obtain⟨k1,k2,k3,k4⟩:=jdw h h2;refine⟨k1,k2,by simp only[Ty.size];omega,?_⟩;rw[qgw,sP (by omega),dZ,e1];exact k4
 | .int _,_,_,_,_,_,_,h,_,_=>by simp[tB] at h
 | .bool,_,_,_,_,_,_,h,_,_=>by simp[tB] at h
 | .str,_,_,_,_,_,_,h,_,_=>by simp[tB] at h
 | .unit,_,_,_,_,_,_,h,_,_=>by simp[tB] at h
 | .sl _,_,_,_,_,_,_,h,_,_=>by simp[tB] at h
def Rq (lk:Nat->Option SB) (agg:Bool) (n:Nat):SV->Option SV
 | .ptr b o=>match lk b with
   | some (.lit l)=>bif(o+n).ble l.length then mkS agg ((l.drop o).take n) else none
   | some (.fix t k L)=>bif o.beq 0&&n.beq (k*t.size)&&agg then some (.ag k t L) else
      bif(o / t.size).blt k&&(o / t.size*t.size).beq o then yV t (L.getD (o / t.size) t.df) 0 n agg else none
   | _=>none
 | .eptr b i z f=>match lk b with
   | some (.arr t L cap)=>bif t.size.beq z then yV t (L.getD i t.df) f n agg else none
   | _=>none
 | .aptr b o k z i f=>match lk b with
   | some (.fix t k' L)=>bif t.size.beq z&&o.beq 0&&k.ble k' then yV t (L.getD i t.df) f n agg else none
   | some (.lit l)=>bif z.beq 1&&f.beq 0&&n.beq 1&& !agg&&(o+k).ble l.length then(match (l.drop o).take k with
      | .int d y::r=>(Ed d (.int d y::r)).map λr=>.int d (r.getD i 0)
      | _=>none) else none
   | _=>none
 | .fptr t x f=>yV t x f n agg
 | .nptr b t x f=>yV t x f n agg
 | .sptr f=>bif n.beq 1&& !agg then some (.fn f [] [.sptr f]) else none
 | .cptr b f k c=>bif n.beq 1&& !agg then some (.fn f [] (c.set k (.cptr b f k c))) else none
 | .aptr2 b o k z i f m y j g=>match lk b with
   | some (.fix t k' L)=>bif t.size.beq z&&o.beq 0&&k.ble k' then(match tB t (L.getD i t.df) f m y with
     | some ⟨t',L'⟩=>yV t' (L'.getD j t'.df) g n agg
     | none=>none) else none
   | _=>none
 | _=>none
def Gx {l:List AV} {j z f n:Nat} (h:f+n<=z):(((l.drop j).take z).drop f).take n=(l.drop (j+f)).take n:=by
 rw[yO,sU,rF,oL (by omega)]
def jqd {l:List AV} {k j z:Nat} (h:j+z<=k):((l.take k).drop j).take z=(l.drop j).take z:=by
 rw[yO,sU,oL (by omega)]
def xV {i k z:Nat} (h:i<k):i*z+z<=k*z:=by
 have:=iB z (show i+1<=k by omega);rw[fU] at this;omega
def jlm (h:ConX B ro e c S tm H nx ν F M R) {agg:Bool} {n:Nat} {p s:SV} (hs:Rq (look e S) agg n p=some s) {v:AV} (hv:aJ ν F p v):
  ∃b o l u,v=.ptr b o/\HB.At H b (.cells l)/\Aj agg n o l=some u/\aJ ν F s u:=by
 have ldv_of:∀ {l:List AV} {o:Nat} {u:AV},o+n<=l.length->nG agg ((l.drop o).take n)=some u->Aj agg n o l=some u:=λh1 h2=>by
  unfold Aj;rw[aP,cK h1];exact h2
 have lift:∀ {F':aQ},(F'=F\/F'=[])->∀x∈F',x∈F:=λh x hx=>by rcases h with rfl | rfl;exact hx;cases hx
 unfold Rq at hs;split at hs<;>try (cases hs;done)
 ·rename_i b o;simp only[aJ] at hv;subst hv;split at hs<;>try (cases hs;done)
  ·rename_i l hb;obtain⟨h1,h2⟩:=aR hs;rw[aP,aH] at h1;obtain⟨F',E,⟨w,m,rfl,hm⟩,hF,hE⟩:=h.look hb;have hlen:=jL hm;obtain⟨u,k1,k2⟩:=Kn h2 (oX n (nY o hm));exact⟨_,_,m,u,rfl,(hE _ (bF.2 rfl)).2,ldv_of (by omega) k1,nW (lift hF) _ _ k2⟩
  ·rename_i t k L hb;obtain⟨F',E,⟨w,m,rfl,hk,hm⟩,hF,hE⟩:=h.look hb;have hlen:=jK (cV t) hm;cases hc:o.beq 0&&n.beq (k*t.size)&&agg with
   | true=>
     rw[hc] at hs;cases hs;simp only[aN,aL,aH] at hc;obtain⟨⟨rfl,rfl⟩,rfl⟩:=hc;refine⟨_,_,m,.agg m,rfl,(hE _ (bF.2 rfl)).2,ldv_of (by rw[hlen,hk];omega) ?_,m,rfl,hk,lB (gY (lift hF) t) hm⟩;rw[fZ,iU (by rw[hlen,hk];omega)];rfl
   | false=>
     rw[hc] at hs;simp only[aF] at hs;obtain⟨h1,h2⟩:=aR hs;simp only[aN,aL,aH,Nat.blt,aP] at h1;obtain⟨h1,h3⟩:=h1;have hj:o / t.size<L.length:=by omega
     obtain⟨k1,u,k2,k3⟩:=Gy (ν:=ν) h2 (qD (cV t) t.df hm hj);have hle:=xV (z:=t.size) hj;rw[Gx k1,h3,iV] at k2;refine⟨_,_,m,u,rfl,(hE _ (bF.2 rfl)).2,ldv_of (by omega) ?_,nW (lift hF) _ _ k3⟩;exact k2
 ·rename_i b i z f;split at hs<;>try (cases hs;done)
  rename_i t L cap hb;obtain⟨hz,h2⟩:=aR hs;rw[aL,aH] at hz;subst hz;obtain⟨rfl,len,cp,e1,hi⟩:=hv;obtain⟨F',E,⟨h0,hE1⟩,hF,hE⟩:=h.look hb;rcases hE1 with⟨hd,_⟩ | ⟨w,m,rfl,hd,hm,ha⟩
  ·rcases hd with⟨e2,_⟩ | ⟨c',n',_,e2,_⟩
   ·rw[e1] at e2;cases e2
   ·cases e2
  ·rcases hd with⟨e2,_⟩ | ⟨c',n',e2,e3,hle,_⟩
   ·rw[e1] at e2;cases e2
   ·rw[e1] at e2;cases e2;cases e3;obtain⟨k1,u,k2,k3⟩:=Gy (ν:=ν) h2 (qD (cV t) t.df hm hi);have hlt:=xV (z:=t.size) hi;rw[jqd hlt,Gx k1] at k2;exact⟨_,_,m,u,rfl,(hE _ (bF.2 rfl)).2,ldv_of (by omega) k2,nW (lift hF) _ _ k3⟩
 ·rename_i b o k z i f;obtain⟨rfl,hi⟩:=hv;split at hs<;>try (cases hs;done)
  ·rename_i t k' L hb;obtain⟨h1,h2⟩:=aR hs;simp only[aN,aL,aP,aH] at h1;obtain⟨⟨rfl,rfl⟩,hkk⟩:=h1;obtain⟨F',E,⟨w,m,rfl,hk,hm⟩,hF,hE⟩:=h.look hb;have hlen:=jK (cV t) hm;have hj:i<L.length:=by omega
   obtain⟨k1,u,k2,k3⟩:=Gy (ν:=ν) h2 (qD (cV t) t.df hm hj);have hle:=xV (z:=t.size) hj;rw[Gx k1] at k2;exact⟨_,i*t.size+f,m,u,by rw[iC],(hE _ (bF.2 rfl)).2,ldv_of (by omega) k2,nW (lift hF) _ _ k3⟩
  ·rename_i l hb;obtain⟨h1,h2⟩:=aR hs;simp only[aN,aL,aP,aH,fB] at h1;obtain⟨⟨⟨⟨rfl,rfl⟩,rfl⟩,rfl⟩,h3⟩:=h1;split at h2<;>try (cases h2;done)
   rename_i d y r hd;obtain⟨r',hr,e1⟩:=map_some h2;subst e1;obtain⟨F',E,⟨w,m,rfl,hm⟩,hF,hE⟩:=h.look hb;have hlen:=jL hm;have hm2:=oX k (nY o hm);rw[hd] at hm2;have em:=Re hr hm2;have hrl:r'.length=k:=by
    have:=congrArg List.length em;simp at this;omega
   refine⟨_,_,m,.int d (r'.getD i 0),rfl,(hE _ (bF.2 rfl)).2,ldv_of (by omega) ?_,rfl⟩;have e2:(m.drop (o+i*1+0)).take 1=(((m.drop o).take k).drop i).take 1:=by
    rw[yO,rF,sU,oL (by omega)];simp
   rw[e2,em,mB (by simp;omega)];simp[nG,jF,hrl,hi]
 ·rename_i t x f;obtain⟨b,o,l,rfl,h1,h2,h3⟩:=hv;obtain⟨k1,u,k2,k3⟩:=Gy (ν:=ν) hs h3;rw[Gx k1] at k2;exact⟨_,_,l,u,rfl,(h.fact h1).2,ldv_of (by omega) k2,k3⟩
 ·rename_i b t x f;obtain⟨rfl,l,h1,h2,h3⟩:=hv;obtain⟨k1,u,k2,k3⟩:=Gy (ν:=ν) hs h3;rw[yO,sU,oL (by omega)] at k2;exact⟨_,_,l,u,rfl,(h.fact h1).2,ldv_of (by omega) k2,k3⟩
 ·rename_i f;obtain⟨b,rfl,hb⟩:=hv;obtain⟨h1,h2⟩:=aR hs;simp only[aN,aL,aH,fB] at h1;obtain⟨rfl,rfl⟩:=h1;cases h2;exact⟨b,0,[.fn (.func f) [] [.ptr b 0]],_,rfl,(h.fact hb).2,rfl,⟨[],[.ptr b 0],rfl,rfl,⟨_,[],rfl,⟨b,rfl,hb⟩,rfl⟩⟩⟩
 ·rename_i b f k c;have hv0:=hv;obtain⟨rfl,c',hb,h3,h4⟩:=hv;obtain⟨h1,h2⟩:=aR hs;simp only[aN,aL,aH,fB] at h1;obtain⟨rfl,rfl⟩:=h1;cases h2;refine⟨(ν b).1,0,[.fn (.func f) [] c'],_,rfl,(h.fact hb).2,rfl,⟨[],c',rfl,rfl,?_⟩⟩;have:=Xv k h4 hv0;rw[List.set_set] at this;rwa[show c'.set k (.ptr (ν b).1 0)=c' from ?_] at this;obtain⟨hk,h5⟩:=jG.1 h3;rw[<-h5,List.set_getElem_self]
 ·rename_i b o k z i f my y j g;obtain⟨rfl,hi,hj⟩:=hv;split at hs<;>try (cases hs;done)
  rename_i t k' L hb;obtain⟨h1,h2⟩:=aR hs;simp only[aN,aL,aP,aH] at h1;obtain⟨⟨rfl,rfl⟩,hkk⟩:=h1;split at h2<;>try (cases h2;done)
  rename_i t' L' hsub;obtain⟨F',E,⟨w,m,rfl,hk,hm⟩,hF,hE⟩:=h.look hb;have hlen:=jK (cV t) hm;have hil:i<L.length:=by omega
  obtain⟨q1,q2,q3,q4⟩:=jdw hsub (qD (cV t) t.df hm hil);subst q1;have hjl:j<L'.length:=by omega
  obtain⟨k1,u,k2,k3⟩:=Gy (ν:=ν) h2 (qD (cV t') t'.df q4 hjl);have hle:=xV (z:=t.size) hil;have hle2:=xV (z:=t'.size) (show j<my by omega);rw[Gx q3,jqd hle2,Gx k1,rF,<-kG] at k2;refine⟨_,i*t.size+f+j*t'.size+g,m,u,by rw[iC],(hE _ (bF.2 rfl)).2,ldv_of (by omega) ?_,nW (lift hF) _ _ k3⟩;exact k2
end X
end Go.Vm
namespace Go.Vm
namespace X
open W
variable {B:Base} {ro:Nat} {e:Env} {c:Cnv} {S:St} {tm:Tr AV} {H:Tr Blk} {nx:Nat} {ν:Nm} {F:aQ} {M R:List Ent}
abbrev qW:Nat->Option SB:=λ_=>none
def Fp (t:Ty) (x:t.den) (f:Nat) (cs:List SV):Option t.den:=
 bif f.beq 0&&cs.length.beq t.size then jE qW t cs else bif(f+cs.length).ble t.size&&t.ok then jE qW t ((qI t x).take f++(cs++(qI t x).drop (f+cs.length))) else none
def Su {t:Ty} {x y:t.den} {f:Nat} {cs:List SV} (h:Fp t x f cs=some y) {l m:List AV} (hl:aX F t x l) (hm:bC ν F cs m):f+m.length<=t.size/\aX F t y (dQ l f m):=by
 have hlen:=jL hm;unfold Fp at h;cases hb:f.beq 0&&cs.length.beq t.size with
 | true=>
   rw[hb] at h;simp only[aN,aL,aH] at hb;obtain⟨rfl,hb⟩:=hb;refine⟨by omega,?_⟩;have e1:dQ l 0 m=m:=by
    rw[dQ,Fw,dZ,sP (by rw[cV t x l hl];omega),jQ]
   rw[e1];exact lL qB t h hm
 | false=>
   rw[hb] at h;simp only[aF] at h;obtain⟨h1,h2⟩:=aR h;simp only[aN,aP,aH] at h1;exact⟨by omega,lL qB t h2 (Xw (uR t h1.2 x l hl) hm)⟩
def Vj {l m:List AV} {j z f:Nat} (h:f+m.length<=z) (hj:j+z<=l.length):dQ l j (dQ ((l.drop j).take z) f m)=dQ l (j+f) m:=by
 apply Bg;intro i;have hin:((l.drop j).take z).length=z:=by simp;omega
 have hs:(dQ ((l.drop j).take z) f m).length=z:=by rw[Gu (by omega),hin]
 have eL:=By (l:=l) (o:=j) (new:=dQ ((l.drop j).take z) f m) (by omega) i;have eR:=By (l:=l) (o:=j+f) (new:=m) (by omega) i;rw[eL,eR,hs];by_cases h1:j<=i/\i<j+z
 ·rw[aK h1,By (by omega)];by_cases h2:f<=i-j/\i-j<f+m.length
  ·rw[aK h2,aK (by omega)];congr 1;omega
  ·rw[aD h2,aD (by omega),rD,aK (by omega),sM];congr 1;omega
 ·rw[aD h1,aD (by omega)]
def jp5 {l m:List AV} {o n:Nat} (h:o+m.length<=n) (hn:n<=l.length):(dQ l o m).take n=dQ (l.take n) o m:=by
 apply Bg;intro i;rw[rD,By (by omega),By (by simp;omega),rD];by_cases h1:i<n
 ·simp[h1]
 ·rw[aD h1,aD (by omega),aD h1]
def Yd {l m:List AV} {o:Nat} (h:l.all hZ=true) (k:m.all hZ=true):(dQ l o m).all hZ=true:=by
 simp only[dQ,Bm,k,sV];rw[aN];rw[bS] at h;exact⟨bS.2 λx hx=>h x (qfr hx),bS.2 λx hx=>h x (Lh hx)⟩
def Mx (mv:bE) (n:Nat) (p u:SV):Option bE:=
 bif u.cells.length.beq n&&u.cells.all SV.one then(match p with
  | .ptr b o=>match cL mv b with
    | some (.lit l)=>bif(o+n).ble l.length then some (mG mv b (.lit (l.take o++(u.cells++l.drop (o+u.cells.length))))) else none
    | some (.fix t k L)=>match u with
      | .ag k' t' L'=>bif o.beq 0&&k'.beq k then(if h:t'=t then some (mG mv b (.fix t k (h▸L'))) else none) else none
      | u=>bif o.beq 0&&(Nat.blt 1 k&&n.beq (Ty.arr k t).size) then(Fp (.arr k t) L 0 u.cells).map λy=>mG mv b (.fix t k y) else bif(o / t.size).blt k&&(o / t.size*t.size).beq o then(Fp t (L.getD (o / t.size) t.df) 0 u.cells).map λy=>mG mv b (.fix t k (L.set (o / t.size) y)) else none
    | _=>none
  | .eptr b i z f=>match cL mv b with
    | some (.arr t L cap)=>bif t.size.beq z then(Fp t (L.getD i t.df) f u.cells).map λy=>mG mv b (.arr t (L.set i y) cap) else none
    | _=>none
  | .aptr b o k z i f=>match cL mv b with
    | some (.fix t k' L)=>bif t.size.beq z&&o.beq 0&&k.ble k' then(Fp t (L.getD i t.df) f u.cells).map λy=>mG mv b (.fix t k' (L.set i y)) else none
    | some (.lit l)=>bif z.beq 1&&f.beq 0&&(o+k).ble l.length then(match (l.drop o).take k,u with
       | .int d y::r,.int d' x=>bif jO d d' then(Ed d (.int d y::r)).map λr=>mG mv b (.lit (l.take o++(((List.range k).map λj=>SV.int d ((r.set i x).getD j 0))++l.drop (o+k)))) else none
       | _,_=>none) else none
    | _=>none
  | _=>none) else none
def jcr:SV->Option Nat
 | .ptr b _=>some b
 | .eptr b _ _ _=>some b
 | .aptr b _ _ _ _ _=>some b
 | _=>none
def j7x (h:ConX B ro e c S tm H nx ν F M R) {n:Nat} {p u:SV} {mv:bE} (hs:Mx S.mv n p u=some mv) {v w:AV} (hv:aJ ν F p v) (hw:aJ ν F u w):
  ∃b,jcr p=some b/\(cL S.mv b).isSome=true/\∃o l,v=.ptr (ν b).1 o/\HB.At H (ν b).1 (.cells l)/\rx ro<=(ν b).1/\(gD w).length=n/\(gD w).all hZ=true/\o+n<=l.length/\
   ∀k,HB.At (H.set (ν b).1 k) (ν b).1 (.cells (dQ l o (gD w)))->∃M',ConX B ro e c { S with mv:=mv } tm (H.set (ν b).1 k) nx ν F M' R:=by
 unfold Mx at hs;obtain⟨hc,hs2⟩:=aR hs;clear hs;revert hs2;intro hs
 simp only[aN,aL,aH] at hc;obtain⟨hn,hone⟩:=hc;have hcs:=Xs hone hw;have hlen:=jL hcs;have hall:=jgd hone hcs;split at hs<;>try (cases hs;done)
 ·rename_i b o;simp only[aJ] at hv;split at hs<;>try (cases hs;done)
  ·rename_i l hb;obtain⟨h1,h2⟩:=aR hs;rw[aP,aH] at h1;cases h2;obtain⟨E,hE,hp,hset,_⟩:=h.own hb;obtain⟨w',m,rfl,hm⟩:=hE;obtain⟨rfl,p1,p2,p3⟩:=hp _ (bF.2 rfl);have hml:=jL hm;refine⟨b,rfl,by rw[hb];rfl,o,m,hv,p3,p1,by omega,hall,by omega,λk hk=>?_⟩;exact hset _ _ _ k _ rfl hk ⟨_,_,rfl,Xw hm hcs⟩
  ·rename_i t k' L hb;split at hs
   ·rename_i k2 t' L';obtain⟨h1,h2⟩:=aR hs;simp only[aN,aL,aH] at h1;obtain⟨rfl,rfl⟩:=h1;split at h2<;>try (cases h2;done)
    rename_i ht;subst ht;cases h2;obtain⟨E,hE,hp,hset,_⟩:=h.own hb;obtain⟨w',m,rfl,hk,hm⟩:=hE;obtain⟨rfl,p1,p2,p3⟩:=hp _ (bF.2 rfl);have hml:=jK (cV t') hm;obtain⟨lw,rfl,hL1,hL2⟩:∃l,w=.agg l/\List.length (α:=t'.den) L'=k2/\bO (aX F t') L' l:=hw;have hlw:=jK (cV t') hL2;rw[hk] at hml;rw[hL1] at hlw;have hlen':lw.length=n:=by
     have:(gD (.agg lw)).length=n:=by omega
     exact this
    refine⟨b,rfl,by rw[hb];rfl,0,m,hv,p3,p1,by omega,hall,by omega,λk hk'=>?_⟩;refine hset _ _ _ k _ rfl hk' ⟨_,_,rfl,by simpa using hL1,?_⟩;have e1:dQ m 0 (gD (.agg lw))=lw:=by
     show dQ m 0 lw=lw;rw[dQ,Fw,dZ,sP (by omega),jQ]
    rw[e1];exact hL2
   ·rename_i u' _;cases hW:o.beq 0&&(Nat.blt 1 k'&&n.beq (Ty.arr k' t).size) with
    | true=>
      rw[hW] at hs;simp only[aB] at hs;simp only[aN,aL,aH] at hW;obtain⟨rfl,_,hWn⟩:=hW;obtain⟨y,hy,e1⟩:=map_some hs;cases e1;obtain⟨E,hE,hp,hset,_⟩:=h.own hb;obtain⟨w',m,rfl,hk,hm⟩:=hE;obtain⟨rfl,p1,p2,p3⟩:=hp _ (bF.2 rfl);have hml:=jK (cV t) hm;obtain⟨q1,q2⟩:=Su (t:=.arr k' t) hy (l:=m) ⟨hk,hm⟩ hcs;refine⟨b,rfl,by rw[hb];rfl,0,m,hv,p3,p1,by omega,hall,?_,λk hk'=>?_⟩
      ·simp only[Ty.size] at hWn;rw[hml,hk];omega
      ·exact hset _ _ _ k _ rfl hk' ⟨_,_,rfl,q2.1,q2.2⟩
    | false=>
    rw[hW] at hs;simp only[aF] at hs;obtain⟨h1,h2⟩:=aR hs;simp only[aN,aL,aH,Nat.blt,aP] at h1;obtain⟨h1,h3⟩:=h1;obtain⟨y,hy,e1⟩:=map_some h2;cases e1;obtain⟨E,hE,hp,hset,_⟩:=h.own hb;obtain⟨w',m,rfl,hk,hm⟩:=hE;obtain⟨rfl,p1,p2,p3⟩:=hp _ (bF.2 rfl);have hml:=jK (cV t) hm;have hj:o / t.size<L.length:=by omega
    have hle:=xV (z:=t.size) hj;obtain⟨q1,q2⟩:=Su hy (qD (cV t) t.df hm hj) hcs;refine⟨b,rfl,by rw[hb];rfl,o,m,hv,p3,p1,by omega,hall,by omega,λk hk'=>?_⟩;refine hset _ _ _ k _ rfl hk' ⟨_,_,rfl,by simpa using hk,?_⟩;have:=Oy (cV t) hm hj q2;rw[Vj q1 (by omega),h3,iV] at this;exact this
 ·rename_i b i z f;split at hs<;>try (cases hs;done)
  rename_i t L cap hb;obtain⟨hz,h2⟩:=aR hs;rw[aL,aH] at hz;subst hz;obtain⟨y,hy,e1⟩:=map_some h2;cases e1;obtain⟨hv1,len,cp,e1,hi⟩:=hv;obtain⟨E,hE,hp,hset,_⟩:=h.own hb;obtain⟨h0,hE⟩:=hE;rcases hE with⟨hd,_⟩ | ⟨w',m,rfl,hd,hm,ha⟩
  ·rcases hd with⟨e2,_⟩ | ⟨c',n',_,e2,_⟩
   ·rw[e1] at e2;cases e2
   ·cases e2
  ·obtain⟨rfl,p1,p2,p3⟩:=hp _ (bF.2 rfl);have hd0:=hd;rcases hd with⟨e2,_⟩ | ⟨c',n',e2,e3,hle,_⟩
   ·rw[e1] at e2;cases e2
   ·rw[e1] at e2;cases e2;cases e3;have hlt:=xV (z:=t.size) hi;obtain⟨q1,q2⟩:=Su hy (qD (cV t) t.df hm hi) hcs;have hsl:(dQ m (i*t.size+f) (gD w)).length=m.length:=Gu (by omega);refine⟨b,rfl,by rw[hb];rfl,_,m,hv1,p3,p1,by omega,hall,by omega,λk hk'=>?_⟩;refine hset _ _ _ k _ rfl hk' ⟨h0,.inr ⟨_,_,rfl,by rw[hsl,yI];exact hd0,?_,Yd ha hall⟩⟩;have:=Oy (cV t) hm hi q2;rw[Vj q1 (by simp;omega)] at this;rw[yI,jp5 (by omega) hle];exact this
 ·rename_i b o k' z i f;obtain⟨hv1,hi⟩:=hv;split at hs<;>try (cases hs;done)
  ·rename_i t k2 L hb;obtain⟨h1,h2⟩:=aR hs;simp only[aN,aL,aP,aH] at h1;obtain⟨⟨rfl,rfl⟩,hkk⟩:=h1;obtain⟨y,hy,e1⟩:=map_some h2;cases e1;obtain⟨E,hE,hp,hset,_⟩:=h.own hb;obtain⟨w',m,rfl,hk,hm⟩:=hE;obtain⟨rfl,p1,p2,p3⟩:=hp _ (bF.2 rfl);have hml:=jK (cV t) hm;have hj:i<L.length:=by omega
   have hle:=xV (z:=t.size) hj;obtain⟨q1,q2⟩:=Su hy (qD (cV t) t.df hm hj) hcs;refine⟨b,rfl,by rw[hb];rfl,i*t.size+f,m,by rw[hv1,iC],p3,p1,by omega,hall,by omega,λk hk'=>?_⟩;refine hset _ _ _ k _ rfl hk' ⟨_,_,rfl,by simpa using hk,?_⟩;have:=Oy (cV t) hm hj q2;rw[Vj q1 (by omega)] at this;exact this
  ·rename_i l hb;obtain⟨h1,h2⟩:=aR hs;simp only[aN,aL,aP,aH] at h1;obtain⟨⟨rfl,rfl⟩,h3⟩:=h1;split at h2<;>try (cases h2;done)
   rename_i d y r d' x hd;obtain⟨hkk,h5⟩:=aR h2;rw[pH] at hkk;subst hkk;obtain⟨r',hr,e1⟩:=map_some h5;cases e1;obtain⟨E,hE,hp,hset,_⟩:=h.own hb;obtain⟨w',m,rfl,hm⟩:=hE;obtain⟨rfl,p1,p2,p3⟩:=hp _ (bF.2 rfl);have hml:=jL hm;have hm2:=oX k' (nY o hm);rw[hd] at hm2;have em:=Re hr hm2;have hrl:r'.length=k':=by
    have:=congrArg List.length em;simp at this;omega
   simp only[aJ] at hw;subst hw;simp only[SV.cells,dG,iT] at hn;refine⟨b,rfl,by rw[hb];rfl,o+i*1+0,m,hv1,p3,p1,by simp[gD];omega,rfl,by omega,λk hk'=>?_⟩;refine hset _ _ _ k _ rfl hk' ⟨_,_,rfl,?_⟩;have e5:dQ m (o+i*1+0) (gD (.int d x))=m.take o++((List.range k').map (λj=>AV.int d ((r'.set i x).getD j 0))++m.drop (o+k')):=by
    have e6:(List.range k').map (λj=>AV.int d ((r'.set i x).getD j 0))=dQ ((m.drop o).take k') i [.int d x]:=by
     rw[em,j7r (by simp;omega)];apply Bg;intro j;by_cases hj:j<k'
     ·have hj':j<r'.length:=by omega
      simp only[jH,List.getElem?_range hj,eX,Fz,dM,jF];by_cases hij:i=j
      ·subst hij;simp[hj']
      ·simp[hij,hj']
     ·rw[tW (by simp;omega),tW (by simp;omega)]
    have:=Vj (l:=m) (m:=[.int d x]) (j:=o) (z:=k') (f:=i) (by simp;omega) (by omega);rw[Gd,iV];show dQ m (o+i) [.int d x]=_;rw[<-this,<-e6,dQ];simp
   rw[e5];refine nX (oX o hm) (nX ?_ (nY _ hm));have:∀(l:List Nat),bC ν F (l.map λj=>SV.int d ((r'.set i x).getD j 0)) (l.map λj=>AV.int d ((r'.set i x).getD j 0)):=by
    intro l;induction l with
    | nil=>rfl
    | cons a l ih=>exact⟨_,_,rfl,rfl,ih⟩
   exact this _
def Pg (e:Env) (S:St) (b:Nat):SV->Bool
 | .ptr b' _ | .aptr b' _ _ _ _ _=> !(b'.beq b)&&(match look e S b' with
   | some (.lit _) | some (.fix _ _ _)=>true
   | some (.arr _ _ _) | some (.mp _ _ _)=>false
   | none=>false)
 | .eptr b' _ _ _=> !(b'.beq b)&&(match look e S b' with
   | some (.lit _) | some (.fix _ _ _)=>true
   | some (.arr _ _ _)=>true
   | some (.mp _ _ _)=>false
   | none=>false)
 | .fptr _ _ _=>true
 | .nptr _ _ _ _=>true
 | _=>false
def Xg {b b':Nat} {sb sb':SB}:∀ {m:bE} {M:List Ent},gN ν F m M->cL m b=some sb->cL m b'=some sb'->b≠b'->∃E E',dR ν F b sb E/\dR ν F b' sb' E'/\((E++E').Sublist M\/(E'++E).Sublist M)
 | [],M,_,h,_,_=>by cases h
 | (k,v)::m,M,⟨E,M',e1,h1,h2⟩,h,h',hne=>by
   have sub:∀ {x:Nat} {s:SB},cL m x=some s->∃E,dR ν F x s E/\E.Sublist M':=λhx=>by
    obtain⟨M1,E1,M2,e2,g1,_⟩:=wM h2 hx;exact⟨E1,g1,by rw[e2];exact(qe8 ..).trans (Bh ..)⟩
   simp only[cL] at h h';cases hk:Nat.beq k b<;>cases hk':Nat.beq k b'<;>rw[hk] at h<;>rw[hk'] at h'<;>simp only[aB,aF] at h h'
   ·obtain⟨E1,E2,g1,g2,g3⟩:=Xg h2 h h' hne;refine⟨E1,E2,g1,g2,?_⟩;rw[e1];rcases g3 with g3 | g3
    ·exact .inl (g3.trans (Bh ..))
    ·exact .inr (g3.trans (Bh ..))
   ·cases h';rw[aL,aH] at hk';subst hk';obtain⟨E1,g1,g2⟩:=sub h;exact⟨E1,E,g1,h1,.inr (by rw[e1];exact qgl g2 _)⟩
   ·cases h;rw[aL,aH] at hk;subst hk;obtain⟨E1,g1,g2⟩:=sub h';exact⟨E,E1,h1,g1,.inl (by rw[e1];exact qgl g2 _)⟩
   ·rw[aL,aH] at hk hk';exact absurd (hk.symm.trans hk') hne
def jgz (h:ConX B ro e c S tm H nx ν F M R) {b:Nat} {p:SV} (hp:Pg e S b p=true) (hb:∃sb E,cL S.mv b=some sb/\dR ν F b sb E/\∃x∈E,x.b=(ν b).1) (hro:ro<=(ν b).1) {v:AV} (hv:aJ ν F p v):∃b' o,v=.ptr b' o/\b'≠(ν b).1:=by
 have nm:∀ {b':Nat} {o:Nat} {A:Bool},(A=true->∃len cap z,(ν b').2=.sl (ν b').1 0 len cap z)->(!(b'.beq b)&&(match look e S b' with
  | some (.lit _) | some (.fix _ _ _)=>true
  | some (.arr _ _ _)=>A
  | some (.mp _ _ _)=>false
  | none=>false))=true->v=.ptr (ν b').1 o->∃b' o,v=.ptr b' o/\b'≠(ν b).1:=by
  intro b' o A hA hc hv;refine⟨_,_,hv,λheq=>?_⟩;simp only[aN,fB,aL,eH] at hc;obtain⟨hne,hc⟩:=hc;obtain⟨sb,E0,hb1,hE0,x0,hx0,hx0b⟩:=hb;have one:∀ {sb':SB} {E':List Ent},look e S b'=some sb'->dR ν F b' sb' E'->∃y∈E',y.b=(ν b').1:=by
   intro sb' E' hl hE';rw[hl] at hc;cases sb' with
   | lit l=>obtain⟨w,m,rfl,_⟩:=hE';exact⟨_,bF.2 rfl,rfl⟩
   | fix t n L=>obtain⟨w,m,rfl,_⟩:=hE';exact⟨_,bF.2 rfl,rfl⟩
   | mp k v L=>obtain⟨w,m,rfl,_⟩:=hE';exact⟨_,bF.2 rfl,rfl⟩
   | arr t L cap=>
     obtain⟨len,cp,z,hA⟩:=hA hc;obtain⟨_,hE'⟩:=hE';rcases hE' with⟨hd,_⟩ | ⟨w,m,rfl,_⟩
     ·rcases hd with⟨e1,_⟩ | ⟨_,_,_,e1,_⟩
      ·rw[hA] at e1;cases e1
      ·cases e1
     ·exact⟨_,bF.2 rfl,rfl⟩
  cases hl:cL (S.mv++e.mc) b' with
  | some sb'=>
    have hl':look e S b'=some sb':=by unfold look;rw[hl]
    have hb2:cL (S.mv++e.mc) b=some sb:=by rw[Rt,hb1]
    obtain⟨E1,E2,g1,g2,g3⟩:=Xg (uJ h.mv h.mcm) hb2 hl (λh=>hne h.symm);obtain⟨y,hy,hyb⟩:=one hl' g2;have hnd:=h.hk.nd;have hx1:∃x∈E1,x.b=(ν b).1:=by
     cases sb with
     | lit l=>obtain⟨w,m,rfl,_⟩:=g1;exact⟨_,bF.2 rfl,rfl⟩
     | fix t n L=>obtain⟨w,m,rfl,_⟩:=g1;exact⟨_,bF.2 rfl,rfl⟩
     | mp k v L=>obtain⟨w,m,rfl,_⟩:=g1;exact⟨_,bF.2 rfl,rfl⟩
     | arr t L cap=>
       obtain⟨_,hE0⟩:=hE0;obtain⟨_,g1⟩:=g1;rcases g1 with⟨hd,rfl⟩ | ⟨w,m,rfl,_⟩
       ·rcases hE0 with⟨_,rfl⟩ | ⟨w,m,rfl,hd2,_⟩
        ·cases hx0
        ·rcases hd with⟨e1,_⟩ | ⟨_,_,_,e1,_⟩
         ·rcases hd2 with⟨_,e2,_⟩ | ⟨_,_,e2,_⟩
          ·cases e2
          ·rw[e1] at e2;cases e2
         ·cases e1
       ·exact⟨_,bF.2 rfl,rfl⟩
    obtain⟨x,hx,hxb⟩:=hx1;have hsub:∀ {A:List Ent},A.Sublist (M++c.Mc)->(A.map Ent.b).Nodup:=λhA=>by
     rw[<-cD] at hnd;exact hnd.sublist ((hA.trans (qe8 ..)).map _)
    rcases g3 with g3 | g3
    ·have:=hsub g3;rw[fY,yL] at this;exact this.2.2 _ (bU.2 ⟨x,hx,rfl⟩) _ (bU.2 ⟨y,hy,rfl⟩) (by rw[hxb,hyb,heq])
    ·have:=hsub g3;rw[fY,yL] at this;exact this.2.2 _ (bU.2 ⟨y,hy,rfl⟩) _ (bU.2 ⟨x,hx,rfl⟩) (by rw[hxb,hyb,heq])
  | none=>
    cases hl2:look e S b' with
    | none=>rw[hl2] at hc;cases hc
    | some sb'=>
      have hG:cL e.G b'=some sb':=by unfold look at hl2;rw[hl] at hl2;exact hl2
      obtain⟨_,_,_,E,g1,g2⟩:=h.gl.2 _ _ hG;obtain⟨y,hy,hyb⟩:=one hl2 (uI (λ_ h=>by cases h) g1);have:=(g2 y hy).1;have:=h.hk.r0;omega
 have fp:∀ {b' o:Nat} {l:List AV},(b',HB.cells l)∈F->∃b2 o2,AV.ptr b' o=.ptr b2 o2/\b2≠(ν b).1:=by
  intro b' o l h1;refine⟨b',_,rfl,λheq=>?_⟩;obtain⟨sb,E0,hb1,hE0,x0,hx0,hx0b⟩:=hb;rcases h.fz _ h1 with h2 | ⟨h2,_⟩
  ·obtain⟨w,hm⟩:=h2.mem;obtain⟨M1,E,M2,e1,g1,_⟩:=wM h.mv hb1;have hx1:∃x∈E,x.b=(ν b).1:=by
    cases sb with
    | lit l=>obtain⟨w,m,rfl,_⟩:=g1;exact⟨_,bF.2 rfl,rfl⟩
    | fix t n L=>obtain⟨w,m,rfl,_⟩:=g1;exact⟨_,bF.2 rfl,rfl⟩
    | mp k v L=>obtain⟨w,m,rfl,_⟩:=g1;exact⟨_,bF.2 rfl,rfl⟩
    | arr t L cap=>
      obtain⟨_,hE0⟩:=hE0;obtain⟨_,g1⟩:=g1;rcases g1 with⟨hd,rfl⟩ | ⟨w,m,rfl,_⟩
      ·rcases hE0 with⟨_,rfl⟩ | ⟨w,m,rfl,hd2,_⟩
       ·cases hx0
       ·rcases hd with⟨e1,_⟩ | ⟨_,_,_,e1,_⟩
        ·rcases hd2 with⟨_,e2,_⟩ | ⟨_,_,e2,_⟩
         ·cases e2
         ·rw[e1] at e2;cases e2
        ·cases e1
      ·exact⟨_,bF.2 rfl,rfl⟩
   obtain⟨x,hx,hxb⟩:=hx1;have hnd:=h.hk.nd;rw[fY,yL] at hnd;refine hnd.2.2 _ (bU.2 ⟨x,by rw[e1];simp[hx],rfl⟩) _ (bU.2 ⟨_,aZ.2 (.inr (by simp only[Cnv.O0,aZ] at hm ⊢;rcases hm with hm | hm;exact .inl hm;exact .inr (.inr hm))),rfl⟩) ?_;rw[hxb];exact heq.symm
  ·have:=h.hk.r0;simp only at h2;omega
 cases p<;>simp only[Pg,reduceCtorEq] at hp
 ·exact nm (A:=false) (λh=>by cases h) hp hv
 ·exact nm (A:=true) (λ_=>⟨_,_,_,hv.2.choose_spec.choose_spec.1⟩) hp hv.1
 ·exact nm (A:=false) (λh=>by cases h) hp hv.1
 ·obtain⟨b',o,l,rfl,h1,_⟩:=hv;exact fp h1
 ·obtain⟨rfl,l,h1,_⟩:=hv;exact fp h1
def Ye (e:Env) (S:St) (b:Nat):SV->Bool
 | .own b'=> !(b'.beq b)&&(match cL (S.mv++e.mc) b' with
   | some (.arr t L cap)=> !((List.length (α:=t.den) L).beq 0)
   | _=>false)
 | _=>false
def ju9 (h:ConX B ro e c S tm H nx ν F M R) {b:Nat} {p:SV} (hp:Ye e S b p=true) {sb:SB} {E0:List Ent} (hb1:cL S.mv b=some sb) (hE0:dR ν F b sb E0) (hx0:∃x∈E0,x.b=(ν b).1) {v:AV} (hv:aJ ν F p v):∃b' o n cp z,v=.sl b' o n cp z/\b'≠(ν b).1:=by
 cases p<;>simp only[Ye,reduceCtorEq] at hp
 rename_i b';simp only[aN,fB,aL,eH] at hp;obtain⟨hne,hc⟩:=hp;split at hc<;>try (cases hc;done)
 rename_i t L cap hl;have hL:List.length (α:=t.den) L≠0:=by simpa[aL] using hc
 have hb2:cL (S.mv++e.mc) b=some sb:=by rw[Rt,hb1]
 obtain⟨E1,E2,g1,g2,g3⟩:=Xg (uJ h.mv h.mcm) hb2 hl (λh=>hne h.symm);have hnd:=h.hk.nd;obtain⟨x0,hx0,hx0b⟩:=hx0;have hx1:∃x∈E1,x.b=(ν b).1:=by
  cases sb with
  | lit l=>obtain⟨w,m,rfl,_⟩:=g1;exact⟨_,bF.2 rfl,rfl⟩
  | fix t n L=>obtain⟨w,m,rfl,_⟩:=g1;exact⟨_,bF.2 rfl,rfl⟩
  | mp k v L=>obtain⟨w,m,rfl,_⟩:=g1;exact⟨_,bF.2 rfl,rfl⟩
  | arr t L cap=>
    obtain⟨_,hE0⟩:=hE0;obtain⟨_,g1⟩:=g1;rcases g1 with⟨hd,rfl⟩ | ⟨w,m,rfl,_⟩
    ·rcases hE0 with⟨_,rfl⟩ | ⟨w,m,rfl,hd2,_⟩
     ·cases hx0
     ·rcases hd with⟨e1,_⟩ | ⟨_,_,_,e1,_⟩
      ·rcases hd2 with⟨_,e2,_⟩ | ⟨_,_,e2,_⟩
       ·cases e2
       ·rw[e1] at e2;cases e2
      ·cases e1
    ·exact⟨_,bF.2 rfl,rfl⟩
 obtain⟨x,hx,hxb⟩:=hx1;obtain⟨_,g2⟩:=g2;rcases g2 with⟨hd,_⟩ | ⟨w,m,rfl,hd,_⟩
 ·rcases hd with⟨_,_,e1,_⟩ | ⟨_,_,_,e1,_⟩
  ·exact absurd e1 hL
  ·cases e1
 ·rcases hd with⟨_,e1,_⟩ | ⟨c',n',e1,_⟩
  ·cases e1
  ·obtain⟨rfl,_⟩:=hv;refine⟨_,_,_,_,_,e1,λheq=>?_⟩;have hsub:∀ {A:List Ent},A.Sublist (M++c.Mc)->(A.map Ent.b).Nodup:=λhA=>by
    rw[<-cD] at hnd;exact hnd.sublist ((hA.trans (qe8 ..)).map _)
   rcases g3 with g3 | g3
   ·have:=hsub g3;rw[fY,yL] at this;exact this.2.2 _ (bU.2 ⟨x,hx,rfl⟩) _ (bU.2 ⟨_,bF.2 rfl,rfl⟩) (by rw[hxb,<-heq])
   ·have:=hsub g3;rw[fY,yL] at this;exact this.2.2 _ (bU.2 ⟨_,bF.2 rfl,rfl⟩) _ (bU.2 ⟨x,hx,rfl⟩) (by rw[hxb,<-heq])
def Zw (g:Opd->Option SV) (e:Env) (S:St) (ex:List Opd):SV->Bool
 | .nils=>true
 | .own b=>ex.all λy=>match g y with
   | some p'=>Pg e S b p'||Ye e S b p'
   | none=>false
 | _=>false
def jyn {z bytes:Nat} {x y:Opd} {g:Opd->Option SV} (hg:∀x s,g x=some s->aJ ν F s (aT tm x)) (h:ConX B ro e c S tm H nx ν F M R) {ex:List Opd} {s:SV} (hs:Zw g e S ex s=true) (hx:aJ ν F s (aT tm x)) (hlk:∀b,s=.own b->∃t L cap,cL S.mv b=some (.arr t L cap)):nB (aT tm) (.app z bytes x y) ex=true:=by
 unfold Zw at hs;split at hs<;>try (cases hs;done)
 ·simp only[aJ] at hx;simp only[nB,hx]
 ·rename_i b;obtain⟨t,L,cap,hsb⟩:=hlk b rfl;obtain⟨E,hE,hEp,_⟩:=h.own hsb;obtain⟨e1,hsl⟩:=hx;have hE':=hE;obtain⟨h0,hE1⟩:=hE;rcases hE1 with⟨hd,rfl⟩ | ⟨w,m,rfl,hd,_⟩
  ·rcases hd with⟨q1,_⟩ | ⟨_,_,_,q1,_⟩
   ·rw[q1] at e1;simp only[nB,e1]
   ·cases q1
  ·rcases hd with⟨_,q1,_⟩ | ⟨c',n',q1,_⟩
   ·cases q1
   ·rw[q1] at e1;simp only[nB,e1];refine bS.2 λy' hy=>?_
    have h1:=bS.1 hs y' hy;split at h1<;>try (cases h1;done)
    rename_i p' hp';rw[kD] at h1;have hone:∃z∈([⟨(ν b).1,w,.cells m⟩]:List Ent),z.b=(ν b).1:=⟨_,bF.2 rfl,rfl⟩
    rcases h1 with h1 | h1
    ·obtain⟨b2,o2,k1,k2⟩:=jgz h h1 ⟨_,_,hsb,hE',hone⟩ (jC (hEp _ (bF.2 rfl)).2.1).1 (hg _ _ hp');simp only[k1,aL];simp[k2]
    ·obtain⟨b2,o2,n2,cp2,z2,k1,k2⟩:=ju9 h h1 hsb hE' hone (hg _ _ hp');simp only[k1,aL];simp[k2]
end X
end Go.Vm
namespace Go.Vm
namespace X
open W
variable {B:Base} {ro:Nat} {e:Env} {c:Cnv} {S:St} {tm:Tr AV} {H:Tr Blk} {nx:Nat} {ν:Nm} {F:aQ} {M R:List Ent}
mutual
def fK:bE->SV->Option (bE×SV)
 | mv,.own b=>match cL mv b with
   | some (.arr t L cap)=>some (eM mv b,.fz t L)
   | _=>none
 | mv,.view b o n _ z=>match cL mv b with
   | some (.arr t L cap)=>bif z.beq t.size then some (eM mv b,.fz t ((L.drop o).take n)) else none
   | _=>none
 | mv,.agg l=>match xE mv l with
   | some (mv',l')=>some (mv',.agg l')
   | none=>none
 | mv,s=>some (mv,s)
def xE:bE->List SV->Option (bE×List SV)
 | mv,[]=>some (mv,[])
 | mv,s::l=>match fK mv s with
   | some (mv',s')=>match xE mv' l with
     | some (mv'',l')=>some (mv'',s'::l')
     | none=>none
   | none=>none
end
def Wy {b:Nat} {t:Ty} {L:List t.den} {cap:Option Nat} {E:List Ent} (h:dR ν F b (.arr t L cap) E) {F':aQ} (hF:∀x∈F,x∈F') (hE:∀x∈lW E,x∈F'):
  jU F' t.size (bO (aX F' t)) L (ν b).2/\∀o len cp,(ν b).2=.sl (ν b).1 o len cp t.size->len=L.length:=by
 obtain⟨h0,h⟩:=h;rcases h with⟨hd,rfl⟩ | ⟨w,m,rfl,hd,hm,ha⟩
 ·rcases hd with⟨e1,_,e2,_⟩ | ⟨_,_,_,e1,_⟩
  ·refine⟨.inl ⟨oK e2,e1⟩,λo len cp e3=>?_⟩;rw[e1] at e3;cases e3
  ·cases e1
 ·rcases hd with⟨_,e1,_⟩ | ⟨c',n,e1,e2,h1,h3,h4⟩
  ·cases e1
  ·cases e2;refine⟨.inr ⟨(ν b).1,0,c',m,e1,hE _ (by simp[lW]),λx hx=>(h3 x hx).2,by omega,?_⟩,λo len cp e3=>?_⟩
   ·rw[fZ];exact lB (gY hF t) hm
   ·rw[e1] at e3;cases e3;rfl
def j7m {t:Ty} {L:List t.den} {x:Nat×AV} {F':aQ} (h0:t.size≠0) (h:jU F' t.size (bO (aX F' t)) L x.2) (h2:∀o len cp,x.2=.sl x.1 o len cp t.size->len=L.length) {b o n:Nat} {cp:Option Nat} (hν:ν b=x) {v:AV} (hv:aJ ν F (.view b o n cp t.size) v):
  aJ ν F' (.fz t ((L.drop o).take n)) v:=by
 subst hν;rcases hv with⟨rfl,rfl,_⟩ | ⟨c',rfl,k1,k3,len,cp',e,h5,_⟩
 ·exact⟨h0,.inl ⟨by simp,rfl⟩⟩
 ·rw[e] at h;exact⟨h0,Xz (cV t) h (by have:=h2 _ _ _ e;omega) k3⟩
mutual
def jy4:∀ {S:St} {F:aQ} {M R:List Ent} (h:ConX B ro e c S tm H nx ν F M R) (s:SV) {mv:bE} {s':SV},fK S.mv s=some (mv,s')->∃F' M' R',ConX B ro e c { S with mv:=mv } tm H nx ν F' M' R'/\(∀x∈F,x∈F')/\∀v,aJ ν F s v->aJ ν F' s' v
 | S,F,M,R,h,.own b,mv,s',hf=>by
   simp only[fK] at hf;split at hf<;>try (cases hf;done)
   rename_i t L cap hb;cases hf;obtain⟨E,hE,hp,_,⟨M',hM⟩,_⟩:=h.own hb;refine⟨_,_,_,hM,λx hx=>aZ.2 (.inr hx),λv hv=>?_⟩;obtain⟨k1,k2⟩:=Wy (F':=lW E++F) hE (λx hx=>aZ.2 (.inr hx)) (λx hx=>aZ.2 (.inl hx));obtain⟨rfl,_⟩:=hv;exact⟨hE.1,k1⟩
 | S,F,M,R,h,.view b o n cp z,mv,s',hf=>by
   simp only[fK] at hf;split at hf<;>try (cases hf;done)
   rename_i t L cap hb;obtain⟨hz,hf2⟩:=aR hf;rw[aL,aH] at hz;subst hz;cases hf2;obtain⟨E,hE,hp,_,⟨M',hM⟩,_⟩:=h.own hb;refine⟨_,_,_,hM,λx hx=>aZ.2 (.inr hx),λv hv=>?_⟩;obtain⟨k1,k2⟩:=Wy (F':=lW E++F) hE (λx hx=>aZ.2 (.inr hx)) (λx hx=>aZ.2 (.inl hx));exact j7m hE.1 k1 k2 rfl hv
 | S,F,M,R,h,.agg l,mv,s',hf=>by
   simp only[fK] at hf;split at hf<;>try (cases hf;done)
   rename_i mv' l' hl;cases hf;obtain⟨F',M',R',k1,k2,k3⟩:=Jt h l hl;exact⟨F',M',R',k1,k2,λv ⟨m,e1,hm⟩=>⟨m,e1,k3 m hm⟩⟩
 | S,F,M,R,h,.int _ _,mv,s',hf=>by simp only[fK,aG,aM] at hf;obtain⟨rfl,rfl⟩:=hf;exact⟨F,M,R,h,λ_ h=>h,λ_ h=>h⟩
 | S,F,M,R,h,.bool _,mv,s',hf=>by simp only[fK,aG,aM] at hf;obtain⟨rfl,rfl⟩:=hf;exact⟨F,M,R,h,λ_ h=>h,λ_ h=>h⟩
 | S,F,M,R,h,.str _,mv,s',hf=>by simp only[fK,aG,aM] at hf;obtain⟨rfl,rfl⟩:=hf;exact⟨F,M,R,h,λ_ h=>h,λ_ h=>h⟩
 | S,F,M,R,h,.fzn _ _,mv,s',hf=>by simp only[fK,aG,aM] at hf;obtain⟨rfl,rfl⟩:=hf;exact⟨F,M,R,h,λ_ h=>h,λ_ h=>h⟩
 | S,F,M,R,h,.fzx _ _,mv,s',hf=>by simp only[fK,aG,aM] at hf;obtain⟨rfl,rfl⟩:=hf;exact⟨F,M,R,h,λ_ h=>h,λ_ h=>h⟩
 | S,F,M,R,h,.fz _ _,mv,s',hf=>by simp only[fK,aG,aM] at hf;obtain⟨rfl,rfl⟩:=hf;exact⟨F,M,R,h,λ_ h=>h,λ_ h=>h⟩
 | S,F,M,R,h,.ag _ _ _,mv,s',hf=>by simp only[fK,aG,aM] at hf;obtain⟨rfl,rfl⟩:=hf;exact⟨F,M,R,h,λ_ h=>h,λ_ h=>h⟩
 | S,F,M,R,h,.tup _,mv,s',hf=>by simp only[fK,aG,aM] at hf;obtain⟨rfl,rfl⟩:=hf;exact⟨F,M,R,h,λ_ h=>h,λ_ h=>h⟩
 | S,F,M,R,h,.ptr _ _,mv,s',hf=>by simp only[fK,aG,aM] at hf;obtain⟨rfl,rfl⟩:=hf;exact⟨F,M,R,h,λ_ h=>h,λ_ h=>h⟩
 | S,F,M,R,h,.eptr _ _ _ _,mv,s',hf=>by simp only[fK,aG,aM] at hf;obtain⟨rfl,rfl⟩:=hf;exact⟨F,M,R,h,λ_ h=>h,λ_ h=>h⟩
 | S,F,M,R,h,.aptr _ _ _ _ _ _,mv,s',hf=>by simp only[fK,aG,aM] at hf;obtain⟨rfl,rfl⟩:=hf;exact⟨F,M,R,h,λ_ h=>h,λ_ h=>h⟩
 | S,F,M,R,h,.aptr2 _ _ _ _ _ _ _ _ _ _,mv,s',hf=>by simp only[fK,aG,aM] at hf;obtain⟨rfl,rfl⟩:=hf;exact⟨F,M,R,h,λ_ h=>h,λ_ h=>h⟩
 | S,F,M,R,h,.aview _ _ _ _ _,mv,s',hf=>by simp only[fK,aG,aM] at hf;obtain⟨rfl,rfl⟩:=hf;exact⟨F,M,R,h,λ_ h=>h,λ_ h=>h⟩
 | S,F,M,R,h,.sptr _,mv,s',hf=>by simp only[fK,aG,aM] at hf;obtain⟨rfl,rfl⟩:=hf;exact⟨F,M,R,h,λ_ h=>h,λ_ h=>h⟩
 | S,F,M,R,h,.mp _,mv,s',hf=>by simp only[fK,aG,aM] at hf;obtain⟨rfl,rfl⟩:=hf;exact⟨F,M,R,h,λ_ h=>h,λ_ h=>h⟩
 | S,F,M,R,h,.cptr _ _ _ _,mv,s',hf=>by simp only[fK,aG,aM] at hf;obtain⟨rfl,rfl⟩:=hf;exact⟨F,M,R,h,λ_ h=>h,λ_ h=>h⟩
 | S,F,M,R,h,.fptr _ _ _,mv,s',hf=>by simp only[fK,aG,aM] at hf;obtain⟨rfl,rfl⟩:=hf;exact⟨F,M,R,h,λ_ h=>h,λ_ h=>h⟩
 | S,F,M,R,h,.nptr _ _ _ _,mv,s',hf=>by simp only[fK,aG,aM] at hf;obtain⟨rfl,rfl⟩:=hf;exact⟨F,M,R,h,λ_ h=>h,λ_ h=>h⟩
 | S,F,M,R,h,.fn _ _ _,mv,s',hf=>by simp only[fK,aG,aM] at hf;obtain⟨rfl,rfl⟩:=hf;exact⟨F,M,R,h,λ_ h=>h,λ_ h=>h⟩
 | S,F,M,R,h,.tt,mv,s',hf=>by simp only[fK,aG,aM] at hf;obtain⟨rfl,rfl⟩:=hf;exact⟨F,M,R,h,λ_ h=>h,λ_ h=>h⟩
 | S,F,M,R,h,.ff,mv,s',hf=>by simp only[fK,aG,aM] at hf;obtain⟨rfl,rfl⟩:=hf;exact⟨F,M,R,h,λ_ h=>h,λ_ h=>h⟩
 | S,F,M,R,h,.nils,mv,s',hf=>by simp only[fK,aG,aM] at hf;obtain⟨rfl,rfl⟩:=hf;exact⟨F,M,R,h,λ_ h=>h,λ_ h=>h⟩
 | S,F,M,R,h,.nilp,mv,s',hf=>by simp only[fK,aG,aM] at hf;obtain⟨rfl,rfl⟩:=hf;exact⟨F,M,R,h,λ_ h=>h,λ_ h=>h⟩
 | S,F,M,R,h,.nilf,mv,s',hf=>by simp only[fK,aG,aM] at hf;obtain⟨rfl,rfl⟩:=hf;exact⟨F,M,R,h,λ_ h=>h,λ_ h=>h⟩
 | S,F,M,R,h,.nili,mv,s',hf=>by simp only[fK,aG,aM] at hf;obtain⟨rfl,rfl⟩:=hf;exact⟨F,M,R,h,λ_ h=>h,λ_ h=>h⟩
 | S,F,M,R,h,.nilm,mv,s',hf=>by simp only[fK,aG,aM] at hf;obtain⟨rfl,rfl⟩:=hf;exact⟨F,M,R,h,λ_ h=>h,λ_ h=>h⟩
 | S,F,M,R,h,.err _,mv,s',hf=>by simp only[fK,aG,aM] at hf;obtain⟨rfl,rfl⟩:=hf;exact⟨F,M,R,h,λ_ h=>h,λ_ h=>h⟩
 | S,F,M,R,h,.emp _,mv,s',hf=>by simp only[fK,aG,aM] at hf;obtain⟨rfl,rfl⟩:=hf;exact⟨F,M,R,h,λ_ h=>h,λ_ h=>h⟩
def Jt:∀ {S:St} {F:aQ} {M R:List Ent} (h:ConX B ro e c S tm H nx ν F M R) (l:List SV) {mv:bE} {l':List SV},xE S.mv l=some (mv,l')->∃F' M' R',ConX B ro e c { S with mv:=mv } tm H nx ν F' M' R'/\(∀x∈F,x∈F')/\∀m,bC ν F l m->bC ν F' l' m
 | S,F,M,R,h,[],mv,l',hf=>by simp only[xE,aG,aM] at hf;obtain⟨rfl,rfl⟩:=hf;exact⟨F,M,R,h,λ_ h=>h,λ_ h=>h⟩
 | S,F,M,R,h,s::l,mv,l',hf=>by
   simp only[xE] at hf;split at hf<;>try (cases hf;done)
   rename_i mv1 s1 h1;split at hf<;>try (cases hf;done)
   rename_i mv2 l2 h2;cases hf;obtain⟨F1,M1,R1,k1,k2,k3⟩:=jy4 h s h1;obtain⟨F2,M2,R2,j1,j2,j3⟩:=Jt (S:={ S with mv:=mv1 }) k1 l h2;refine⟨F2,M2,R2,j1,λx hx=>j2 x (k2 x hx),?_⟩;rintro m ⟨v,m',rfl,q1,q2⟩;exact⟨v,m',rfl,nW j2 _ _ (k3 v q1),j3 m' (jT k2 _ _ q2)⟩
end
def jq7:SV->Option Ty
 | .int k _=>some (.int k)
 | .bool _ | .tt | .ff=>some .bool
 | .str _=>some .str
 | .fz t _=>some (.sl t)
 | _=>none
def je0:List SV->Option Ty
 | []=>none
 | s::l=>match l with
   | []=>jq7 s
   | _::_=>match jq7 s,je0 l with
     | some a,some b=>some (.prod a b)
     | _,_=>none
abbrev NS:=Option (Option Bool×SV×St)
def Xp {F:aQ} {k:IntKind}:∀ {L:List Int} {l:List AV},bO (aX F (.int k)) L l->l=L.map (AV.int k)
 | [],l,h=>h
 | x::L,l,⟨l1,l2,e,h1,h2⟩=>by
   simp only[aX] at h1;rw[e,h1,Xp h2];rfl
def je2:∀ {L:List Int},(L.all λx=>decide (0<=x)&&decide (x<=255))=true->yY (L.map (AV.int .u8))=some (L.map Int.toNat)
 | [],_=>rfl
 | x::L,h=>by
   simp only[vS,aN,aH] at h;obtain⟨⟨h0,h1⟩,h2⟩:=h;obtain⟨n,rfl⟩:=qgm h0;have hn:n.ble 255=true:=by rw[aP,aH];omega
   show yY (.int .u8 (.ofNat n)::L.map (AV.int .u8))=_;simp only[yY,hn,aB,je2 h2];rfl
def jb2 (g:Opd->Option SV) (e:Env) (S:St) (hn:Option Ty):I->NS
 | .box x=>match g x with
   | some (.ag n t L)=>bif fresh e S then some (none,.ptr S.nc 0,kT S (.fix t n L)) else none
   | some s=>bif fresh e S&&s.cells.all SV.one&& !(SV.hasL S.nc s.cells) then some (none,.ptr S.nc 0,kT S (.lit s.cells)) else none
   | none=>none
 | .alloc z=>match vH z with
   | some l=>bif fresh e S&& !(SV.hasL S.nc l) then(match hn with
     | some (.arr n t)=>(jE qW (.arr n t) l).map λL=>(none,.ptr S.nc 0,kT S (.fix t n L))
     | _=>some (none,.ptr S.nc 0,kT S (.lit l))) else none
   | none=>none
 | .bsl z n zs ps=>match vH zs,Mu g ps with
   | some l,some ps=>match Jn l ps with
     | some l=>bif n.beq 0&&hn.isNone then(bif !(z.beq 0)&&l.length.beq 0 then some (none,.emp z,S) else none) else match xE S.mv l with
       | some (mv,l)=>match (match hn with
          | some t=>some t
          | none=>je0 (l.take z)) with
         | some t=>match Fi (jE qW t) t.size n l with
           | some L=>bif fresh e { S with mv:=mv }&&t.size.beq z&& !(z.beq 0)&&(n*z).ble 1000000 then some (none,.own S.nc,kT { S with mv:=mv } (.arr t L (some n))) else none
           | none=>none
         | none=>none
       | none=>none
     | none=>none
   | _,_=>none
 | .mksl z bytes zs l k=>match vH zs,g l,g k with
   | some zs,some (.int _ l),some (.int _ k)=>match (match hn with
      | some t=>some t
      | none=>je0 zs) with
     | some t=>match jE qW t zs with
       | some x=>bif fresh e S&&t.size.beq z&& !(z.beq 0)&&bytes.ble 1000 then some (some (decide (0<=l)&&decide (l<=k)&&decide (k<=1000000)),.own S.nc,kT S (.arr t (List.replicate l.toNat x) (some k.toNat))) else none
       | none=>none
     | none=>none
   | _,_,_=>none
 | .slA n z x lo hi mx=>match g x with
   | some (.ptr b 0)=>match cL e.G b with
     | some (.fix t n' L)=>bif lo.isSome||hi.isSome||mx.isSome then none else bif n.beq n'&&t.size.beq z&& !(z.beq 0) then some (none,.fz t L,S) else none
     | _=>match look e S b with
       | some (.fix t n' L)=>bif n.beq n'&&t.size.beq z&& !(z.beq 0)&&mx.isNone then(match gJ g lo 0,gJ g hi n with
         | some l,some h=>some (some (cT l h n),.aview b n l.toNat (h.toNat-l.toNat) z,S)
         | _,_=>none) else none
       | _=>none
   | _=>none
 | .b2s x=>match g x with
   | some (.aview b n o m z)=>match look e S b with
     | some (.fix (.int .u8) n' L)=>bif n.beq n'&&z.beq 1 then some (some (((List.take m (List.drop o (L:List Int))).all λx=>decide (0<=x)&&decide (x<=255))),.str ((List.take m (List.drop o (L:List Int))).map Int.toNat),S) else none
     | _=>none
   | some (.own b)=>match look e S b with
     | some (.arr (.int .u8) L _)=>some (some ((L:List Int).all λx=>decide (0<=x)&&decide (x<=255)),.str ((L:List Int).map Int.toNat),S)
     | _=>none
   | _=>none
 | _=>none
section
variable {g:Opd->Option SV} (hg:∀x s,g x=some s->aJ ν F s (aT tm x))
include hg
def j07 {call:FuncId->List AV->Tr Blk->Nat->Nat->bN} {rr:Nat} (h:ConX B ro e c S tm H nx ν F M R) {hn:Option Ty} {i:I} {cc:Option Bool} {s:SV} {S':St} (hs:jb2 g e S hn i=some (cc,s,S')) (hc:dT cc=true):
  ∃v H' nx' ν' F' M' R',hop call rr (aT tm) H nx i=some (v,H',nx')/\ConX B ro e c S' tm H' nx' ν' F' M' R'/\aJ ν' F' s v/\S'.fr=S.fr:=by
 cases i<;>simp only[jb2] at hs<;>try (cases hs;done)
 case box x=>
  split at hs<;>try (cases hs;done)
  ·rename_i n t L hx;obtain⟨hf,h2⟩:=aR hs;cases h2;obtain⟨m,e1,hl,hm⟩:=hg _ _ hx;refine⟨.ptr nx 0,_,_,_,F,_,R,?_,h.newc (l:=m) (hdr:=.nils) hf ?_,?_,rfl⟩
   ·simp only[hop,e1,gD,iA]
   ·exact⟨true,m,by rw[eI],hl,hm⟩
   ·simp only[aJ,eI]
  ·rename_i s' _ hx;obtain⟨hf,h2⟩:=aR hs;cases h2;simp only[aN,fB] at hf;have hcs:=Xs hf.1.2 (hg _ _ hx);refine⟨.ptr nx 0,_,_,_,F,_,R,?_,h.newc (l:=gD (aT tm x)) (hdr:=.nils) hf.1.1 ?_,?_,rfl⟩
   ·simp only[hop,iA]
   ·exact⟨true,_,by rw[eI],qE _ _ hf.2 hcs⟩
   ·simp only[aJ,eI]
 case alloc z=>
  split at hs<;>try (cases hs;done)
  rename_i l hz;obtain⟨hf,h2⟩:=aR hs;simp only[aN,fB] at hf;have hl:=Fd (F:=F) h.gl.1 hz;split at h2
  ·rename_i n t;obtain⟨L,hL,e1⟩:=map_some h2;cases e1;obtain⟨k1,k2⟩:=lL qB (.arr n t) hL hl;refine⟨.ptr nx 0,_,_,_,F,_,R,?_,h.newc (l:=z) (hdr:=.nils) hf.1 ?_,?_,rfl⟩
   ·simp only[hop,iA]
   ·exact⟨true,z,by rw[eI],k1,k2⟩
   ·simp only[aJ,eI]
  ·cases h2;refine⟨.ptr nx 0,_,_,_,F,_,R,?_,h.newc (l:=z) (hdr:=.nils) hf.1 ?_,?_,rfl⟩
   ·simp only[hop,iA]
   ·exact⟨true,z,by rw[eI],qE _ _ hf.2 hl⟩
   ·simp only[aJ,eI]
 case bsl z n zs ps=>
  split at hs<;>try (cases hs;done)
  rename_i l0 ps' hz hp;split at hs<;>try (cases hs;done)
  rename_i l hl;obtain⟨k1,k2⟩:=jdm hg hp;obtain⟨m,e1,hm⟩:=jab hl (Fd h.gl.1 hz) k2 (by simpa using k1);cases hn0:n.beq 0&&hn.isNone with
  | true=>
    rw[hn0] at hs;obtain⟨hb,h2⟩:=aR hs;simp only[aN,fB,aL,aH,eH] at hb;cases h2;simp only[aN,aL,aH] at hn0;obtain⟨hn0,_⟩:=hn0;subst hn0;have hm0:m=[]:=oK (by rw[<-jL hm];exact hb.2);subst hm0;have hk:=h.hk.cells [];refine⟨.sl nx 0 0 (some 0) z,_,_,ν,(nx,.cells [])::F,M,⟨nx,true,.cells []⟩::R,?_,⟨hk.perm ?_,λn v hv=>nW (λ_ h=>bX _ h) _ _ (h.fr n v hv),jT (λ_ h=>bX _ h) _ _ h.ov,zD (λ_ h=>bX _ h) h.mv,h.wr,zC (λ_ h=>bX _ h) h.mc,λx hx=>?_,h.gl⟩,.inr ⟨nx,0,[],rfl,bY ..,aU _⟩,rfl⟩
    ·have e2:(z.beq 0|| !((0*z).ble 1000000))=false:=by rw[aL,aP];simp[hb.1]
     have e3:(([]:List AV).length.beq (0*z))=true:=by rw[aL];simp
     simp only[hop,e2,aF,e1,e3,aB,iA]
    ·rw[eW];have:(M++(c.Mc++⟨nx,true,.cells []⟩::(R++c.O0))).Perm (⟨nx,true,.cells []⟩::(M++(c.Mc++(R++c.O0)))):=by
      rw[<-cD,<-cD M];exact List.perm_middle
     exact this
    ·rcases bL.1 hx with rfl | hx
     ·exact .inl .here
     ·rcases h.fz x hx with h3 | h3
      ·exact .inl (.there h3)
      ·exact .inr h3
  | false=>
    rw[hn0] at hs;simp only[aF] at hs;split at hs<;>try (cases hs;done)
    rename_i mv l' hfz;split at hs<;>try (cases hs;done)
    rename_i t _;split at hs<;>try (cases hs;done)
    rename_i L hL;obtain⟨hb,h2⟩:=aR hs;simp only[aN,fB,aL,aH,eH,aP] at hb;obtain⟨⟨⟨hf,rfl⟩,hz0⟩,hbig⟩:=hb;cases h2;obtain⟨F1,M1,R1,q1,q2,q3⟩:=Jt h l hfz;have hm':=q3 m hm;obtain⟨j1,j2⟩:=jci (P:=aX F1 t) (λl m x h k=>lL qB t h k) hL hm';have hlen:=jK (cV t) j2;rw[j1] at hlen;refine⟨.sl nx 0 n (some n) t.size,_,_,_,F1,_,R1,?_,q1.newc (S:={ S with mv:=mv }) (l:=m) (hdr:=.sl nx 0 n (some n) t.size) hf ?_,?_,rfl⟩
    ·have e2:(t.size.beq 0|| !((n*t.size).ble 1000000))=false:=by rw[aL,aP];simp[hz0,hbig]
     have e3:(m.length.beq (n*t.size))=true:=by rw[aL];simp[hlen]
     simp only[hop,e2,aF,e1,e3,aB,iA]
    ·refine⟨hz0,.inr ⟨true,m,by rw[eI],?_,?_,rV (qC t) j2⟩⟩
     ·rw[eI];refine .inr ⟨some n,m.length,by rw[j1],rfl,by rw[j1,hlen];exact aU _,λy hy=>?_,λy hy=>hy⟩;cases hy;exact⟨by rw[hlen];exact aU _,by rw[j1];exact aU _⟩
     ·rw[j1,<-hlen,mC];exact j2
    ·simp only[aJ,eI];exact⟨trivial,rfl⟩
 case mksl z bytes zs l k=>
  split at hs<;>try (cases hs;done)
  rename_i zs' k1 l1 k2 l2 hz hl hk;split at hs<;>try (cases hs;done)
  rename_i t _;split at hs<;>try (cases hs;done)
  rename_i x hx;obtain⟨hb,h2⟩:=aR hs;simp only[aN,fB,aL,aH,eH,aP] at hb;obtain⟨⟨⟨hf,rfl⟩,hz0⟩,hbig⟩:=hb;cases h2;simp only[dT,aN,aH] at hc;obtain⟨⟨c0,c1⟩,c2⟩:=hc;have hr:=lL qB t hx (Fd (F:=F) h.gl.1 hz);have hzl:=cV t _ _ hr;have e1:=hg _ _ hl;have e2:=hg _ _ hk;simp only[aJ] at e1 e2;have hlen:((List.replicate l2.toNat zs).flatten).length=l2.toNat*t.size:=by rw[List.length_flatten];simp[hzl]
  refine⟨.sl nx 0 l1.toNat (some l2.toNat) t.size,_,_,_,F,_,R,?_,h.newc (l:=(List.replicate l2.toNat zs).flatten) (hdr:=.sl nx 0 l1.toNat (some l2.toNat) t.size) hf ?_,?_,rfl⟩
  ·rw[Iq c0] at e1;rw[Iq (show 0<=l2 by omega)] at e2;have e3:(l1.toNat.ble l2.toNat&&l2.toNat.ble 1000000&&bytes.ble 1000&& !(t.size.beq 0)&&zs.length.beq t.size)=true:=by
    simp only[aN,aP,aL,aH,fB,eH];exact⟨⟨⟨⟨by omega,by omega⟩,hbig⟩,hz0⟩,hzl⟩
   simp only[hop,e1,e2,e3,aB,iA]
  ·refine⟨hz0,.inr ⟨true,_,by rw[eI],?_,?_,rV (qC t) (Xq hr l2.toNat)⟩⟩
   ·rw[eI];refine .inr ⟨some l2.toNat,_,by simp,rfl,?_,λy hy=>?_,λy hy=>hy⟩
    ·rw[hlen,Tj];exact iB _ (by omega)
    ·cases hy;rw[Tj,hlen];exact⟨aU _,by omega⟩
   ·have h1:=uM (cV t) l1.toNat (Xq hr l2.toNat);rw[List.take_replicate,oL (by omega)] at h1;rw[Tj];exact h1
  ·simp only[aJ,eI];exact⟨trivial,rfl⟩
 case b2s x=>
  split at hs<;>try (cases hs;done)
  rotate_left
  ·rename_i b hx;split at hs<;>try (cases hs;done)
   rename_i L cap hb;cases hs;obtain⟨e1,_⟩:=hg _ _ hx;obtain⟨F',E,⟨_,hE1⟩,_,hE⟩:=h.look hb;refine⟨.str ((L:List Int).map Int.toNat),H,nx,ν,F,M,R,?_,h,rfl,rfl⟩;rcases hE1 with⟨hd,_⟩ | ⟨w,l,rfl,hd,hr,_⟩
   ·rcases hd with⟨e2,_,e3,_⟩ | ⟨_,_,_,e2,_⟩
    ·have e3:L=([]:List Int):=oK e3;subst e3;rw[e2] at e1;simp only[hop,e1,nO]
    ·cases e2
   ·rcases hd with⟨_,e2,_⟩ | ⟨c',n',e2,e3,hle,_⟩
    ·cases e2
    ·cases e3;obtain⟨_,cc,hcc,hcl⟩:=hE _ (bF.2 rfl);rw[e2] at e1;have hle:(L:List Int).length*1<=l.length:=hle;rw[Gd] at hle;have hr:l.take ((L:List Int).length)=(L:List Int).map (AV.int .u8):=Xp (by rw[<-Gd ((L:List Int).length)];exact hr);have hat:=take_at (H:=H) (b:=(ν b).1) hcl (L:List Int).length 0 (by omega);rw[fZ,hr] at hat;have e3:(Nat.beq 1 1&&(0+ (L:List Int).length).ble l.length)=true:=by
      rw[aP];simp;omega
     simp only[hop,e1,hcc,Ty.size,e3,aB,hat,je2 hc,Dw]
  rename_i b n o m z hx;split at hs<;>try (cases hs;done)
  rename_i n' L hb;obtain⟨hb1,h2⟩:=aR hs;simp only[aN,aL,aH] at hb1;obtain⟨rfl,rfl⟩:=hb1;cases h2;obtain⟨⟨c,e1⟩,hle⟩:=hg _ _ hx;obtain⟨F',E,⟨w,l,rfl,hL,hr⟩,_,hE⟩:=h.look hb;obtain⟨_,cc,hcc,hcl⟩:=hE _ (bF.2 rfl);have hl:l=(L:List Int).map (AV.int .u8):=Xp hr;subst hl;have hLn:(L:List Int).length=n:=hL;rw[Gd] at e1;have hat:=take_at (H:=H) (b:=(ν b).1) hcl m o (by rw[dM];omega);rw[<-List.map_drop,<-Lp] at hat;refine⟨.str (((List.take m (List.drop o (L:List Int)))).map Int.toNat),H,nx,ν,F,M,R,?_,h,rfl,rfl⟩;have e3:(Nat.beq 1 1&&(o+m).ble ((L:List Int).map (AV.int .u8)).length)=true:=by
   rw[dM,aP];simp;omega
  simp only[hop,e1,hcc,e3,aB,hat,je2 hc,Dw]
 case slA n z x lo hi mx=>
  split at hs<;>try (cases hs;done)
  rename_i b hx;split at hs
  rotate_left
  ·rename_i hG;split at hs<;>try (cases hs;done)
   rename_i t n' L hb;obtain⟨hb1,h2⟩:=aR hs;simp only[aN,fB,aL,aH,eH,qe4] at hb1;obtain⟨⟨⟨rfl,rfl⟩,hz⟩,rfl⟩:=hb1;split at h2<;>try (cases h2;done)
   rename_i l0 h0 hlo hhi;cases h2;obtain⟨c0,c1,c2⟩:=fH.1 hc;obtain⟨F',E,⟨w,l,rfl,hL,hr⟩,_,hE⟩:=h.look hb;obtain⟨_,cc,hcc,hcl⟩:=hE _ (bF.2 rfl);have hlen:=jK (cV t) hr;have e1:=hg _ _ hx;simp only[aJ] at e1;have hbd:=rY (g':=aT tm) hg (len:=n) (cap:=n) hlo hhi c0 c1 c2;refine⟨.sl (ν b).1 (0+l0.toNat*t.size) (h0.toNat-l0.toNat) (some (n-l0.toNat)) t.size,H,nx,ν,F,M,R,?_,h,⟨⟨_,by rw[iC]⟩,by omega⟩,rfl⟩;have e2:(t.size.beq 0|| !((0+n*t.size).ble l.length))=false:=by
    rw[aL,aP,hlen,hL];simp[hz]
   simp only[hop,e1,hcc,e2,aF,kE,hbd]
  rename_i t n' L hG;obtain⟨hb,hs⟩:=tU hs;simp only[nK,Option.isSome_eq_false_iff,qe4] at hb;obtain⟨⟨rfl,rfl⟩,rfl⟩:=hb;obtain⟨hb,h2⟩:=aR hs;simp only[aN,fB,aL,aH,eH] at hb;obtain⟨⟨rfl,rfl⟩,hz⟩:=hb;cases h2;obtain⟨_,_,_,E,g1,g2⟩:=h.gl.2 _ _ hG;obtain⟨w,l,rfl,hL,hr⟩:=g1;obtain⟨k1,k2⟩:=g2 _ (bF.2 rfl);have hlen:=jK (cV t) hr;have e1:=hg _ _ hx;simp only[aJ] at e1;have hH:HB.At H (ν b).1 (.cells l):=k2.congr (h.hk.base _ k1);have up:∀x∈F,x∈((ν b).1,HB.cells l)::F:=λ_ h=>bX _ h
  refine⟨.sl (ν b).1 0 n (some n) t.size,H,nx,ν,((ν b).1,.cells l)::F,M,R,?_,⟨h.hk,λn v hv=>nW up _ _ (h.fr n v hv),jT up _ _ h.ov,zD up h.mv,h.wr,zC up h.mc,λx hx=>?_,h.gl⟩,⟨hz,.inr ⟨(ν b).1,0,some n,l,by rw[hL],bY ..,λc hc=>?_,?_,?_⟩⟩,rfl⟩
  ·obtain⟨cc,hcc,_⟩:=hH;have e2:(t.size.beq 0|| !((0+n*t.size).ble l.length))=false:=by
    rw[aL,aP,hlen,hL];simp[hz]
   have e3:mZ n n none none none=some (0,n,n):=rfl;simp only[hop,e1,hcc,e2,aF,kE,e3,sR,iV,nN]
  ·rcases bL.1 hx with rfl | hx
   ·exact .inr ⟨k1,k2⟩
   ·exact h.fz x hx
  ·cases hc;rw[hL];exact aU _
  ·rw[hlen];simp
  ·rw[fZ,<-hlen,mC];exact lB (λ_ _ h=>gY (λ_ h=>(by cases h)) t _ _ h) hr
end
end X
end Go.Vm
namespace Go.Vm
namespace X
open W
variable {B:Base} {ro:Nat} {e:Env} {c:Cnv} {S:St} {tm:Tr AV} {H:Tr Blk} {nx:Nat} {ν:Nm} {F:aQ} {M R:List Ent}
def jfu (ν:Nm) (F' F:aQ) (lm:Nat->Option SB):Prop:=∀b t L cap,lm b=some (.arr t L cap)->jU F' t.size (bO (aX F t)) (L:List t.den) (ν b).2/\
 ∀o len cp,(ν b).2=.sl (ν b).1 o len cp t.size->len=List.length (α:=t.den) L
def Xy {α:Type} {F':aQ} (hF:∀x∈F,x∈F') {z:Nat} {P:List α->List AV->Prop} {x:List α} {v:AV} (k:jU F z P x v):jU F' z P x v:=Pf hF (λ_ _ h=>h) k
def jnt {lm:Nat->Option SB} {F':aQ} (hF:∀x∈F,x∈F') (ho:jfu ν F' F lm) {t:Ty} {s:SV} {x:List t.den} (h:vL lm t s=some x) {v:AV} (hv:aJ ν F s v):jU F' t.size (bO (aX F t)) x v:=by
 unfold vL at h;split at h<;>try (cases h;done)
 ·rename_i t' L;split at h<;>try (cases h;done)
  rename_i e;subst e;cases h;exact Xy hF hv.2
 ·rename_i t' L;split at h<;>try (cases h;done)
  rename_i e;subst e;cases h;exact Xy hF (.inr hv.2)
 ·rename_i t' L;split at h<;>try (cases h;done)
  rename_i e;subst e;cases h;exact Xy hF hv.2.sl
 ·rename_i b;split at h<;>try (cases h;done)
  rename_i t' L cap hb;split at h<;>try (cases h;done)
  rename_i e;subst e;cases h;obtain⟨rfl,_⟩:=hv;exact(ho _ _ _ _ hb).1
 ·rename_i b o n cp z;split at h<;>try (cases h;done)
  rename_i t' L cap hb;obtain⟨hz,h2⟩:=aR h;rw[aL,aH] at hz;split at h2<;>try (cases h2;done)
  rename_i e;subst e;subst hz;cases h2;obtain⟨k1,k2⟩:=ho _ _ _ _ hb;rcases hv with⟨rfl,rfl,_⟩ | ⟨c',rfl,h1,h3,len,cp',e,h5,_⟩
  ·exact .inl ⟨by simp,rfl⟩
  ·rw[e] at k1;exact Xz (cV t') k1 (by have:=k2 _ _ _ e;omega) h3
 ·cases h;simp only[aJ] at hv;exact .inl ⟨rfl,hv⟩
 ·rename_i z;obtain⟨hz,h2⟩:=aR h;rw[aL,aH] at hz;subst hz;cases h2;rcases hv with rfl | ⟨b,o,l,rfl,h1,h2⟩
  ·exact .inl ⟨rfl,rfl⟩
  ·exact .inr ⟨b,o,some 0,l,rfl,hF _ h1,λ_ _=>fM _,by simpa using h2,by simp[bO]⟩
def jt7 {b:Nat} {t:Ty} {L:List t.den} {cap:Option Nat} {E:List Ent} (h:dR ν F b (.arr t L cap) E) {F':aQ} (hE:∀x∈lW E,x∈F'):
  jU F' t.size (bO (aX F t)) L (ν b).2/\∀o len cp,(ν b).2=.sl (ν b).1 o len cp t.size->len=L.length:=by
 obtain⟨h0,h⟩:=h;rcases h with⟨hd,rfl⟩ | ⟨w,m,rfl,hd,hm,ha⟩
 ·rcases hd with⟨e1,_,e2,_⟩ | ⟨_,_,_,e1,_⟩
  ·refine⟨.inl ⟨oK e2,e1⟩,λo len cp e3=>?_⟩;rw[e1] at e3;cases e3
  ·cases e1
 ·rcases hd with⟨_,e1,_⟩ | ⟨c',n,e1,e2,h1,h3,h4⟩
  ·cases e1
  ·cases e2;refine⟨.inr ⟨(ν b).1,0,c',m,e1,hE _ (by simp[lW]),λx hx=>(h3 x hx).2,by omega,?_⟩,λo len cp e3=>?_⟩
   ·rw[fZ];exact hm
   ·rw[e1] at e3;cases e3;rfl
def Ih (F:aQ) (c:Cnv) (M:List Ent):aQ:=F++lW (M++c.Mc)
def ConX.allAt (h:ConX B ro e c S tm H nx ν F M R):∀x∈Ih F c M,x.1<nx/\x.2.At H x.1:=by
 intro x hx;rcases aZ.1 hx with hx | hx
 ·exact h.fact hx
 ·obtain⟨y,hy,rfl⟩:=bU.1 hx;have hm:y∈M++(c.Mc++(R++c.O0)):=by
   rcases aZ.1 hy with h1 | h1<;>simp[h1]
  exact⟨(h.hk.ent y hm).1,(h.hk.ent y hm).2.2⟩
def ConX.ownR (h:ConX B ro e c S tm H nx ν F M R):jfu ν (Ih F c M) F (X.look e S):=by
 intro b t L cap hl;unfold X.look at hl;split at hl
 ·rename_i y hy;cases hl;obtain⟨M1,E,M2,e1,g1,_⟩:=wM (uJ h.mv h.mcm) hy;refine jt7 g1 λx hx=>aZ.2 (.inr ?_)
  rw[e1];obtain⟨z,hz,rfl⟩:=bU.1 hx;exact bU.2 ⟨z,by simp[hz],rfl⟩
 ·obtain⟨_,_,h3,_⟩:=h.gl.2 _ _ hl;cases h3
def ConX.heads (h:ConX B ro e c S tm H nx ν F M R):Xd ν (X.look e S):=by
 intro b t L cap hl;obtain⟨F',E,⟨h0,h1⟩,_⟩:=h.look hl;rcases h1 with⟨hd,_⟩ | ⟨w,m,_,hd,_⟩
 ·exact⟨h0,_,hd⟩
 ·exact⟨h0,_,hd⟩
def j7v {α:Type} {F':aQ} {z:Nat} {P:List α->List AV->Prop} (hAt:∀x∈F',x.1<nx/\x.2.At H x.1) (hnil:∀l,P [] l->l=[]) (hnil':P [] []) {L:List α} {v:AV} (h:jU F' z P L v):
  jJ v=some L.length/\∃new,iO z H L.length v=some new/\P L new:=by
 rcases h with⟨rfl,rfl⟩ | ⟨b,o,cap,l,rfl,h1,h2,h3,h4⟩
 ·exact⟨rfl,[],rfl,hnil'⟩
 ·obtain⟨tc,k1,k2⟩:=(hAt _ h1).2;refine⟨rfl,_,?_,h4⟩;simp only[iO,dP,aP,aU,bA,nM,aB,k1,h3,take_at (H:=H) (b:=0) k2 _ _ h3]
def qJ (lm:Nat->Option SB) (t:Ty):SV->Option (List t.den)
 | .str s=>match t with
   | .int .u8=>some (s.map Int.ofNat)
   | _=>none
 | s=>vL lm t s
def Qc (lm:Nat->Option SB):SV->Option ((t:Ty)×List t.den)
 | .fz t L=>some ⟨t,L⟩
 | .own b=>match lm b with
   | some (.arr t L cap)=>some ⟨t,L⟩
   | _=>none
 | .view b o n c z=>match lm b with
   | some (.arr t L cap)=>bif z.beq t.size then some ⟨t,(L.drop o).take n⟩ else none
   | _=>none
 | .str s=>some ⟨.int .u8,s.map Int.ofNat⟩
 | _=>none
def jdu (F:aQ):∀(st:List Nat),bO (aX F (.int .u8)) (st.map Int.ofNat) (st.map λc=>AV.int .u8 (.ofNat c))
 | []=>rfl
 | a::st=>⟨[_],_,rfl,rfl,jdu F st⟩
def Dm (h:ConX B ro e c S tm H nx ν F M R) {t:Ty} {s:SV} {x:List t.den} (hd:qJ (look e S) t s=some x) {v:AV} (hv:aJ ν F s v):
  jJ v=some x.length/\∃new,iO t.size H x.length v=some new/\bO (aX F t) x new:=by
 unfold qJ at hd;split at hd
 ·rename_i s;split at hd<;>try (cases hd;done)
  cases hd;simp only[aJ] at hv;subst hv;refine⟨by simp[jJ],_,?_,jdu F s⟩;simp[iO,Ty.size,aP]
 ·exact j7v (P:=bO (aX F t)) h.allAt (λl h=>by simpa[bO] using h) rfl (jnt (λx hx=>aZ.2 (.inl hx)) h.ownR hd hv)
def jiu (h:ConX B ro e c S tm H nx ν F M R) {s:SV} {t:Ty} {x:List t.den} (hd:Qc (look e S) s=some ⟨t,x⟩) {v:AV} (hv:aJ ν F s v):
  jJ v=some x.length/\∃new,iO t.size H x.length v=some new/\bO (aX F t) x new:=by
 refine Dm h (s:=s) ?_ hv;unfold Qc at hd;unfold qJ;split at hd
 ·cases hd;simp only[vL,dite_true]
 ·split at hd<;>try (cases hd;done)
  rename_i hb;cases hd;simp only[vL,hb,dite_true]
 ·split at hd<;>try (cases hd;done)
  rename_i hb;obtain⟨hz,h2⟩:=aR hd;cases h2;simp only[vL,hb,hz,aB,dite_true]
 ·cases hd;rfl
 ·cases hd
def tK (cap:Option Nat) (n:Nat):Option Nat:=match cap with
 | none=>none
 | some c=>bif n.ble c then some c else none
def eP (n:Nat):Bool:=n.ble 10000000
def Kh {n:Nat}:eP n=true↔n<=10000000:=by simp[eP,aP]
def Pi (e:Env) (S:St) (q:Bool) (z bytes:Nat) (x y:SV):NS:=
 bif bytes.ble 1000&& !(z.beq 0) then(match x with
  | .own b=>match cL S.mv b with
    | some (.arr t L cap)=>bif t.size.beq z&& !q&&fresh e { S with mv:=eM S.mv b } then(match qJ (look e S) t y with
      | some N=>some (some (eP (L.length+N.length)),.own S.nc,kT { S with mv:=eM S.mv b } (.arr t (L++N) (tK cap (L.length+N.length))))
      | none=>none) else none
    | _=>none
  | .nils=>match Qc (look e S) y with
    | some ⟨t,N⟩=>bif t.size.beq z&&fresh e S then some (some (eP N.length),.own S.nc,kT S (.arr t N none)) else none
    | none=>none
  | .emp z'=>match Qc (look e S) y with
    | some ⟨t,N⟩=>bif t.size.beq z&&z'.beq z&&fresh e S then some (some (eP N.length&&decide (0<N.length)),.own S.nc,kT S (.arr t N none)) else none
    | none=>none
  | .view b o n (some cp) z'=>match cL S.mv b with
    | some (.arr t L cap)=>bif t.size.beq z&&z'.beq z&&fresh e { S with mv:=eM S.mv b } then(match qJ (look e S) t y with
      | some N=>some (some (eP (n+N.length)&&o.beq 0&&decide (cp<=L.length)&&(decide (cp<n+N.length)||decide (N.length=0))),.own S.nc,kT { S with mv:=eM S.mv b } (.arr t (L.take n++N) none))
      | none=>none) else none
    | _=>none
  | .fz t L=>none
  | _=>none) else none
def Af {call:FuncId->List AV->Tr Blk->Nat->Nat->bN} {tm:Tr AV} {H:Tr Blk} {nx rr z bytes:Nat} {x y:Opd} {k len:Nat} {new:List AV} (h1:jJ (aT tm y)=some k) (h2:jJ (aT tm x)=some len) (h3:iO z H k (aT tm y)=some new)
  (h4:len+k<=10000000) (hb:bytes<=1000) (hz:z≠0) (h5:new.all hZ=true):hop call rr (aT tm) H nx (.app z bytes x y)=jM z rr H nx (aT tm x) k new:=by
 have e:((len+k).ble 10000000&&bytes.ble 1000&& !(z.beq 0))=true:=by rw[aP,aP,aL];simp[h4,hb,hz]
 simp only[hop,h1,h2,e,aB,h3,h5]
def j08 {b:Nat} {t:Ty} {L:List t.den} {m:List AV} {cap:Option Nat} {n nx:Nat} (h0:t.size≠0) (hm:bO (aX F t) L m) (hn:n=L.length) (hcap:cap=none):
  dR (ν.upd b (nx,.sl nx 0 n none t.size)) F b (.arr t L cap) [⟨nx,true,.cells m⟩]:=by
 subst hn;subst hcap;have hlen:=jK (cV t) hm;refine⟨h0,.inr ⟨true,m,by rw[eI],?_,?_,rV (qC t) hm⟩⟩
 ·rw[eI];exact .inr ⟨none,m.length,rfl,rfl,by rw[hlen];exact aU _,λ_ h=>(by cases h),λ_ h=>h⟩
 ·rw[<-hlen,mC];exact hm
def ConX.ren (h:ConX B ro e c S tm H nx ν F M R) {b:Nat} {sb:SB} (hb:cL S.mv b=some sb) (hf:fresh e { S with mv:=eM S.mv b }=true):
  ∃E,dR ν F b sb E/\(∀x∈E,x.w=true/\rx ro<=x.b/\x.b<nx/\x.c.At H x.b)/\
  (∀x' sb',dR (ν.upd S.nc x') F S.nc sb' E->∃M',ConX B ro e c (kT { S with mv:=eM S.mv b } sb') tm H nx (ν.upd S.nc x') F M' R)/\
  (∀x' blk x y k sb',E=[⟨blk,true,x⟩]->y.At (H.set blk k) blk->dR (ν.upd S.nc x') F S.nc sb' [⟨blk,true,y⟩]->∃M',ConX B ro e c (kT { S with mv:=eM S.mv b } sb') tm (H.set blk k) nx (ν.upd S.nc x') F M' R)/\
  (∀blk x,E=[⟨blk,true,x⟩]->∃M',ConX B ro e c { S with mv:=eM S.mv b } tm (H.del blk) nx ν F M' R)/\∃M',ConX B ro e c { S with mv:=eM S.mv b } tm H nx ν F M' R:=by
 obtain⟨E,h1,h2,_,_,hdel,M',hp,hm,hw⟩:=h.own hb;simp only[fresh,aN,fB,jal,nK] at hf;obtain⟨⟨⟨f1,f2⟩,f3⟩,f4,f5⟩:=hf;have hn:S.nc<gB:=by
  have:S.nc+1<=gB:=by simpa[Nat.blt] using f1
  omega
 have hk:=h.hk.perm hp;refine⟨E,h1,h2,λx' sb' hsb=>⟨E++M',?_⟩,λx' blk x y k sb' hE hy hsb=>⟨[⟨blk,true,y⟩]++M',?_⟩,hdel,M',hk.sub (Bh ..),h.fr,h.ov,hm,hw,h.mc,h.fz,h.gl⟩
 ·refine⟨by simpa using hk,λn v hv=>Pd _ _ (Ru f2 hv) (h.fr n v hv),qE _ _ f3 h.ov,⟨E,M',rfl,hsb,Oo f4 hm⟩,λz hz=>?_,On f5 h.mc,h.fz,h.gl.upd hn⟩;rcases aZ.1 hz with hz | hz
  ·exact(h2 z hz).1
  ·exact hw z hz
 ·subst hE;have hk2:=hk.upd (O':=⟨blk,true,y⟩::(M'++(c.Mc++(R++c.O0)))) (b:=blk) (c:=x) (c':=y) .here k hy;refine⟨by simpa using hk2,λn v hv=>Pd _ _ (Ru f2 hv) (h.fr n v hv),qE _ _ f3 h.ov,⟨_,M',rfl,hsb,Oo f4 hm⟩,λz hz=>?_,On f5 h.mc,h.fz,h.gl.upd hn⟩;rcases aZ.1 hz with hz | hz
  ·rw[bF.1 hz]
  ·exact hw z hz
section
variable {g:Opd->Option SV} (hg:∀x s,g x=some s->aJ ν F s (aT tm x))
include hg
def jva {call:FuncId->List AV->Tr Blk->Nat->Nat->bN} {q:Bool} (h:ConX B ro e c S tm H nx ν F M R) {z bytes:Nat} {x y:Opd} {sx sy:SV} (hx:g x=some sx) (hy:g y=some sy) {cc:Option Bool} {s:SV} {S':St}
  (hs:Pi e S q z bytes sx sy=some (cc,s,S')) (hc:dT cc=true):
  ∃v H' nx' ν' F' M' R',hop call (bif q then nx else ro) (aT tm) H nx (.app z bytes x y)=some (v,H',nx')/\ConX B ro e c S' tm H' nx' ν' F' M' R'/\aJ ν' F' s v/\S'.fr=S.fr:=by
 unfold Pi at hs;obtain⟨hbz,hs2⟩:=aR hs;clear hs;simp only[aN,fB,aL,aH,eH,aP] at hbz;obtain⟨hbytes,hz0⟩:=hbz;have vx:=hg _ _ hx;have vy:=hg _ _ hy
 have fin:∀(S0:St) (H1:Tr Blk) (M1:List Ent),ConX B ro e c S0 tm H1 nx ν F M1 R->fresh e S0=true->S0.fr=S.fr->∀(t:Ty),t.size≠0->∀(L:List t.den) (m:List AV) (n:Nat) (cap:Option Nat),bO (aX F t) L m->n=L.length->cap=none->
   ∃ν' F' M' R',ConX B ro e c (kT S0 (.arr t L cap)) tm (H1.set nx (.cells (put m 0 .e) m.length)) (nx+1) ν' F' M' R'/\aJ ν' F' (.own S0.nc) (.sl nx 0 n none t.size)/\(kT S0 (.arr t L cap)).fr=S.fr:=by
  intro S0 H1 M1 hC hf hfr t h0 L m n cap hm hn hcap;refine⟨_,F,_,R,hC.newc (hdr:=.sl nx 0 n none t.size) hf (j08 h0 hm hn hcap),?_,hfr⟩;simp only[aJ,eI];exact⟨trivial,rfl⟩
 split at hs2<;>try (cases hs2;done)
 ·
  rename_i b;split at hs2<;>try (cases hs2;done)
  rename_i t L cap hb;obtain⟨hb2,hs3⟩:=aR hs2;simp only[aN,fB,aL,aH] at hb2;obtain⟨⟨rfl,rfl⟩,hf⟩:=hb2;split at hs3<;>try (cases hs3;done)
  rename_i N hN;cases hs3;simp only[dT,Kh,aH] at hc;obtain⟨y1,new,y2,y3⟩:=Dm h hN vy;have hnew:=jK (cV t) y3;have hone:=rV (qC t) y3;obtain⟨E,⟨h0,hE⟩,hp,hkeep,hupd,hdel,Md,hdrop⟩:=h.ren hb hf;obtain⟨vx1,hslv⟩:=vx;have e5:N.length≠0->N.length.beq 0=false:=λhk=>by rw[aL];simpa using hk
  rcases hE with⟨hd,rfl⟩ | ⟨w,m,rfl,hd,hm,ha⟩
  ·rcases hd with⟨e1,_,e2,e3⟩ | ⟨_,_,_,e1,_⟩
   ·have eL:L=[]:=oK e2;subst eL;rw[e1] at vx1;have e4:=Af (call:=call) (nx:=nx) (rr:=bif false then nx else ro) (x:=x) (y:=y) y1 (by rw[vx1];rfl:jJ (aT tm x)=some 0) y2 (by simpa using hc) hbytes hz0 hone;by_cases hk:N.length=0
    ·have eN:N=[]:=oK hk;subst eN;obtain⟨M',hC⟩:=hkeep (nx,.nils) (.arr t ([]++[]) (tK cap (([]:List t.den).length+ ([]:List t.den).length))) ⟨h0,.inl ⟨by
      rw[eI];refine .inl ⟨rfl,rfl,rfl,?_⟩;rcases e3 with rfl | rfl
      ·exact .inl rfl
      ·exact .inr rfl,rfl⟩⟩
     refine⟨.nils,H,nx,_,_,M',_,by rw[e4,vx1];rfl,hC,?_,rfl⟩;simp only[aJ,eI];exact⟨trivial,rfl⟩
    ·obtain⟨ν',F',M',R',k1,k2,k3⟩:=fin _ H _ hdrop hf rfl t h0 ([]++N) new N.length (tK cap (([]:List t.den).length+N.length)) y3 (by simp) (by
      rcases e3 with rfl | rfl
      ·rfl
      ·simp only[tK,iT,iC,aP,Nat.le_zero,hk,bM,aF])
     refine⟨_,_,_,ν',F',M',R',?_,k1,k2,k3⟩;rw[e4,vx1];simp only[jM,e5 hk,aF,iA]
   ·cases e1
  ·obtain⟨_,p1,p2,p3⟩:=hp _ (bF.2 rfl);have hd0:=hd;rcases hd with⟨_,e1,_⟩ | ⟨c',n',e1,e2,hle,h3,h4⟩
   ·cases e1
   ·cases e2;rw[e1] at vx1;have e4:=Af (call:=call) (nx:=nx) (rr:=bif false then nx else ro) (x:=x) (y:=y) y1 (by rw[vx1];rfl:jJ (aT tm x)=some L.length) y2 hc hbytes hz0 hone;obtain⟨tc,p4,p5⟩:=p3;simp only at p1 p2 p4 p5;by_cases hk:N.length=0
    ·have eN:N=[]:=oK hk;subst eN;obtain⟨M',hC⟩:=hkeep (ν b) (.arr t (L++[]) (tK cap (L.length+ ([]:List t.den).length))) ⟨h0,.inr ⟨w,m,by rw[eI],by
      rw[eI,jQ];refine .inr ⟨c',m.length,e1,rfl,hle,h3,λy hy=>?_⟩;cases cap with
      | none=>cases hy
      | some cp=>
        have h5:=h4 cp rfl;have h6:=(h3 cp h5).2;simp only[tK,iT,iV,aP,h6,bA,aB] at hy;rw[<-hy];exact h5,by rw[jQ];exact hm,ha⟩⟩
     refine⟨.sl (ν b).1 0 L.length c' t.size,H,nx,_,_,M',_,?_,hC,?_,rfl⟩
     ·rw[e4,vx1];simp only[jM,dP,fC,aF,iT,aB]
     ·simp only[aJ,eI,e1];exact⟨trivial,rfl⟩
    ·have hN0:0<N.length*t.size:=Nat.mul_pos (by omega) (by omega);have hadd:(L.length+N.length)*t.size=L.length*t.size+N.length*t.size:=fU ..;by_cases hfit:(∃cp,c'=some cp/\L.length+N.length<=cp)\/(c'=none/\(L.length+N.length)*t.size<=m.length)
     ·have h7:(L.length+N.length)*t.size<=m.length:=by
       rcases hfit with⟨cp,rfl,hcp⟩ | ⟨_,h⟩
       ·exact eA (iB _ hcp) (h3 cp rfl).1
       ·exact h
      have hat:=Ok (H:=H) (b:=(ν b).1) (new:=new) (o:=L.length*t.size) p5 (by omega);have hsl:(dQ m (L.length*t.size) new).length=m.length:=Gu (by omega);obtain⟨M',hC⟩:=hupd ((ν b).1,.sl (ν b).1 0 (L.length+N.length) c' t.size) (ν b).1 (.cells m) _ _ (.arr t (L++N) (tK cap (L.length+N.length))) (by rw[show w=true from(hp _ (bF.2 rfl)).1]) hat ⟨h0,.inr ⟨true,_,by rw[eI],by
       rw[eI,hsl];refine .inr ⟨c',m.length,by simp,rfl,by rw[dS];omega,λy hy=>?_,λy hy=>?_⟩
       ·refine⟨(h3 y hy).1,?_⟩;rcases hfit with⟨cp,h8,hcp⟩ | ⟨h8,_⟩
        ·rw[h8] at hy;cases hy;rw[dS];exact hcp
        ·rw[h8] at hy;cases hy
       ·cases cap with
        | none=>cases hy
        | some c2=>
          have h8:=h4 c2 rfl;unfold tK at hy;simp only at hy;obtain⟨_,hy⟩:=aR hy;rw[h8];exact hy,by
       rw[dS,hadd];have e9:(dQ m (L.length*t.size) new).take (L.length*t.size+N.length*t.size)=m.take (L.length*t.size)++new:=by
        rw[dQ,<-cD,List.take_left' (by rw[dS,yG,hnew];omega)]
       rw[e9];exact tJ hm y3,Yd ha hone⟩⟩
      refine⟨.sl (ν b).1 0 (L.length+N.length) c' t.size,_,nx,_,_,M',_,?_,hC,?_,rfl⟩
      ·have g2:((rx ro).ble (ν b).1&&((L.length+N.length)*t.size).ble m.length)=true:=by
        rw[aP,aP];simp;exact⟨p1,by omega⟩
       rw[e4,vx1];simp only[jM,dP,fC,aF,e5 hk,p4,aB,jP,kJ,iC];rcases hfit with⟨cp,h8,hcp⟩ | ⟨h8,h⟩
       ·simp only[h8,aP,hcp,bA,aB,nM,p1];rw[aP,aP] at g2;simp only[g2,aB,p1,h7,bA,nM,jP,kJ]
       ·simp only[h8,aP,h,bA,aB,nM,p1,jP,kJ]
      ·simp only[aJ,eI];exact⟨trivial,rfl⟩
     ·have hcapn:tK cap (L.length+N.length)=none:=by
       cases cap with
       | none=>rfl
       | some c2=>
         have h8:=h4 c2 rfl;have:¬(L.length+N.length<=c2):=λh=>hfit (.inl ⟨c2,h8,h⟩)
         simp only[tK,aP,this,bM,aF]
      have e2':iO t.size H L.length (.sl (ν b).1 0 L.length c' t.size)=some (m.take (L.length*t.size)):=by
       have:0+L.length*t.size<=m.length:=by omega
       simp only[iO,dP,aP,aU,bA,nM,aB,p4,this,take_at (H:=H) (b:=0) p5 _ _ this,fZ]
      cases c' with
      | none=>
        obtain⟨Mz,hC⟩:=hdel (ν b).1 _ (by rw[show w=true from(hp _ (bF.2 rfl)).1]);obtain⟨ν',F',M',R',k1,k2,k3⟩:=fin _ _ _ hC hf rfl t h0 (L++N) (m.take (L.length*t.size)++new) (L.length+N.length) _ (tJ hm y3) (by simp) hcapn;refine⟨_,_,_,ν',F',M',R',?_,k1,k2,k3⟩;have g1:(0+ (L.length+N.length)*t.size).ble m.length=false:=by
         have:¬((L.length+N.length)*t.size<=m.length):=λh=>hfit (.inr ⟨rfl,h⟩)
         rw[aP,iC];simpa using this
        have g2:(rx ro).ble (ν b).1=true:=by rw[aP];simpa using p1
        rw[e4,vx1];simp only[jM,dP,fC,aF,e5 hk,p4,g1,g2,aB,Tr.delK_eq,iA,e2']
      | some cp=>
        obtain⟨ν',F',M',R',k1,k2,k3⟩:=fin _ _ _ hdrop hf rfl t h0 (L++N) (m.take (L.length*t.size)++new) (L.length+N.length) _ (tJ hm y3) (by simp) hcapn;refine⟨_,_,_,ν',F',M',R',?_,k1,k2,k3⟩;have g1:(L.length+N.length).ble cp=false:=by
         have:¬(L.length+N.length<=cp):=λh=>hfit (.inl ⟨cp,rfl,h⟩)
         rw[aP];simpa using this
        rw[e4,vx1];simp only[jM,dP,fC,aF,e5 hk,p4,g1,iA,e2']
 ·
  split at hs2<;>try (cases hs2;done)
  rename_i t N hN;obtain⟨hb2,hs3⟩:=aR hs2;simp only[aN,aL,aH] at hb2;obtain⟨rfl,hf⟩:=hb2;cases hs3;simp only[dT,Kh,aH] at hc;obtain⟨y1,new,y2,y3⟩:=jiu h hN vy;have hone:=rV (qC t) y3;simp only[aJ] at vx;have e4:=Af (call:=call) (nx:=nx) (rr:=bif q then nx else ro) (x:=x) (y:=y) y1 (by rw[vx];rfl:jJ (aT tm x)=some 0) y2 (by simpa using hc) hbytes hz0 hone;by_cases hk:N.length=0
  ·have eN:N=[]:=oK hk;subst eN;have hC:=h.name hf (nx,.nils);refine⟨.nils,H,nx,_,_,M,_,by rw[e4,vx];rfl,⟨hC.hk,hC.fr,hC.ov,⟨[],M,rfl,⟨hz0,.inl ⟨by rw[eI];exact .inl ⟨rfl,rfl,rfl,.inl rfl⟩,rfl⟩⟩,hC.mv⟩,hC.wr,hC.mc,hC.fz,hC.gl⟩,?_,rfl⟩;simp only[aJ,eI];exact⟨trivial,rfl⟩
  ·obtain⟨ν',F',M',R',k1,k2,k3⟩:=fin _ H _ h hf rfl t hz0 N new N.length none y3 rfl rfl;refine⟨_,_,_,ν',F',M',R',?_,k1,k2,k3⟩;have e5:N.length.beq 0=false:=by rw[aL];simpa using hk
   rw[e4,vx];simp only[jM,e5,aF,iA]
 ·
  rename_i z';split at hs2<;>try (cases hs2;done)
  rename_i t N hN;obtain⟨hb2,hs3⟩:=aR hs2;simp only[aN,aL,aH] at hb2;obtain⟨⟨rfl,rfl⟩,hf⟩:=hb2;cases hs3;simp only[dT,Kh,aN,aH] at hc;obtain⟨hc,hk⟩:=hc;obtain⟨y1,new,y2,y3⟩:=jiu h hN vy;have hone:=rV (qC t) y3;obtain⟨ν',F',M',R',k1,k2,k3⟩:=fin _ H _ h hf rfl t hz0 N new N.length none y3 rfl rfl;have e5:N.length.beq 0=false:=by rw[aL];simp;intro h;rw[h] at hk;simp at hk
  rcases vx with vx | ⟨b,o,l,vx,hF,ho⟩
  ·have e4:=Af (call:=call) (nx:=nx) (rr:=bif q then nx else ro) (x:=x) (y:=y) y1 (by rw[vx];rfl:jJ (aT tm x)=some 0) y2 (by simpa using hc) hbytes hz0 hone;refine⟨_,_,_,ν',F',M',R',?_,k1,k2,k3⟩;rw[e4,vx];simp only[jM,e5,aF,iA]
  ·have e4:=Af (call:=call) (nx:=nx) (rr:=bif q then nx else ro) (x:=x) (y:=y) y1 (by rw[vx];rfl:jJ (aT tm x)=some 0) y2 (by simpa using hc) hbytes hz0 hone;refine⟨_,_,_,ν',F',M',R',?_,k1,k2,k3⟩;obtain⟨tc,p4,p5⟩:=(h.fact hF).2;have g1:N.length.ble 0=false:=by rw[aP];simp;intro h;rw[h] at hk;simp at hk
   have g3:(o+0*t.size).ble l.length=true:=by rw[aP];simpa using ho
   have e2:iO t.size H 0 (.sl b o 0 (some 0) t.size)=some []:=by
    have g4:Nat.ble 0 0=true:=rfl;simp only[iO,dP,g4,nM,aB,p4,g3];rw[sR];rfl
   rw[e4,vx];simp only[jM,dP,fC,aF,e5,p4,g1,e2,iA,dZ,iC]
 ·
  rename_i b o n cp z';split at hs2<;>try (cases hs2;done)
  rename_i t L cap hb;obtain⟨hb2,hs3⟩:=aR hs2;simp only[aN,aL,aH] at hb2;obtain⟨⟨rfl,rfl⟩,hf⟩:=hb2;split at hs3<;>try (cases hs3;done)
  rename_i N hN;cases hs3;simp only[dT,Kh,aN,kD,aL,aH] at hc;obtain⟨⟨⟨hc,rfl⟩,hcp⟩,hfull⟩:=hc;obtain⟨y1,new,y2,y3⟩:=Dm h hN vy;have hone:=rV (qC t) y3;obtain⟨E,⟨h0,hE⟩,hp,hkeep,hupd,hdel,Md,hdrop⟩:=h.ren hb hf;have e5:N.length≠0->N.length.beq 0=false:=λhk=>by rw[aL];simpa using hk
  rcases vx with⟨vx,rfl,_⟩ | ⟨c',vx,v1,v2,len,cap',v3,v4,_⟩
  ·have e4:=Af (call:=call) (nx:=nx) (rr:=bif q then nx else ro) (x:=x) (y:=y) y1 (by rw[vx];rfl:jJ (aT tm x)=some 0) y2 (by simpa using hc) hbytes hz0 hone;by_cases hk:N.length=0
   ·have eN:N=[]:=oK hk;subst eN;have hC:=hdrop.name (S:={ S with mv:=eM S.mv b }) hf (nx,.nils);refine⟨.nils,H,nx,_,_,Md,_,by rw[e4,vx];rfl,⟨hC.hk,hC.fr,hC.ov,⟨[],Md,rfl,⟨hz0,.inl ⟨by rw[eI];exact .inl ⟨rfl,rfl,by simp,.inl rfl⟩,rfl⟩⟩,hC.mv⟩,hC.wr,hC.mc,hC.fz,hC.gl⟩,?_,rfl⟩;simp only[aJ,eI];exact⟨trivial,rfl⟩
   ·obtain⟨ν',F',M',R',k1,k2,k3⟩:=fin _ H _ hdrop hf rfl t h0 (L.take 0++N) new N.length none y3 (by simp) rfl;refine⟨_,_,_,ν',F',M',R',?_,k1,k2,k3⟩;rw[e4,vx];simp only[jM,e5 hk,aF,iA]
  ·have hcap:=v1 cp rfl;subst hcap;rw[sR] at vx;have e4:=Af (call:=call) (nx:=nx) (rr:=bif q then nx else ro) (x:=x) (y:=y) y1 (by rw[vx];rfl:jJ (aT tm x)=some n) y2 hc hbytes hz0 hone;rcases hE with⟨hd,rfl⟩ | ⟨w,m,rfl,hd,hm,ha⟩
   ·rcases hd with⟨e1,_⟩ | ⟨_,_,_,e1,_⟩
    ·rw[v3] at e1;cases e1
    ·cases e1
   ·rcases hd with⟨e1,_⟩ | ⟨c',n',e1,e2,hle,h3,h4⟩
    ·rw[v3] at e1;cases e1
    ·cases e2;rw[v3] at e1;cases e1;have hnL:n<=L.length:=by omega
     have hnz:n*t.size<=L.length*t.size:=iB _ hnL;have hmt:bO (aX F t) (L.take n) (m.take (n*t.size)):=by
      have:=uM (cV t) n hm;rw[sU,oL hnz] at this;exact this
     have hlt:(L.take n).length=n:=by simp;omega
     by_cases hk:N.length=0
     ·have eN:N=[]:=oK hk;subst eN;have hcpz:cp*t.size<=L.length*t.size:=iB _ hcp;obtain⟨M',hC⟩:=hkeep ((ν b).1,.sl (ν b).1 0 n (some cp) t.size) (.arr t (L.take n++[]) none) ⟨h0,.inr ⟨w,m,by rw[eI],by
       rw[eI,jQ,hlt];refine .inr ⟨some cp,m.length,rfl,rfl,by omega,λy hy=>?_,λy hy=>(by cases hy)⟩;cases hy;exact⟨by omega,v2 cp rfl⟩,by rw[jQ,hlt];exact hmt,ha⟩⟩
      refine⟨.sl (ν b).1 0 n (some cp) t.size,H,nx,_,_,M',_,?_,hC,?_,rfl⟩
      ·rw[e4,vx];simp only[jM,dP,fC,aF,iT,aB]
      ·simp only[aJ,eI];exact⟨trivial,rfl⟩
     ·obtain⟨ν',F',M',R',k1,k2,k3⟩:=fin _ H _ hdrop hf rfl t h0 (L.take n++N) (m.take (n*t.size)++new) (n+N.length) none (tJ hmt y3) (by rw[dS,hlt]) rfl;refine⟨_,_,_,ν',F',M',R',?_,k1,k2,k3⟩;obtain⟨tc,p4,p5⟩:=(hp _ (bF.2 rfl)).2.2.2;simp only at p4 p5;have g1:(n+N.length).ble cp=false:=by
       rw[aP];simp;omega
      have e2':iO t.size H n (.sl (ν b).1 0 n (some cp) t.size)=some (m.take (n*t.size)):=by
       have:0+n*t.size<=m.length:=by omega
       simp only[iO,dP,aP,aU,bA,nM,aB,p4,this,take_at (H:=H) (b:=0) p5 _ _ this,fZ]
      rw[e4,vx];simp only[jM,dP,fC,aF,e5 hk,p4,g1,iA,e2']
end
end X
end Go.Vm
