/-
  The extraction: functions, and calls of functions of which only the code is given.
  The extraction: what is told of functions; a function's plain function tells what the machine does.
  The extraction: annotated code out of the compiler's code and a list of annotations, by the numbers of the nodes.
  The extraction: the functions of a program, one after another.
-/
import Derived.Test.YtonohffniohehaaGreatDoorXG5
set_option linter.unusedSimpArgs false
set_option linter.unusedVariables false
set_option linter.unusedSectionVars false
set_option linter.unnecessarySimpa false
namespace Go.Vm
namespace X
open W
variable {B:Base} {call:FuncId→List AV→Tr Blk→Nat→Nat→Out} {ro:Nat} {e:Env} {c:Cnv} {S:St} {tm:Tr AV} {H:Tr Blk} {nx:Nat} {ν:Nm} {F:jaj} {M R:List Ent}
def kit:Nat→List SV→SFr
 | _,[]=>[]
 | n,a::l=>(n,a)::kit (n+1) l
theorem j6p:∀(ss:List SV) (i n:Nat),lkS (kit i ss) n=if n<i then none else ss[n-i]?
 | [],i,n=>by simp[kit,lkS]
 | a::as,i,n=>by
   simp only[kit,lkS,jaa]
   by_cases h:i=n
   ·subst h;simp
   ·simp only[h,decide_false,cond_false]
    rw[j6p as (i+1) n]
    by_cases h2:n<i
    ·rw[if_pos (by omega),if_pos h2]
    ·rw[if_neg (by omega),if_neg h2,show n-i=n-(i+1)+1 by omega]
     rfl
theorem kis {ss:List SV} {vs:List AV} (h:jb8 ν F ss vs) {n:Nat} {s:SV} (hn:lkS (kit 0 ss) n=some s):SVR ν F s (jbd (put vs 0 .e) (.t n)):=by
 rw[j6p] at hn
 simp only[Nat.not_lt_zero,if_false,Nat.sub_zero] at hn
 obtain⟨v,h1,h2⟩:=jj2 h hn
 obtain⟨h3,h4⟩:=List.getElem?_eq_some_iff.1 h1
 have:jbd (put vs 0 .e) (.t n)=v:=by simp[jbd,jgk,h3,h4]
 rw[this];exact h2
def kra (e:Env) (S:St):CRes→Option SV
 | .t n=>lkS (S.fr++e.ct) n
 | .cell a agg size=>match lkS (S.fr++e.ct) a with
   | some p=>ldS (look e S) agg size p
   | none=>none
def kag (e:Env) (S:St):List CRes→Option (List SV)
 | []=>some []
 | r::l=>match kra e S r,kag e S l with
   | some s,some ss=>some (s::ss)
   | _,_=>none
def j1r:List SV→SV
 | [s]=>s
 | ss=>.tup ss
theorem khe (h:ConX B ro e c S tm H nx ν F M R) {r:CRes} {s:SV} (hs:kra e S r=some s):∃v,kjp tm H r=some v∧SVR ν F s v:=by
 cases r with
 | t n=>exact⟨_,rfl,h.fr n s hs⟩
 | cell a agg size=>
   simp only[kra] at hs
   split at hs<;>try (cases hs;done)
   rename_i p hp
   obtain⟨b,o,l,u,h1,h2,h3,h4⟩:=kf4 h hs (h.fr a p hp)
   obtain⟨tc,k1,k2⟩:=h2
   obtain⟨k3,k4⟩:=j6r h3
   have hg:tm.get a=some (.ptr b o):=by
    simp only[jbd] at h1
    cases hq:tm.get a with
    | none=>rw[hq] at h1;cases h1
    | some x=>rw[hq] at h1;simp only[Option.getD_some] at h1;rw[h1]
   refine⟨u,?_,h4⟩
   simp only[kjp,hg,k1,jae,k3,decide_true,cond_true,jgz (H:=H) (b:=b) k2 size o k3,k4]
theorem j6d (h:ConX B ro e c S tm H nx ν F M R):∀ {rs:List CRes} {ss:List SV},kag e S rs=some ss→∃vs,jus tm H rs=some vs∧jb8 ν F ss vs
 | [],ss,hs=>by cases hs;exact⟨[],rfl,rfl⟩
 | r::l,ss,hs=>by
   simp only[kag] at hs
   split at hs<;>cases hs
   rename_i s ss h1 h2
   obtain⟨v,k1,k2⟩:=khe h h1
   obtain⟨vs,k3,k4⟩:=j6d h h2
   exact⟨v::vs,by simp only[jus,k1,k3],v,vs,rfl,k2,k4⟩
theorem jy3 {ss:List SV} {vs:List AV} (h:jb8 ν F ss vs):SVR ν F (j1r ss) (W.pack vs):=by
 match ss,h with
 | [],h=>simp only[jb8] at h;subst h;exact⟨[],rfl,rfl⟩
 | [s],⟨v,_,e,h1,e2⟩=>simp only[jb8] at e2;subst e2;subst e;exact h1
 | s::s'::l,⟨v,m,e,h1,h2⟩=>
   obtain⟨v',m',e',h3,h4⟩:=h2
   subst e';subst e
   exact⟨_,rfl,v,_,rfl,h1,v',m',rfl,h3,h4⟩
structure Fx where
 nt:Nat
 res:List CRes
 body:AC
 hint:Hint
def Fx.cfn (x:Fx):CFn:=⟨x.nt,x.res,x.body.cc⟩
def kg3 {α:Type} (N:Nat) (ch:CH) (x:Fx) (e:Env) (mv:Mem) (nc:Nat) (ss:List SV) (k:SV→St→Option α):Option α:=
 sw (ss.length.ble x.nt) (sx N ch x.hint x.body { e with b0:=nc } ⟨kit 0 ss,mv,nc⟩ fun ex S'=>match ex with
  | .exit _=>none
  | _=>match kag e S' x.res with
    | some rs=>k (j1r rs) S'
    | none=>none) none
theorem j33 {ch:CH} (hch:HOK B call ch) {α:Type} {x:Fx} {mv:Mem} {nc:Nat} {ss:List SV} {k:SV→St→Option α} {r:α} (hs:kg3 fuel ch x e mv nc ss k=some r) (hct:e.ct=[])
  (h:ConX B ro e c ⟨[],mv,nc⟩ tm H nx ν F M R) {vs:List AV} (hv:jb8 ν F ss vs):
  ∃v H' nx' s S' tm' ν' F' M' R',joy call ro x.cfn vs H nx=some (v,H',nx')∧ConX B ro e c S' tm' H' nx' ν' F' M' R'∧SVR ν' F' s v∧k s S'=some r:=by
 unfold kg3 at hs
 obtain⟨hlen,hs⟩:=j34 hs
 have h0:Con B ro { e with b0:=nc } c ⟨kit 0 ss,mv,nc⟩ (put vs 0 .e) H nx:=by
  refine⟨ν,F,M,R,h.hk,fun n s hn=>?_,h.ov,h.mv,h.wr,h.mc,h.fz,h.gl⟩
  rw[hct,List.append_nil] at hn
  exact kis hv hn
 obtain⟨ex,tm',H',nx',h1,h2⟩:=jud hch x.body (Post:=fun ex tm H nx=>(∀i,ex≠ .exit i)∧∃s S' vs' ν' F' M' R',jus tm H x.res=some vs'∧ConX B ro e c S' tm H nx ν' F' M' R'∧SVR ν' F' s (W.pack vs')∧k s S'=some r) hs (fun ex S' hS' tm H nx hC=>by
  obtain⟨ν',F',M',R',hC⟩:=hC
  have hC:ConX B ro e c S' tm H nx ν' F' M' R':=⟨hC.hk,hC.fr,hC.ov,hC.mv,hC.wr,hC.mc,hC.fz,hC.gl⟩
  have fin:(match kag e S' x.res with
   | some rs=>k (j1r rs) S'
   | none=>none)=some r→∃s S' vs' ν' F' M' R',jus tm H x.res=some vs'∧ConX B ro e c S' tm H nx ν' F' M' R'∧SVR ν' F' s (W.pack vs')∧k s S'=some r:=by
   intro hS'
   split at hS'<;>try (cases hS';done)
   rename_i rs hrs
   obtain⟨vs',k1,k2⟩:=j6d hC hrs
   exact⟨_,S',vs',ν',F',M',R',k1,hC,jy3 k2,hS'⟩
  cases ex with
  | exit i=>cases hS'
  | normal=>exact⟨fun i h=>(by cases h),fin hS'⟩
  | ret=>exact⟨fun i h=>(by cases h),fin hS'⟩) _ _ _ h0
 obtain⟨hne,s,S',vs',ν',F',M',R',k1,k2,k3,k4⟩:=h2
 refine⟨W.pack vs',H',nx',s,S',tm',ν',F',M',R',?_,k2,k3,k4⟩
 have e1:(match jus tm' H' x.res with | some [v]=>some (v,H',nx') | some vs=>some (.tup vs,H',nx') | none=>(none:Out))=some (W.pack vs',H',nx'):=by
  rw[k1]
  rcases vs' with _ | ⟨v,_ | ⟨w,l⟩⟩<;>rfl
 have hlen':(vs.length.ble x.cfn.nt)=true:=by rw[←jb5 hv];exact hlen
 unfold joy
 rw[hlen',jc4]
 simp only[cond_true]
 have h1':exec call ro x.cfn.body (put vs 0 .e,H,nx)=some (ex,tm',H',nx'):=h1
 rw[h1']
 cases ex with
 | normal=>exact e1
 | ret=>exact e1
 | exit i=>exact absurd rfl (hne i)
theorem kfj {b:Nat} {sb:SB} {E:List Ent} (h:jj9 ν F b sb (E.map unw)):jj9 ν F b sb E:=by
 have one:∀ {w:Bool} {bl:Nat} {cc:HB},E.map unw=[⟨bl,w,cc⟩]→∃w',E=[⟨bl,w',cc⟩]:=by
  intro w bl cc h
  match E,h with
  | [x],h=>
    simp only[List.map_cons,List.map_nil,unw,List.cons.injEq,Ent.mk.injEq,and_true] at h
    obtain⟨h1,_,h2⟩:=h
    exact⟨x.w,by cases x;simp only at h1 h2;subst h1;subst h2;rfl⟩
  | [],h=>cases h
  | _::_::_,h=>cases h
 cases sb with
 | lit l=>obtain⟨w,m,e1,h⟩:=h;obtain⟨w',e2⟩:=one e1;exact⟨w',m,e2,h⟩
 | fix t n L=>obtain⟨w,m,e1,h⟩:=h;obtain⟨w',e2⟩:=one e1;exact⟨w',m,e2,h⟩
 | mp k v L=>obtain⟨w,m,e1,h⟩:=h;obtain⟨w',e2⟩:=one e1;exact⟨w',m,e2,h⟩
 | arr t L cap=>
   obtain⟨h0,h⟩:=h
   refine⟨h0,h.imp (fun⟨a,b⟩=>⟨a,List.map_eq_nil_iff.1 b⟩) fun⟨w,m,e1,h⟩=>?_⟩
   obtain⟨w',e2⟩:=one e1
   exact⟨w',m,e2,h⟩
theorem j3o:∀ {m:Mem} {Ms:List (List Ent)},jim ν F m (Ms.map (List.map unw))→jim ν F m Ms
 | [],Ms,h=>by simpa[jim] using h
 | (b,sb)::m,Ms,⟨E,Ms',e1,h1,h2⟩=>by
   match Ms,e1 with
   | E0::Ms,e1=>
     simp only[List.map_cons,List.cons.injEq] at e1
     obtain⟨rfl,rfl⟩:=e1
     exact⟨E0,Ms,rfl,kfj h1,j3o h2⟩
theorem kfm {b:Nat} {sb:SB} {E:List Ent} (h:jj9 ν F b sb E):jj9 ν F b sb (E.map unw):=by
 cases sb with
 | lit l=>obtain⟨w,m,e1,h⟩:=h;exact⟨false,m,by rw[e1];rfl,h⟩
 | fix t n L=>obtain⟨w,m,e1,h⟩:=h;exact⟨false,m,by rw[e1];rfl,h⟩
 | mp k v L=>obtain⟨w,m,e1,h⟩:=h;exact⟨false,m,by rw[e1];rfl,h⟩
 | arr t L cap=>
   obtain⟨h0,h⟩:=h
   exact⟨h0,h.imp (fun⟨a,b⟩=>⟨a,by rw[b];rfl⟩) fun⟨w,m,e1,h⟩=>⟨false,m,by rw[e1];rfl,h⟩⟩
theorem j3p:∀ {m:Mem} {Ms:List (List Ent)},jim ν F m Ms→jim ν F m (Ms.map (List.map unw))
 | [],Ms,h=>by simp only[jim] at h;subst h;rfl
 | (b,sb)::m,Ms,⟨E,Ms',e1,h1,h2⟩=>by subst e1;exact⟨_,_,rfl,kfm h1,j3p h2⟩
theorem kjh {O:List Ent} {b:Nat} {x:HB} (h:Has (O.map unw) b x):Has O b x:=by
 obtain⟨w,hm⟩:=h.mem
 obtain⟨y,hy,e⟩:=List.mem_map.1 hm
 simp only[unw,Ent.mk.injEq] at e
 obtain⟨rfl,_,rfl⟩:=e
 exact Has.of_mem (w:=y.w) hy
def kpc (N:Nat) (code:FuncId→Option Fx) (ch:CH):CH:=fun α q f ss e S k=>match code f with
 | none=>none
 | some x=>sw q (kg3 N ch x ⟨[],(dd (S.fr++e.ct)).map Prod.snd++e.ov,S.mv++e.mc,e.G,0⟩ [] S.nc ss fun s S'=>k s ⟨S.fr,S'.mv++S.mv,S'.nc⟩)
   (kg3 N ch x ⟨[],(dd (S.fr++e.ct)).map Prod.snd++e.ov,e.mc,e.G,0⟩ S.mv S.nc ss fun s S'=>k s ⟨S.fr,S'.mv,S'.nc⟩)
theorem kbj {code:FuncId→Option Fx} {ch:CH} {call':FuncId→List AV→Tr Blk→Nat→Nat→Out} (hch:HOK B call ch) (hcode:∀f x,code f=some x→∀vs H nx ro,call' f vs H nx ro=joy call ro x.cfn vs H nx):HOK B call' (kpc fuel code ch):=by
 intro α q f ss e S k r hs ro c tm H nx ν F M R h vs hv
 unfold kpc at hs
 split at hs<;>try (cases hs;done)
 rename_i x hx
 have hcall:=hcode f x hx
 have hov:jb8 ν F ((dd (S.fr++e.ct)).map Prod.snd++e.ov) ((dd (S.fr++e.ct)).map (fun x=>jbd tm (.t x.1))++c.oa):=
  jbs (j0v fun y hy=>h.fr _ _ (kiz hy)) h.ov
 have back:∀ {ν':Nm} {F':jaj},jb8 ν' F' ((dd (S.fr++e.ct)).map Prod.snd++e.ov) ((dd (S.fr++e.ct)).map (fun x=>jbd tm (.t x.1))++c.oa)→
   (∀n s,lkS (S.fr++e.ct) n=some s→SVR ν' F' s (jbd tm (.t n)))∧jb8 ν' F' e.ov c.oa:=by
  intro ν' F' h'
  obtain⟨k1,k2⟩:=jks (by simp) h'
  exact⟨fun n s hn=>jwb k1 _ (kb7 hn),k2⟩
 cases q with
 | false=>
   have hs:kg3 fuel ch x _ _ _ _ _=some r:=hs
   have hC:ConX B ro ⟨[],(dd (S.fr++e.ct)).map Prod.snd++e.ov,e.mc,e.G,0⟩ ⟨(dd (S.fr++e.ct)).map (fun x=>jbd tm (.t x.1))++c.oa,c.Ml,c.P,R++c.OF⟩ ⟨[],S.mv,S.nc⟩ tm H nx ν F M []:=by
    refine⟨h.hk.perm ?_,fun n s hn=>(by cases hn),hov,h.mv,h.wr,h.mc,h.fz,h.gl⟩
    simp only[Cnv.Mc,Cnv.O0,List.nil_append]
    exact List.Perm.append_left _ (List.Perm.append_left _ (jfq _ _ _))
   obtain⟨v,H',nx',s,S',tm',ν',F',M',R',h1,h2,h3,h4⟩:=j33 hch hs rfl hC hv
   obtain⟨b1,b2⟩:=back h2.ov
   refine⟨v,H',nx',s,⟨S.fr,S'.mv,S'.nc⟩,ν',F',M',R'++R,by rw[hcall];exact h1,⟨h2.hk.perm ?_,b1,b2,h2.mv,h2.wr,h2.mc,fun y hy=>?_,h2.gl⟩,h3,h4⟩
   ·simp only[Cnv.Mc,Cnv.O0,List.append_assoc]
    exact List.Perm.append_left _ (List.Perm.append_left _ (List.Perm.append_left _ (jfq _ _ _)))
   ·rw[List.append_assoc];exact h2.fz y hy
 | true=>
   have hs:kg3 fuel ch x _ _ _ _ _=some r:=hs
   obtain⟨Ml,rfl,hMl⟩:=jnk h.mv
   have hq:=h.hk.quiet
   have hC:ConX B nx ⟨[],(dd (S.fr++e.ct)).map Prod.snd++e.ov,S.mv++e.mc,e.G,0⟩ ⟨(dd (S.fr++e.ct)).map (fun x=>jbd tm (.t x.1))++c.oa,(Ml++c.Ml).map (List.map unw),c.P.map unw,(R++c.OF).map unw⟩ ⟨[],[],S.nc⟩ tm H nx ν F [] []:=by
    refine⟨hq.perm ?_,fun n s hn=>(by cases hn),hov,rfl,fun x hx=>(by cases hx),j3p (jh0 hMl h.mc),fun y hy=>?_,h.gl⟩
    ·simp only[Cnv.Mc,Cnv.O0,List.nil_append,List.map_append,List.flatten_append,List.append_assoc,←List.map_flatten]
     exact List.Perm.append_left _ (List.Perm.append_left _ (jfq _ _ _))
    ·rcases h.fz y hy with h1 | h1
     ·exact .inl (by rw[List.nil_append];exact h1.quiet)
     ·exact .inr h1
   obtain⟨v,H',nx',s,S',tm',ν',F',M',R',h1,h2,h3,h4⟩:=j33 hch hs rfl hC hv
   obtain⟨b1,b2⟩:=back h2.ov
   have hmc:=j3o h2.mc
   obtain⟨m1,m2⟩:=jlf (jnl hMl) hmc
   have hun:=h.hk.unquiet (N:=M'++R') (h2.hk.perm (by
    simp only[Cnv.Mc,Cnv.O0,List.map_append,List.flatten_append,List.append_assoc,←List.map_flatten]
    refine List.Perm.append_left _ ?_
    have p1:=jfq (R') (Ml.flatten.map unw++(c.Ml.flatten.map unw)) (R.map unw++(c.P.map unw++c.OF.map unw))
    have p2:(Ml.flatten.map unw++(c.Ml.flatten.map unw++(R'++(R.map unw++(c.P.map unw++c.OF.map unw))))).Perm (Ml.flatten.map unw++(c.Ml.flatten.map unw++(R'++(c.P.map unw++(R.map unw++c.OF.map unw))))):=
     List.Perm.append_left _ (List.Perm.append_left _ (List.Perm.append_left _ (jfq _ _ _)))
    simp only[List.append_assoc] at p1
    exact p1.trans p2))
   refine⟨v,H',nx',s,⟨S.fr,S'.mv++S.mv,S'.nc⟩,ν',F',M'++Ml.flatten,R'++R,by rw[hcall];exact h1,⟨hun.perm ?_,b1,b2,jd0 h2.mv (jku m1),fun y hy=>?_,m2,fun y hy=>?_,h2.gl⟩,h3,h4⟩
   ·simp only[Cnv.Mc,Cnv.O0,List.append_assoc]
    refine List.Perm.append_left _ ?_
    have p1:=jfq (R') (Ml.flatten++c.Ml.flatten) (R++(c.P++c.OF))
    simp only[List.append_assoc] at p1
    exact p1.symm
   ·rcases List.mem_append.1 hy with h5 | h5
    ·exact h2.wr y h5
    ·exact h.wr y h5
   ·rcases h2.fz y hy with h5 | h5
    ·left
     obtain⟨w,hm⟩:=h5.mem
     rcases List.mem_append.1 hm with h6 | h6
     ·exact Has.of_mem (w:=w) (by simp[h6])
     ·have:=kjh (Has.of_mem h6)
      obtain⟨w2,hm2⟩:=this.mem
      exact Has.of_mem (w:=w2) (by
       rcases List.mem_append.1 hm2 with h7 | h7<;>simp[h7])
    ·exact .inr h5
end X
end Go.Vm
namespace Go.Vm
namespace X
open W
variable {B:Base} {call:FuncId→List AV→Tr Blk→Nat→Nat→Out} {ro:Nat} {e:Env} {c:Cnv} {S:St} {tm:Tr AV} {H:Tr Blk} {nx:Nat} {ν:Nm} {F:jaj} {M R:List Ent}
structure TE where
 f:FuncId
 ins:List Rep
 outs:List Rep
 run:jl4 ins→Option (jl4 outs)
def kfd (F:jaj) (outs:List Rep) (x:jl4 outs) (v:AV) (E:List Ent):Prop:=∃vs,v=W.pack vs∧jni F outs x vs E
def jlg (B:Base) (x:Nat×HB):Prop:=x.1<B.nx0∧x.2.At B.H0 x.1
def TE.OK (B:Base) (call:FuncId→List AV→Tr Blk→Nat→Nat→Out) (t:TE):Prop:=
 ∀a r,t.run a=some r→∀ro O E0 H nx,HK B ro (E0++O) H nx→(∀x∈E0,x.w=true)→∀A:jaj,(∀x∈A,Has O x.1 x.2∨jlg B x)→∀vs,jni A t.ins a vs E0→
  ∃v E N H' nx' F',call t.f vs H nx ro=some (v,H',nx')∧HK B ro (E++(N++O)) H' nx'∧(∀x∈E,x.w=true)∧(∀x∈F',Has N x.1 x.2∨x∈A∨jlg B x)∧kfd F' t.outs r v E
def Ty.noSl:Ty→Bool
 | .sl _ | .slx _=>false
 | .prod a b=>a.noSl&&b.noSl
 | .arr _ t=>t.noSl
 | _=>true
def Rep.noSl:Rep→Bool
 | .d t | .own t | .ownc t | .ownx t=>t.noSl
 | .dn _=>false
 | .sf _=>false
 | .aw t=>t.noSl
 | .mp k v=>k.noSl&&v.noSl
 | .dx _=>false
 | .p a b=>a.noSl&&b.noSl
 | _=>true
theorem jle {F':jaj}:∀(t:Ty),t.noSl=true→∀(x:t.den) (l:List AV),jb0 F t x l→jb0 F' t x l
 | .int k,_,x,l,h=>h
 | .bool,_,x,l,h=>h
 | .str,_,x,l,h=>h
 | .unit,_,x,l,h=>h
 | .prod a b,ht,x,l,⟨l1,l2,e,h1,h2⟩=>by
   simp only[Ty.noSl,Bool.and_eq_true] at ht
   exact⟨l1,l2,e,jle a ht.1 _ _ h1,jle b ht.2 _ _ h2⟩
 | .arr n t,ht,x,l,⟨h1,h2⟩=>⟨h1,jbw (jle t ht) h2⟩
 | .sl t,ht,x,l,h=>by cases ht
 | .slx t,ht,x,l,h=>by cases ht
theorem jt2 {F':jaj} {t:Ty} (ht:t.noSl=true) {L:List t.den} {cap:Option Nat} {v:AV} {E:List Ent} (h:j9d F t L cap v E):j9d F' t L cap v E:=by
 obtain⟨x,h1,h0,h2⟩:=h
 exact⟨x,h1,h0,h2.imp id fun⟨w,m,e1,h3,h4,h5⟩=>⟨w,m,e1,h3,jbw (jle t ht) h4,h5⟩⟩
theorem kcv {F':jaj} {t:Ty} (ht:t.noSl=true) {x:t.den} {v:AV} (h:Rel F t x v):Rel F' t x v:=by
 unfold Rel at h ⊢
 cases ha:t.agg with
 | true=>rw[ha] at h;obtain⟨l,e,h⟩:=h;exact⟨l,e,jle t ht _ _ h⟩
 | false=>rw[ha] at h;exact jle t ht _ _ h
theorem kc1 {F':jaj} {k v:Ty} (hk:k.noSl=true) (hv:v.noSl=true):∀ {L:List (k.den×v.den)} {m:List (AV×AV)},MpR F k v L m→MpR F' k v L m
 | [],_,h=>h
 | _::_,_,⟨a,b,m',e,h1,h2,h3⟩=>⟨a,b,m',e,kcv hk h1,kcv hv h2,kc1 hk hv h3⟩
theorem jtz {F':jaj}:∀(r:Rep),r.noSl=true→∀(x:r.den) (l:List AV) (E:List Ent),j84 F r x l E→j84 F' r x l E
 | .d t,ht,x,l,E,⟨h1,h2,h3⟩=>⟨h1,jle t ht _ _ h2,h3⟩
 | .own t,ht,x,l,E,⟨v,e1,h⟩=>⟨v,e1,jt2 ht h⟩
 | .ownc t,ht,x,l,E,⟨v,e1,h⟩=>⟨v,e1,jt2 ht h⟩
 | .ownx t,ht,x,l,E,⟨v,e1,h⟩=>⟨v,e1,jt2 ht h⟩
 | .p a b,ht,x,l,E,⟨l1,l2,E1,E2,e1,e2,h1,h2⟩=>by
   simp only[Rep.noSl,Bool.and_eq_true] at ht
   exact⟨l1,l2,E1,E2,e1,e2,jtz a ht.1 _ _ _ h1,jtz b ht.2 _ _ _ h2⟩
 | .u,_,x,l,E,h=>h
 | .err,_,x,l,E,h=>h
 | .fn f,_,x,l,E,h=>h
 | .nl,_,x,l,E,h=>h
 | .aw t,ht,x,l,E,⟨v,e1,h⟩=>⟨v,e1,jt2 ht h⟩
 | .mp k v,ht,x,l,E,⟨b,m,e1,e2,h⟩=>by
   simp only[Rep.noSl,Bool.and_eq_true] at ht
   exact⟨b,m,e1,e2,kc1 ht.1 ht.2 h⟩
 | .dn t,ht,x,l,E,h=>by cases ht
 | .dx t,ht,x,l,E,h=>by cases ht
 | .sf t,ht,x,l,E,h=>by cases ht
theorem j7n {F':jaj} {r:Rep} (hr:r.noSl=true) {x:r.den} {v:AV} {E:List Ent} (h:js4 F r x v E):js4 F' r x v E:=by
 unfold js4 at h ⊢
 cases ha:r.agg with
 | true=>
   rw[ha] at h
   obtain⟨m,e1,h⟩:=h
   exact⟨m,e1,jtz r hr _ _ _ h⟩
 | false=>
   rw[ha] at h
   exact jtz r hr _ _ _ h
theorem j3k {F':jaj}:∀ {l:List Rep},l.all Rep.noSl=true→∀ {x:jl4 l} {vs:List AV} {E:List Ent},jni F l x vs E→jni F' l x vs E
 | [],_,x,vs,E,h=>h
 | [r],hr,x,vs,E,⟨v,e1,h⟩=>by
   simp only[List.all_cons,List.all_nil,Bool.and_true] at hr
   exact⟨v,e1,j7n hr h⟩
 | r::r'::l,hr,x,vs,E,⟨v,vs',E1,E2,e1,e2,h1,h2⟩=>by
   simp only[List.all_cons,Bool.and_eq_true] at hr
   exact⟨v,vs',E1,E2,e1,e2,j7n hr.1 h1,j3k (l:=r'::l) (by simp[List.all_cons,hr.2.1,hr.2.2]) h2⟩
theorem jn5 {F':jaj} (hF:∀x∈F,x∈F'):∀ {l:List Rep} {x:jl4 l} {vs:List AV} {E:List Ent},jni F l x vs E→jni F' l x vs E
 | [],x,vs,E,h=>h
 | [r],x,vs,E,⟨v,e1,h⟩=>⟨v,e1,jra hF h⟩
 | r::r'::l,x,vs,E,⟨v,vs',E1,E2,e1,e2,h1,h2⟩=>⟨v,vs',E1,E2,e1,e2,jra hF h1,jn5 hF h2⟩
def kgi (lm:Nat→Option SB) (r:Rep) (s:SV):Option r.den:=match r with
 | .d t=>bif t.ok then j4n lm t s else none
 | .err=>match s with
   | .err b=>some b
   | .nili=>some true
   | _=>none
 | .fn f=>match s with
   | .fn f' [] []=>bif Nat.beq f' f then some () else none
   | _=>none
 | .nl=>match s with
   | .nils=>some ()
   | _=>none
 | .sf f=>match s with
   | .sptr f'=>bif Nat.beq f' f then some () else none
   | .ptr b 0=>match lm b with
     | some (.lit [.fn f' [] [.ptr b' 0]])=>bif Nat.blt b gB&&Nat.beq f' f&&Nat.beq b' b then some () else none
     | _=>none
   | _=>none
 | _=>none
def kjc (ν:Nm) (F:jaj) (lm:Nat→Option SB):Prop:=∀b f,b<gB→lm b=some (.lit [.fn f [] [.ptr b 0]])→((ν b).1,HB.cells [.fn (.func f) [] [.ptr (ν b).1 0]])∈F
theorem ConX.selfR (h:ConX B ro e c S tm H nx ν F M R):kjc ν (kov F c M) (X.look e S):=by
 intro b f hb hl
 unfold X.look at hl
 split at hl
 ·rename_i y hy
  cases hl
  obtain⟨M1,E,M2,e1,⟨w,m,rfl,hm⟩,_⟩:=jfx (jd0 h.mv h.mcm) hy
  obtain⟨v,_,rfl,⟨a',c',rfl,h1,⟨u,_,rfl,h2,rfl⟩⟩,rfl⟩:=hm
  simp only[jb8] at h1
  subst h1
  simp only[SVR] at h2
  subst h2
  refine List.mem_append.2 (.inr ?_)
  rw[e1]
  exact List.mem_map.2 ⟨⟨(ν b).1,w,.cells [.fn (.func f) [] [.ptr (ν b).1 0]]⟩,by simp,rfl⟩
 ·have:=(h.gl.2 _ _ hl).1
  omega
def j5n (lm:Nat→Option SB):(l:List Rep)→List SV→Option (jl4 l)
 | [],ss=>match ss with
   | []=>some ()
   | _=>none
 | [r],ss=>match ss with
   | [s]=>kgi lm r s
   | _=>none
 | r::r'::l,ss=>match ss with
   | s::ss=>match kgi lm r s,j5n lm (r'::l) ss with
     | some x,some y=>some (x,y)
     | _,_=>none
   | _=>none
theorem kcf {lm:Nat→Option SB} (ho:kje ν F lm) (hsf:kjc ν F lm) {r:Rep} {s:SV} {x:r.den} (h:kgi lm r s=some x) {v:AV} (hv:SVR ν F s v):js4 F r x v []:=by
 cases r with
 | d t=>
   simp only[kgi] at h
   obtain⟨ht,h⟩:=jah h
   have:=jqk ho h hv
   unfold Rel at this
   unfold js4
   simp only[Rep.agg]
   cases ha:t.agg with
   | true=>
     rw[ha] at this
     obtain⟨m,e1,h1⟩:=this
     exact⟨m,e1,ht,h1,rfl⟩
   | false=>
     rw[ha] at this
     exact⟨ht,this,rfl⟩
 | err=>
   simp only[kgi] at h
   split at h<;>try (cases h;done)
   ·cases h;exact⟨v,rfl,hv,rfl⟩
   ·cases h;exact⟨v,rfl,.inl ⟨rfl,hv⟩,rfl⟩
 | fn f=>
   simp only[kgi] at h
   split at h<;>try (cases h;done)
   obtain⟨hf,h⟩:=jah h
   rw[jaa,decide_eq_true_eq] at hf
   subst hf
   obtain⟨a',c',rfl,h1,h2⟩:=hv
   simp only[jb8] at h1 h2
   subst h1;subst h2
   exact⟨rfl,rfl⟩
 | nl=>
   simp only[kgi] at h
   split at h<;>try (cases h;done)
   have hv:v=.nils:=hv
   subst hv
   exact⟨rfl,rfl⟩
 | sf f=>
   simp only[kgi] at h
   split at h<;>try (cases h;done)
   ·obtain⟨hf,h⟩:=jah h
    rw[jaa,decide_eq_true_eq] at hf
    subst hf
    obtain⟨b,rfl,hb⟩:=hv
    exact⟨⟨b,rfl,hb⟩,rfl⟩
   ·split at h<;>try (cases h;done)
    rename_i b f' b' hl
    obtain⟨hf,h⟩:=jah h
    simp only[Bool.and_eq_true,jaa,decide_eq_true_eq,Nat.blt,jae] at hf
    obtain⟨⟨h1,rfl⟩,rfl⟩:=hf
    have hv:v=.ptr (ν b').1 0:=hv
    subst hv
    exact⟨⟨_,rfl,hsf b' f' (by omega) hl⟩,rfl⟩
 | _=>cases h
theorem j0p {lm:Nat→Option SB} (ho:kje ν F lm) (hsf:kjc ν F lm):∀ {l:List Rep} {ss:List SV} {x:jl4 l},j5n lm l ss=some x→∀ {vs:List AV},jb8 ν F ss vs→jni F l x vs []
 | [],ss,x,h,vs,hv=>by
   simp only[j5n] at h
   split at h<;>cases h
   exact⟨hv,rfl⟩
 | [r],ss,x,h,vs,hv=>by
   simp only[j5n] at h
   split at h<;>try (cases h;done)
   obtain⟨v,_,rfl,h1,rfl⟩:=hv
   exact⟨v,rfl,kcf ho hsf h h1⟩
 | r::r'::l,ss,x,h,vs,hv=>by
   simp only[j5n] at h
   split at h<;>try (cases h;done)
   split at h<;>cases h
   rename_i x y h1 h2
   obtain⟨v,m,rfl,v1,v2⟩:=hv
   exact⟨v,m,[],[],rfl,rfl,kcf ho hsf h1 v1,j0p ho hsf h2 v2⟩
def ke6 {α:Type} (t:TE) (ss:List SV) (e:Env) (S:St) (k:SV→St→Option α):Option α:=
 sw (t.outs.all Rep.noSl) (match j5n (look e S) t.ins ss with
  | some a=>(t.run a).bind fun r=>match jvn t.outs r e S with
    | some (rs,S)=>k (j1r rs) S
    | none=>none
  | none=>none)
 (match kgb S.mv ss with
   | some (mv,ss)=>match j5n j9a t.ins ss with
     | some a=>(t.run a).bind fun r=>match jvn t.outs r e { S with mv:=mv } with
       | some (rs,S)=>k (j1r rs) S
       | none=>none
     | none=>none
   | none=>none)
def Rep.owns:Rep→Bool
 | .own _ | .ownc _ | .ownx _ | .aw _ | .mp _ _=>true
 | .p a b=>a.owns||b.owns
 | _=>false
def ki5 {α:Type} (t:TE) (ss:List SV) (e:Env) (S:St) (k:SV→St→Option α):Option α:=
 match jtg t.ins S.mv ss with
  | some (c,mv,a)=>j00 c ((t.run a).bind fun r=>match jvn t.outs r e { S with mv:=mv } with
     | some (rs,S)=>k (j1r rs) S
     | none=>none)
  | none=>none
def keo:List TE→FuncId→Option TE
 | [],_=>none
 | t::r,f=>bif Nat.beq t.f f then some t else keo r f
theorem j60:∀ {T:List TE} {f:FuncId} {t:TE},keo T f=some t→t∈T∧t.f=f
 | [],f,t,h=>by cases h
 | t'::r,f,t,h=>by
   simp only[keo] at h
   cases hb:Nat.beq t'.f f<;>rw[hb] at h<;>simp only[cond_true,cond_false] at h
   ·obtain⟨h1,h2⟩:=j60 h
    exact⟨List.mem_cons_of_mem _ h1,h2⟩
   ·cases h
    rw[jaa,decide_eq_true_eq] at hb
    exact⟨List.mem_cons_self ..,hb⟩
def kr3 {α:Type} (t:TE) (ss:List SV) (e:Env) (S:St) (k:SV→St→Option α):Option α:=ke6 t (khk (kat ss) S ss).2 e (khk (kat ss) S ss).1 k
def kjn (T:List TE) (ch:CH):CH:=fun α q f ss e S k=>match keo T f with
 | some t=>sw (t.ins.any Rep.owns) (sw q none (ki5 t ss e S k)) (sw (t.outs.all Rep.noSl) (ke6 t ss e S k) (kr3 t ss e S k))
 | none=>ch α q f ss e S k
theorem j46 {E:List Ent} {l:List Rep} (h:ConX B ro e (c.park E) S tm H nx ν F M R) {x:jl4 l} {v:AV} (hr:kfd F l x v E) (hw:∀x∈E,x.w=true) {ss:List SV} {S':St} (hs:jvn l x e S=some (ss,S')):
  ∃ν' M',ConX B ro e c S' tm H nx ν' F M' R∧SVR ν' F (j1r ss) v:=by
 obtain⟨vs,rfl,hr⟩:=hr
 obtain⟨ν',M',h1,h2,_⟩:=jq2 l h hr hw hs
 exact⟨ν',M',h1,jy3 h2⟩
theorem jr6 (S:St) (F:jaj) (M R:List Ent) (F2:jaj) (E0:List Ent) (h:ConX B ro e (c.park E0) S tm H nx ν F M R):∀(E N:List Ent) H' nx',HK B ro (E++(N++(M++(c.Mc++(R++c.O0))))) H' nx'→(∀x∈F2,Has (N++(R++c.OF)) x.1 x.2∨jlg B x)→
  ConX B ro e (c.park E) S tm H' nx' ν (F2++F) M (N++R):=by
 intro E N H' nx' hk hF2
 have up:∀x∈F,x∈F2++F:=fun x hx=>List.mem_append.2 (.inr hx)
 refine⟨hk.perm ?_,fun n s hn=>jfk up _ _ (h.fr n s hn),jbr up _ _ h.ov,jkt up h.mv,h.wr,jiw up h.mc,fun x hx=>?_,h.gl⟩
 ·have e1:(c.park E).O0=E++c.O0:=by simp[Cnv.O0,Cnv.park]
  rw[e1]
  show(M++(c.Mc++((N++R)++(E++c.O0)))).Perm _
  rw[List.append_assoc]
  have p1:(N++(R++(E++c.O0))).Perm (E++(N++(R++c.O0))):=(List.Perm.append_left N (jfq R E c.O0)).trans (jfq N E _)
  have p2:(c.Mc++(E++(N++(R++c.O0)))).Perm (E++(N++(c.Mc++(R++c.O0)))):=(jfq c.Mc E _).trans (List.Perm.append_left E (jfq c.Mc N _))
  have p3:(M++(E++(N++(c.Mc++(R++c.O0))))).Perm (E++(N++(M++(c.Mc++(R++c.O0))))):=(jfq M E _).trans (List.Perm.append_left E (jfq M N _))
  exact(List.Perm.append_left M ((List.Perm.append_left c.Mc p1).trans p2)).trans p3
 ·rw[List.append_assoc]
  rcases List.mem_append.1 hx with hx | hx
  ·exact hF2 x hx
  ·exact(h.fz x hx).imp (fun h=>Has.append_right h) id
theorem j69 {t:TE} (ht:t.OK B call) {α:Type} {q:Bool} {ss:List SV} {k:SV→St→Option α} {r:α} (hs:ke6 t ss e S k=some r) (h:ConX B ro e c S tm H nx ν F M R) {vs:List AV} (hv:jb8 ν F ss vs):
  ∃v H' nx' s S' ν' F' M' R',call t.f vs H nx (bif q then nx else ro)=some (v,H',nx')∧ConX B ro e c S' tm H' nx' ν' F' M' R'∧SVR ν' F' s v∧k s S'=some r:=by
 have base:∀(S:St) (F:jaj) (M R:List Ent) (A:jaj),ConX B ro e c S tm H nx ν F M R→∀a r,t.run a=some r→(∀x∈A,Has (M++(c.Mc++(R++c.O0))) x.1 x.2∨jlg B x)→jni A t.ins a vs []→
   ∃v E N H' nx' F',call t.f vs H nx (bif q then nx else ro)=some (v,H',nx')∧HK B ro (E++(N++(M++(c.Mc++(R++c.O0))))) H' nx'∧(∀x∈E,x.w=true)∧(∀x∈F',Has N x.1 x.2∨x∈A∨jlg B x)∧kfd F' t.outs r v E:=by
  intro S F M R A h a r hr hA hargs
  cases q with
  | false=>
    obtain⟨v,E,N,H',nx',F',h1,h2,h3,h4,h5⟩:=ht a r hr ro _ [] H nx h.hk (fun _ h=>by cases h) A hA vs hargs
    exact⟨v,E,N,H',nx',F',h1,h2,h3,h4,h5⟩
  | true=>
    obtain⟨v,E,N,H',nx',F',h1,h2,h3,h4,h5⟩:=ht a r hr nx _ [] H nx h.hk.quiet (fun _ h=>by cases h) A (fun x hx=>(hA x hx).imp (fun h=>h.quiet) id) vs hargs
    refine⟨v,E,N,H',nx',F',h1,?_,h3,h4,h5⟩
    have:=h.hk.unquiet (N:=E++N) (by rw[List.append_assoc];exact h2)
    rw[List.append_assoc] at this
    exact this
 have after:∀(S:St) (F:jaj) (M R:List Ent) (F2:jaj),ConX B ro e c S tm H nx ν F M R→∀(E N:List Ent) H' nx',HK B ro (E++(N++(M++(c.Mc++(R++c.O0))))) H' nx'→(∀x∈F2,Has (N++(R++c.OF)) x.1 x.2∨jlg B x)→
  ConX B ro e (c.park E) S tm H' nx' ν (F2++F) M (N++R):=fun S F M R F2 h=>jr6 S F M R F2 [] h
 unfold ke6 at hs
 cases hns:t.outs.all Rep.noSl with
 | true=>
   rw[hns] at hs
   split at hs<;>try (cases hs;done)
   rename_i a ha
   obtain⟨y,hy,hs⟩:=Option.bind_eq_some_iff.1 hs
   split at hs<;>try (cases hs;done)
   rename_i rs S1 hi
   have ho:kje ν (kov F c M) (look e S):=fun b t L cap hl=>by
    obtain⟨k1,k2⟩:=h.ownR b t L cap hl
    exact⟨jtx (fun _ h=>h) (fun _ _=>jbw (ja2 (fun x hx=>List.mem_append.2 (.inl hx)) t)) k1,k2⟩
   have hargs:=j0p ho h.selfR ha (jbr (fun x hx=>List.mem_append.2 (.inl hx)) _ _ hv)
   have hA:∀x∈kov F c M,Has (M++(c.Mc++(R++c.O0))) x.1 x.2∨jlg B x:=fun x hx=>by
    rcases List.mem_append.1 hx with hx | hx
    ·rcases h.fz x hx with h1 | h1
     ·obtain⟨w,hm⟩:=h1.mem
      left
      exact Has.of_mem (w:=w) (by
       simp only[Cnv.O0]
       rcases List.mem_append.1 hm with h2 | h2<;>simp[h2])
     ·exact .inr h1
    ·left
     obtain⟨z,hz,rfl⟩:=List.mem_map.1 hx
     exact Has.of_mem (w:=z.w) (by rcases List.mem_append.1 hz with h2 | h2<;>simp[h2])
   obtain⟨v,E,N,H',nx',F',k1,k2,k3,k4,vs',rfl,k5⟩:=base S F M R _ h a y hy hA hargs
   have hC:=after S F M R [] h E N H' nx' k2 (fun x hx=>by cases hx)
   obtain⟨ν',M',j1,j2⟩:=j46 hC ⟨vs',rfl,j3k hns k5⟩ k3 hi
   exact⟨_,H',nx',_,S1,ν',_,M',_,k1,j1,j2,hs⟩
 | false=>
   rw[hns,jyl] at hs
   simp only[cond_false] at hs
   split at hs<;>try (cases hs;done)
   rename_i mv ss' hf
   split at hs<;>try (cases hs;done)
   rename_i a ha
   obtain⟨y,hy,hs⟩:=Option.bind_eq_some_iff.1 hs
   split at hs<;>try (cases hs;done)
   rename_i rs S1 hi
   obtain⟨F1,M1,R1,q1,q2,q3⟩:=jvr h ss hf
   have hargs:=j0p (F:=F1) jd7 (fun b f _ h=>by cases h) ha (q3 vs hv)
   have hA:∀x∈F1,Has (M1++(c.Mc++(R1++c.O0))) x.1 x.2∨jlg B x:=fun x hx=>by
    rcases q1.fz x hx with h1 | h1
    ·obtain⟨w,hm⟩:=h1.mem
     left
     exact Has.of_mem (w:=w) (by
      simp only[Cnv.O0]
      rcases List.mem_append.1 hm with h2 | h2<;>simp[h2])
    ·exact .inr h1
   obtain⟨v,E,N,H',nx',F',k1,k2,k3,k4,k5⟩:=base { S with mv:=mv } F1 M1 R1 F1 q1 a y hy hA hargs
   have hC:=after { S with mv:=mv } F1 M1 R1 F' q1 E N H' nx' k2 (fun x hx=>by
    rcases k4 x hx with h1 | h1 | h1
    ·exact .inl (Has.append_left h1)
    ·exact(q1.fz x h1).imp (fun h=>Has.append_right h) id
    ·exact .inr h1)
   obtain⟨vs',rfl,k5⟩:=k5
   obtain⟨ν',M',j1,j2⟩:=j46 hC ⟨vs',rfl,jn5 (fun x hx=>List.mem_append.2 (.inl hx)) k5⟩ k3 hi
   exact⟨_,H',nx',_,S1,ν',_,M',_,k1,j1,j2,hs⟩
theorem ke8 {t:TE} (ht:t.OK B call) {α:Type} {ss:List SV} {k:SV→St→Option α} {r:α} (hs:ki5 t ss e S k=some r) (h:ConX B ro e c S tm H nx ν F M R) {vs:List AV} (hv:jb8 ν F ss vs):
  ∃v H' nx' s S' ν' F' M' R',call t.f vs H nx ro=some (v,H',nx')∧ConX B ro e c S' tm H' nx' ν' F' M' R'∧SVR ν' F' s v∧k s S'=some r:=by
 unfold ki5 at hs
 split at hs<;>try (cases hs;done)
 rename_i cc mv a ha
 obtain⟨hc,hs⟩:=jck hs
 obtain⟨y,hy,hs⟩:=Option.bind_eq_some_iff.1 hs
 split at hs<;>try (cases hs;done)
 rename_i rs S1 hi
 obtain⟨E0,F1,M1,R1,q1,q2,q3,q4⟩:=jtu t.ins h ha hc hv
 have p0:(M1++(c.Mc++(R1++(c.park E0).O0))).Perm (E0++(M1++(c.Mc++(R1++c.O0)))):=by
  have e1:(c.park E0).O0=E0++c.O0:=by simp[Cnv.O0,Cnv.park]
  rw[e1]
  have p1:(R1++(E0++c.O0)).Perm (E0++(R1++c.O0)):=jfq R1 E0 _
  have p2:(c.Mc++(R1++(E0++c.O0))).Perm (E0++(c.Mc++(R1++c.O0))):=(List.Perm.append_left c.Mc p1).trans (jfq c.Mc E0 _)
  exact(List.Perm.append_left M1 p2).trans (jfq M1 E0 _)
 have hk:HK B ro (E0++(M1++(c.Mc++(R1++c.O0)))) H nx:=q1.hk.perm p0.symm
 have hA:∀x∈F1,Has (M1++(c.Mc++(R1++c.O0))) x.1 x.2∨jlg B x:=fun x hx=>by
  rcases q1.fz x hx with h1 | h1
  ·obtain⟨w,hm⟩:=h1.mem
   left
   exact Has.of_mem (w:=w) (by
    simp only[Cnv.O0]
    rcases List.mem_append.1 hm with h2 | h2
    ·simp[h2]
    ·have h3:(⟨x.1,w,x.2⟩:Ent)∈c.OF:=h2
     simp[h3])
  ·exact .inr h1
 obtain⟨v,E,N,H',nx',F',k1,k2,k3,k4,k5⟩:=ht a y hy ro _ E0 H nx hk q2 F1 hA vs q4
 have hC:=jr6 { S with mv:=mv } F1 M1 R1 F' E0 q1 E N H' nx' k2 (fun x hx=>by
  rcases k4 x hx with h1 | h1 | h1
  ·exact .inl (Has.append_left h1)
  ·exact(q1.fz x h1).imp (fun h=>Has.append_right h) id
  ·exact .inr h1)
 obtain⟨vs',rfl,k5⟩:=k5
 obtain⟨ν',M',j1,j2⟩:=j46 hC ⟨vs',rfl,jn5 (fun x hx=>List.mem_append.2 (.inl hx)) k5⟩ k3 hi
 exact⟨_,H',nx',_,S1,ν',_,M',_,k1,j1,j2,hs⟩
theorem jyj {T:List TE} (hT:∀t∈T,t.OK B call) {ch:CH} (hch:HOK B call ch):HOK B call (kjn T ch):=by
 intro α q f ss e S k r hs ro c tm H nx ν F M R h vs hv
 unfold kjn at hs
 split at hs
 ·rename_i t ht
  obtain⟨h1,rfl⟩:=j60 ht
  rw[jyl] at hs
  cases ho:t.ins.any Rep.owns with
  | false=>
    rw[ho] at hs
    simp only[cond_false,jyl] at hs
    cases hn:t.outs.all Rep.noSl with
    | true=>
      rw[hn] at hs
      exact j69 (hT t h1) hs h hv
    | false=>
      rw[hn] at hs
      obtain⟨F1,M1,R1,q1,_,q3⟩:=j4l (kat ss) (ss:=ss) h
      exact j69 (hT t h1) hs q1 (q3 vs hv)
  | true=>
    rw[ho] at hs
    obtain⟨hq,hs⟩:=kkj hs
    subst hq
    exact ke8 (hT t h1) hs h hv
 ·exact hch α q f ss e S k r hs ro c tm H nx ν F M R h vs hv
def noC:CH:=fun _ _ _ _ _ _ _=>none
theorem kfy:HOK B call noC:=fun α q f ss e S k r hs=>by cases hs
def j9k (outs:List Rep) (s:SV):Option (List SV):=bif outs.length.beq 1 then some [s] else match s with
 | .tup l=>some l
 | _=>none
def jc7 (N:Nat) (ch:CH) (G:Mem) (x:Fx) (ins outs:List Rep) (a:jl4 ins):Option (jl4 outs):=
 match jvn ins a ⟨[],[],[],G,0⟩ ⟨[],[],0⟩ with
 | some (ss,S)=>kg3 N ch x ⟨[],[],[],G,0⟩ S.mv S.nc ss fun s S=>match j9k outs s with
   | some ss=>match jtg outs S.mv ss with
     | some (c,_,y)=>j00 c (some y)
     | none=>none
   | none=>none
 | none=>none
def nu0:Nm:=fun b=>(b-gB,.nils)
theorem kab {ch:CH} (hch:HOK B call ch) {G:Mem} (hG:GRel B nu0 G) {x:Fx} {ins outs:List Rep} {f:FuncId} {call':FuncId→List AV→Tr Blk→Nat→Nat→Out} (hcall:∀vs H nx ro,call' f vs H nx ro=joy call ro x.cfn vs H nx):
  TE.OK B call' ⟨f,ins,outs,jc7 fuel ch G x ins outs⟩:=by
 classical
 intro a r hr ro O E0 H nx hk hw0 A hA vs hargs
 simp only[jc7] at hr
 split at hr<;>try (cases hr;done)
 rename_i ss S1 hi
 have h0:ConX B ro ⟨[],[],[],G,0⟩ (Cnv.park ⟨[],[],O.filter (fun x=> !decide ((x.b,x.c)∈A)),O.filter (fun x=>decide ((x.b,x.c)∈A))⟩ E0) ⟨[],[],0⟩ .e H nx nu0 A [] []:=by
  refine⟨hk.perm ?_,fun n s hn=>(by cases hn),rfl,rfl,fun x hx=>(by cases hx),rfl,fun y hy=>?_,hG⟩
  ·show((E0++O.filter _)++O.filter _).Perm (E0++O)
   rw[List.append_assoc]
   exact List.Perm.append_left E0 (List.perm_append_comm.trans (List.filter_append_perm _ O))
  ·rcases hA y hy with h1 | h1
   ·obtain⟨w,hm⟩:=h1.mem
    exact .inl (Has.of_mem (w:=w) (List.mem_filter.2 ⟨hm,by simpa using hy⟩))
   ·exact .inr h1
 obtain⟨ν1,M1,h1,h2,_,hfr,_⟩:=jq2 ins h0 hargs hw0 hi
 have h1':ConX B ro ⟨[],[],[],G,0⟩ ⟨[],[],O.filter (fun x=> !decide ((x.b,x.c)∈A)),O.filter (fun x=>decide ((x.b,x.c)∈A))⟩ ⟨[],S1.mv,S1.nc⟩ .e H nx ν1 A M1 []:=by
  have:S1=⟨[],S1.mv,S1.nc⟩:=by cases S1;simp only at hfr;subst hfr;rfl
  rw[←this];exact h1
 obtain⟨v,H',nx',s,S2,tm',ν',F',M',R',k1,k2,k3,k4⟩:=j33 hch hr rfl h1' h2
 split at k4<;>try (cases k4;done)
 rename_i rs hrs
 split at k4<;>try (cases k4;done)
 rename_i cc mv y hex
 obtain⟨hc,k4⟩:=jck k4
 cases k4
 obtain⟨vs',hv',hsv⟩:∃vs',v=W.pack vs'∧jb8 ν' F' rs vs':=by
  unfold j9k at hrs
  cases hl:outs.length.beq 1 with
  | true=>
    rw[hl] at hrs
    cases hrs
    exact⟨[v],rfl,v,[],rfl,k3,rfl⟩
  | false=>
    rw[hl] at hrs
    simp only[cond_false] at hrs
    split at hrs<;>cases hrs
    obtain⟨m,rfl,hm⟩:=k3
    have lens:∀(l:List Rep) (mv:Mem) (ss:List SV) (z:Option Bool×Mem×jl4 l),jtg l mv ss=some z→ss.length=l.length:=by
     intro l
     induction l with
     | nil=>intro mv ss z h;simp only[jtg] at h;split at h<;>cases h;rfl
     | cons a l ih=>
       intro mv ss z h
       cases l with
       | nil=>
         simp only[jtg] at h
         split at h
         ·rfl
         ·cases h
       | cons b l=>
         simp only[jtg] at h
         split at h<;>try (cases h;done)
         split at h<;>try (cases h;done)
         split at h<;>try (cases h;done)
         rename_i h2
         have:=ih _ _ _ h2
         simp only[List.length_cons] at this ⊢
         omega
    have hlen:=lens _ _ _ _ hex
    refine⟨m,?_,hm⟩
    rw[jaa,decide_eq_false_iff_not,←hlen,jb5 hm] at hl
    match m,hl with
    | a::b::m,_=>rfl
    | [a],hml=>simp at hml
    | [],_=>rfl
 obtain⟨E,F2,M2,R2,j1,j2,j3,j4⟩:=jtu outs k2 hex hc hsv
 refine⟨v,E,M2++R2,H',nx',F2,by rw[hcall];exact k1,j1.hk.perm ?_,j2,fun z hz=>?_,vs',hv',j4⟩
 ·simp only[Cnv.Mc,Cnv.O0,Cnv.park,List.flatten_nil,List.nil_append,List.append_assoc]
  have p1:O.Perm (O.filter (fun x=> !decide ((x.b,x.c)∈A))++O.filter (fun x=>decide ((x.b,x.c)∈A))):=(List.perm_append_comm.trans (List.filter_append_perm _ O)).symm
  refine(List.Perm.append_left E (List.Perm.append_left M2 (List.Perm.append_left R2 p1))).trans ?_
  have p2:=jfq M2 E (R2++(O.filter (fun x=> !decide ((x.b,x.c)∈A))++O.filter (fun x=>decide ((x.b,x.c)∈A))))
  refine p2.symm.trans (List.Perm.append_left M2 ?_)
  exact(jfq R2 E _).symm
 ·rcases j1.fz z hz with h3 | h3
  ·obtain⟨w,hm⟩:=h3.mem
   rcases List.mem_append.1 hm with h4 | h4
   ·exact .inl (Has.of_mem (w:=w) (List.mem_append.2 (.inr h4)))
   ·exact .inr (.inl (by simpa using (List.mem_filter.1 h4).2))
  ·exact .inr (.inr h3)
end X
end Go.Vm
namespace Go.Vm
namespace X
open W
def csz:CC→Nat
 | .seq a b | .cond _ a b=>Nat.succ (Nat.add (csz a) (csz b))
 | .block _ b | .loop b | .rangeF _ _ _ _ b=>Nat.succ (csz b)
 | _=>1
inductive An where
 | l (sl:List (Pl×Rep))
 | j (mb:List Pl) (sl:List (Pl×Rep))
 | f (it:ITE) (sl:List (Pl×Rep))
def kou (i:Nat):List (Nat×An)→Option An
 | []=>none
 | (k,a)::r=>bif Nat.beq k i then some a else kou i r
def anJ (o:Option An) (c:AC):AC:=match o with
 | some (.j mb sl)=>.join mb sl c
 | _=>c
def anL:Option An→List (Pl×Rep)
 | some (.l sl)=>sl
 | _=>[]
def mkA (hs:List (Nat×An)):CC→Nat→AC
 | .skip,_=>.skip
 | .region ops,i=>anJ (kou i hs) (.region ops)
 | .seq a b,i=>.seq (mkA hs a (Nat.succ i)) (mkA hs b (Nat.succ (Nat.add i (csz a))))
 | .cond c a b,i=>anJ (kou i hs) (.cond c (mkA hs a (Nat.succ i)) (mkA hs b (Nat.succ (Nat.add i (csz a)))))
 | .block id b,i=>.block id (mkA hs b (Nat.succ i))
 | .loop b,i=>.loop (anL (kou i hs)) (mkA hs b (Nat.succ i))
 | .rangeF x _ ps as b,i=>match kou i hs with
   | some (.f it sl)=>.rangeF x it (ps.headD 0) as sl (mkA hs b (Nat.succ i))
   | _=>.bad
 | .exit id,_=>.exit id
 | .ret,_=>.ret
 | .bad,_=>.bad
def jci (c:CFn) (hs:List (Nat×An)) (h:Hint):Fx:=⟨c.nt,c.res,mkA hs c.body 0,h⟩
end X
end Go.Vm
namespace Go.Vm
namespace X
open W
variable {B:Base} {memo:jn7} {prog:Tr CFn}
def kbu:List (FuncId×Fx)→FuncId→Option Fx
 | [],_=>none
 | x::r,f=>bif Nat.beq x.1 f then some x.2 else kbu r f
theorem jzu:∀ {C:List (FuncId×Fx)} {f:FuncId} {x:Fx},kbu C f=some x→(f,x)∈C
 | [],f,t,h=>by cases h
 | t'::r,f,t,h=>by
   simp only[kbu] at h
   cases hb:Nat.beq t'.1 f<;>rw[hb] at h<;>simp only[cond_true,cond_false] at h
   ·exact List.mem_cons_of_mem _ (jzu h)
   ·cases h
    rw[jaa,decide_eq_true_eq] at hb
    subst hb
    exact List.mem_cons_self ..
def hnd (N:Nat) (T:List TE) (C:List (FuncId×Fx)):Nat→CH
 | 0=>kjn T noC
 | d+1=>kjn T (kpc N (kbu C) (hnd N T C d))
def jo1 (memo:jn7) (prog:Tr CFn) (C:List (FuncId×Fx)):Prop:=∀x∈C,(∀vs,memo x.1 vs=none)∧prog.get x.1=some x.2.cfn
def OKs (B:Base) (memo:jn7) (prog:Tr CFn) (m:Nat) (T:List TE):Prop:=∀t∈T,∀n,m≤n→t.OK B (js8 B memo prog n)
theorem kf8 {T:List TE} {C:List (FuncId×Fx)} {m:Nat} (hT:OKs B memo prog m T) (hC:jo1 memo prog C):∀d n,m+d≤n→HOK B (js8 B memo prog n) (hnd fuel T C d)
 | 0,n,h=>jyj (fun t ht=>hT t ht n (by omega)) kfy
 | d+1,n+1,h=>jyj (fun t ht=>hT t ht _ (by omega)) (kbj (kf8 hT hC d n (by omega)) fun f x hx vs H nx ro=>by
    obtain⟨h1,h2⟩:=hC _ (jzu hx)
    simp only[js8,h1 vs,h2])
theorem ja1 {T:List TE} {C:List (FuncId×Fx)} {m d:Nat} (hT:OKs B memo prog m T) (hC:jo1 memo prog C) {G:Mem} (hG:GRel B nu0 G) {f:FuncId} {x:Fx} (hx:(∀vs,memo f vs=none)∧prog.get f=some x.cfn) {ins outs:List Rep}
  {run:jl4 ins→Option (jl4 outs)} (hr:∀a,jc7 fuel (hnd fuel T C d) G x ins outs a=run a):OKs B memo prog (m+d+1) [⟨f,ins,outs,run⟩]:=by
 intro t ht n hn
 rw[List.mem_singleton.1 ht]
 match n,hn with
 | n+1,hn=>
   have h1:=kab (kf8 hT hC d n (by omega)) hG (x:=x) (ins:=ins) (outs:=outs) (f:=f) (call':=js8 B memo prog (n+1)) (fun vs H nx ro=>by simp only[js8,hx.1 vs,hx.2])
   have e:run=jc7 fuel (hnd fuel T C d) G x ins outs:=funext fun a=>(hr a).symm
   rw[e];exact h1
theorem jai {m:Nat}:OKs B memo prog m []:=fun t ht=>by cases ht
theorem jag {m m':Nat} {T:List TE} (h:OKs B memo prog m T) (hm:m≤m'):OKs B memo prog m' T:=fun t ht n hn=>h t ht n (by omega)
theorem jty {F:jaj}:∀(r:Rep),r.owns=false→∀(x:r.den) (l:List AV) (E:List Ent),j84 F r x l E→E=[]
 | .d t,_,x,l,E,⟨_,_,h⟩=>h
 | .own t,h,x,l,E,_=>by cases h
 | .ownc t,h,x,l,E,_=>by cases h
 | .ownx t,h,x,l,E,_=>by cases h
 | .aw t,h,x,l,E,_=>by cases h
 | .mp k v,h,x,l,E,_=>by cases h
 | .p a b,h,x,l,E,⟨l1,l2,E1,E2,e1,e2,h1,h2⟩=>by
   simp only[Rep.owns,Bool.or_eq_false_iff] at h
   rw[e2,jty a h.1 _ _ _ h1,jty b h.2 _ _ _ h2];rfl
 | .u,_,x,l,E,h=>h.2
 | .err,_,x,l,E,⟨_,_,_,h⟩=>h
 | .fn f,_,x,l,E,h=>h.2
 | .nl,_,x,l,E,h=>h.2
 | .dn t,_,x,l,E,⟨_,_,_,_,h⟩=>h
 | .dx t,_,x,l,E,⟨_,_,_,_,h⟩=>h
 | .sf f,_,x,l,E,h=>h.2
theorem j7m {F:jaj} {r:Rep} (h:r.owns=false) {x:r.den} {v:AV} {E:List Ent} (hr:js4 F r x v E):E=[]:=by
 unfold js4 at hr
 cases ha:r.agg with
 | true=>
   rw[ha] at hr
   obtain⟨m,_,hr⟩:=hr
   exact jty r h _ _ _ hr
 | false=>
   rw[ha] at hr
   exact jty r h _ _ _ hr
theorem j3j {F:jaj}:∀ {l:List Rep},l.any Rep.owns=false→∀ {x:jl4 l} {vs:List AV} {E:List Ent},jni F l x vs E→E=[]
 | [],_,x,vs,E,h=>h.2
 | [r],hr,x,vs,E,⟨v,e1,h⟩=>by
   simp only[List.any_cons,List.any_nil,Bool.or_false] at hr
   exact j7m hr h
 | r::r'::l,hr,x,vs,E,⟨v,vs',E1,E2,e1,e2,h1,h2⟩=>by
   simp only[List.any_cons,Bool.or_eq_false_iff] at hr
   rw[e2,j7m hr.1 h1,j3j (l:=r'::l) (by simp[List.any_cons,hr.2.1,hr.2.2]) h2];rfl
theorem jk3 {σ β:Type} {step:(σ→Option β)→σ→Option β} (Inv:σ→Prop) (m:σ→Nat) (R:σ→Option β) (h:∀s rec,Inv s→(∀s',Inv s'→m s'<m s→rec s'=R s')→step rec s=R s):∀n s,Inv s→m s<n→jbl step n s=R s
 | 0,s,_,hm=>absurd hm (Nat.not_lt_zero _)
 | n+1,s,hi,hm=>h s _ hi fun s' h1 h2=>jk3 Inv m R h n s' h1 (by omega)
end X
end Go.Vm
