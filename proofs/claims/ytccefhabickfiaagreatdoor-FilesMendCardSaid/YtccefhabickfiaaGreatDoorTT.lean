/- Parts of the proof. -/
import Derived.Test.YtccefhabickfiaaGreatDoorLP
set_option linter.unusedSimpArgs false
set_option linter.defProp false
set_option linter.unusedVariables false
namespace Go.Vm
namespace W
open Go Go.RowKit Go.Vm.X Go.Proofs
variable {P:Program} {gl:List Nat} {B:Base}
def Nd (f:FuncId):dX:=λg az=>bif Nat.beq g f then(match az with
 | [.str s,.str [c]]=>some λH nx _=>some (.int .i64 (Lib.indexByte (u8 s) (UInt8.ofNat c)),H,nx)
 | _=>none) else none
def j8k {f:FuncId} (hfn:tI P f) (c1:∀(s:ByteArray) (c:UInt8) (w:World),Calls P f #[.string s,.string ⟨#[c]⟩] w λe w'=>e=.returned (.int .i64 (Lib.indexByte s.data.toList c))/\w'=w):iX P gl B (Nd f):=by
 intro g az k hk H nx v H' nx' ro hv hb;unfold Nd at hk;obtain⟨e,hk2⟩:=aR hk;rw[aL,aH] at e;clear hk;subst e;split at hk2<;>try (cases hk2;done)
 rename_i s c;cases hk2;simp only[aG,aM] at hv;obtain⟨rfl,rfl,rfl⟩:=hv;refine⟨Syn.refl _ _ _,λρ w args hr _ _ _ _ ha=>⟨hfn,?_⟩⟩;obtain⟨v1,_,hl,⟨b1,rfl,h1⟩,v2,_,rfl,⟨b2,rfl,h2⟩,h3⟩:=ha;simp only[VRs] at h3;subst h3;obtain rfl:args=#[.string b1,.string b2]:=gF.1 hl;have e2:b2=⟨#[UInt8.ofNat c]⟩:=by
  have:=mJ h2;cases b2
  congr
  exact gF.1 this
 subst e2;refine(c1 b1 (UInt8.ofNat c) w).mono ?_;rintro e w' ⟨rfl,rfl⟩;exact⟨_,rfl,Dr (Below.quiet (Below.refl _ _)) hr (by rw[mJ h1];simp[VR])⟩
def jh7 {call:FuncId->List AV->Tr Blk->Nat->Nat->bN} (hcall:lS P gl call) {f:FuncId} {az:List AV} {H H':Tr Blk} {nx nx':Nat} {v:AV} (h:call f az H nx nx=some (v,H',nx')) {ρ:RM} {w w':World} {args:Array Value}
  (hr:HR ρ H w) (hf:Free ρ nx nx') (hgl:GLok gl ρ) (hwf:WF H nx) (ha:VRs ρ az args.toList) (hB:Below w.heap.size w w'):
  Calls P f args w' λe w''=>(∃ρ' v',e=.returned v'/\VR ρ' v v')/\Below w'.heap.size w' w'':=by
 refine((hcall _ _ _ _ _ _ _ _ h).2 ρ w' args ((Below.quiet hB).hr hr) hf (aU _) hgl hwf ha).2.mono ?_;rintro en w1 ⟨v',rfl,ρ',st,hr',hv'⟩;exact⟨⟨ρ',v',rfl,hv'⟩,st.os,st.tape,st.output,st.size,λy hy=>st.keep y hy (λb l _ _ hb=>hwf b hb)⟩
def jjd {ρ:RM} {H:Tr Blk} {nx nx' ro:Nat} {w w':World} {v:AV} {v':Value} (q:Quiet w w') (hr:HR ρ H w) (hn:nx<=nx') (hf:Free ρ nx nx') (hv:VR ρ v v'):Ends ρ H nx ro w v H nx' v' w':=
 ⟨ρ,⟨q.os,q.tape,q.output,q.size,hn,λ_ _=>rfl,λx hx _=>q.keep x hx,λb l h h' e=>(by rw[hf b h h'] at e;cases e),λ_ h=>.inr h,λ_ _ _=>rfl⟩,q.hr hr,hv⟩
def asc (s:List Nat):Bool:=s.all λb=>b.blt 128
def pF (k c:Int):Prop:=0<=k/\k<=4/\ -40969<=c/\c<=40969
def jl7 (call:FuncId->List AV->Tr Blk->Nat->Nat->bN) (fT:FuncId) (H:Tr Blk) (nx M:Nat):Prop:=∀k c,pF k c->∃t H1 n1,call fT [.agg [.int .u8 k,.int .i64 c]] H nx nx=some (.str t,H1,n1)/\asc t=true/\n1<=M
open Classical in
noncomputable def jbv (call:FuncId->List AV->Tr Blk->Nat->Nat->bN) (fT:FuncId) (H:Tr Blk) (nx:Nat):bN:=if h:∃M,jl7 call fT H nx M then some (.tup [.agg [.int .u8 0,.int .i64 0],.int .i64 4],H,Classical.choose h) else none
noncomputable def Et (call:FuncId->List AV->Tr Blk->Nat->Nat->bN) (fT:FuncId) (s:List Nat) (H:Tr Blk) (nx:Nat):bN:=bif asc s then(match call fT [.agg [.int .u8 (S07.lpFin s).1,.int .i64 (S07.lpFin s).2]] H nx nx with
 | some (.str t,_,n1)=>bif s.isEmpty|| !(t==s) then some (.tup [.agg [.int .u8 0,.int .i64 0],.int .i64 4],H,n1) else some (.tup [.agg [.int .u8 (S07.lpFin s).1,.int .i64 (S07.lpFin s).2],.int .i64 0],H,n1)
 | _=>none) else jbv call fT H nx
noncomputable def Nf (call:FuncId->List AV->Tr Blk->Nat->Nat->bN) (f fT:FuncId):dX:=λg az=>bif Nat.beq g f then(match az with
 | [.str s]=>some λH nx _=>Et call fT s H nx
 | _=>none) else none
def Nv (b:ByteArray):b.toList=b.data.toList:=qfx b
def j8m {call:FuncId->List AV->Tr Blk->Nat->Nat->bN} {f fT:FuncId} (hcall:lS P gl call) (hsyn:iY call) (hfn:tI P f)
  (c1:∀(s:ByteArray) (w:World) (t:ByteArray) (_:∀i (h:i<s.size),(s[i]'h).toNat<128)
    (_:∀w',Below w.heap.size w w'->Calls P fT #[.agg #[.int .u8 (S07.lpFin (S07.bytesN s)).1,.int .i64 (S07.lpFin (S07.bytesN s)).2]] w' λe w''=>e=.returned (.string t)/\Below w'.heap.size w' w''),
    Calls P f #[.string s] w λe w'=>e=.returned (if s.toList=[]\/t.toList≠s.toList then .tuple #[.agg #[.int .u8 0,.int .i64 0],.int .i64 4] else .tuple #[.agg #[.int .u8 (S07.lpFin (S07.bytesN s)).1,.int .i64 (S07.lpFin (S07.bytesN s)).2],.int .i64 0])/\Below w.heap.size w w')
  (c2:∀(s:ByteArray) (w:World) (T:Int->Int->ByteArray) (_:¬ ∀i (h:i<s.size),(s[i]'h).toNat<128) (_:∀k c,pF k c->asc ((T k c).data.toList.map UInt8.toNat)=true)
    (_:∀k c,pF k c->∀w',Below w.heap.size w w'->Calls P fT #[.agg #[.int .u8 k,.int .i64 c]] w' λe w''=>e=.returned (.string (T k c))/\Below w'.heap.size w' w''),
    Calls P f #[.string s] w λe w'=>e=.returned (.tuple #[.agg #[.int .u8 0,.int .i64 0],.int .i64 4])/\Below w.heap.size w w'):
  iX P gl B (Nf call f fT):=by
 intro g az k hk H nx v H' nx' ro hv hb;unfold Nf at hk;obtain⟨e,hk2⟩:=aR hk;rw[aL,aH] at e;clear hk;subst e;split at hk2<;>try (cases hk2;done)
 rename_i s;cases hk2;simp only[Et] at hv;cases hc:asc s with
 | false=>
   rw[hc,aF] at hv;unfold jbv at hv;split at hv<;>try (cases hv;done)
   rename_i hex;have hM:=Ti hex;generalize Classical.choose hex=M at hv hM;simp only[aG,aM] at hv;obtain⟨rfl,rfl,rfl⟩:=hv;obtain⟨t0,H0,n0,hc0,_,hn0⟩:=hM 0 0 ⟨by decide,by decide,by decide,by decide⟩;have hn1:nx<=M:=eA (hcall _ _ _ _ _ _ _ _ hc0).1 hn0;refine⟨⟨hn1,λ_ h=>.inr h,λ_ _ _=>rfl⟩,λρ w args hr hf hro hgl hwf ha=>⟨hfn,?_⟩⟩;obtain⟨b,rfl,hbs⟩:=Kt ha;have hall:∀k c,pF k c->∃t:ByteArray,asc (t.data.toList.map UInt8.toNat)=true/\∀w',Below w.heap.size w w'->Calls P fT #[.agg #[.int .u8 k,.int .i64 c]] w' λe w''=>e=.returned (.string t)/\Below w'.heap.size w' w'':=λk c hkc=>by
    obtain⟨t,H1,n1,h1,h2,h3⟩:=hM k c hkc;have hcq:=λw' (hB:Below w.heap.size w w')=>jh7 hcall h1 hr (λb h h'=>hf b h (kB h' h3)) hgl hwf (args:=#[.agg #[.int .u8 k,.int .i64 c]]) ⟨_,[],rfl,⟨_,rfl,_,_,rfl,rfl,_,_,rfl,rfl,rfl⟩,rfl⟩ hB
    obtain⟨_,_,_,⟨⟨ρ0,v0,_,tb0,_,htb0⟩,_⟩,_⟩:=hcq w (Below.refl _ _) [];refine⟨tb0,by rw[htb0];exact h2,λw' hB=>(hcq w' hB).mono ?_⟩;rintro e w'' ⟨⟨ρ',v',rfl,hv'⟩,hB2⟩;obtain⟨tb,rfl,htb⟩:=hv';refine⟨?_,hB2⟩
    congr 2
    cases tb;cases tb0
    congr
    exact gF.1 ((mJ htb).trans (mJ htb0).symm)
   have hA:¬ ∀i (h:i<b.size),(b[i]'h).toNat<128:=λhA=>by
    have:asc s=true:=by
     unfold asc;rw[bS];intro x hx;obtain⟨i,hi,rfl⟩:=mS hx;have h2:i<b.size:=by rw[<-hbs,dM,gS] at hi;exact hi
     have h1:=S07.bytesN_get b i h2;have hbn:S07.bytesN b=s:=hbs;rw[hbn,jF,dK hi,nL] at h1;have:=hA i h2;simp only[Nat.blt,aP,aH];omega
    rw[hc] at this;cases this
   classical
   let T:Int->Int->ByteArray:=λk c=>if h:pF k c then Classical.choose (hall k c h) else⟨#[]⟩
   have hT1:∀k c,pF k c->asc ((T k c).data.toList.map UInt8.toNat)=true:=λk c h=>by
    simp only[T,h,dif_pos];exact(Ti (hall k c h)).1
   have hT2:∀k c,pF k c->∀w',Below w.heap.size w w'->Calls P fT #[.agg #[.int .u8 k,.int .i64 c]] w' λe w''=>e=.returned (.string (T k c))/\Below w'.heap.size w' w'':=λk c h w' hB=>by
    simp only[T,h,dif_pos];exact(Ti (hall k c h)).2 w' hB
   refine(c2 b w T hA hT1 hT2).mono ?_;rintro e w' ⟨rfl,hB⟩;exact⟨_,rfl,jjd (Below.quiet hB) hr hn1 hf (Ig ⟨_,rfl,_,_,rfl,rfl,_,_,rfl,rfl,rfl⟩ rfl)⟩
 | true=>
 rw[hc,aB] at hv;split at hv<;>try (cases hv;done)
 rename_i t H1 n1 hcl;have hn1:nx<=n1:=(hcall _ _ _ _ _ _ _ _ hcl).1;have hH:H'=H/\nx'=n1:=by
  revert hv
  cases s.isEmpty|| !(t==s)<;>(intro hv;simp only[aB,aF,aG,aM] at hv;exact⟨hv.2.1.symm,hv.2.2.symm⟩)
 obtain⟨rfl,rfl⟩:=hH;refine⟨⟨hn1,λ_ h=>.inr h,λ_ _ _=>rfl⟩,λρ w args hr hf hro hgl hwf ha=>⟨hfn,?_⟩⟩;obtain⟨b,rfl,hbs⟩:=Kt ha;have hbn:S07.bytesN b=s:=hbs;have hcq:=λw' (hB:Below w.heap.size w w')=>jh7 hcall hcl hr hf hgl hwf (args:=#[.agg #[.int .u8 (S07.lpFin s).1,.int .i64 (S07.lpFin s).2]]) ⟨_,[],rfl,⟨_,rfl,_,_,rfl,rfl,_,_,rfl,rfl,rfl⟩,rfl⟩ hB
 have hA:∀i (h:i<b.size),(b[i]'h).toNat<128:=λi h=>by
  have h1:=S07.bytesN_get b i h;have h2:i<s.length:=by rw[<-hbs,dM,gS];exact h
  rw[hbn,jF,dK h2,nL] at h1;have h3:=bS.1 hc _ (dU h2);simp only[Nat.blt,aP,aH] at h3;omega
 refine(c1 b w ⟨(u8 t).toArray⟩ hA λw' hB=>?_).mono ?_
 ·rw[hbn];refine(hcq w' hB).mono ?_;rintro e w'' ⟨⟨ρ',v',rfl,hv'⟩,h2⟩;obtain⟨tb,rfl,htb⟩:=hv';refine⟨?_,h2⟩
  congr 2
  cases tb
  congr
  exact gF.1 (by simpa using mJ htb)
 ·rintro e w' ⟨rfl,hB⟩;refine⟨_,rfl,jjd (Below.quiet hB) hr hn1 hf ?_⟩;have ht:((⟨(u8 t).toArray⟩:ByteArray).toList≠b.toList)↔u8 t≠u8 s:=by
   rw[Nv,Nv,mJ hbs]
  have hs:b.toList=[]↔s=[]:=by
   rw[Nv,mJ hbs];unfold u8;simp
  obtain⟨_,_,_,⟨⟨ρ',v',_,tb,_,htb⟩,_⟩,_⟩:=hcq w (Below.refl _ _) [];have ets:u8 t≠u8 s↔t≠s:=by
   constructor
   ·intro h e;exact h (by rw[e])
   ·intro h e;refine h ?_;rw[<-htb,<-hbs,mJ htb,mJ hbs,e]
  have hty:∀(k c er:Int),VR ρ (.tup [.agg [.int .u8 k,.int .i64 c],.int .i64 er]) (.tuple #[.agg #[.int .u8 k,.int .i64 c],.int .i64 er]):=λk c er=>Ig ⟨_,rfl,_,_,rfl,rfl,_,_,rfl,rfl,rfl⟩ rfl
  revert hv
  cases hq:s.isEmpty|| !(t==s)
  ·simp only[aF,aG,aM];rintro ⟨rfl,_⟩;simp only[nK,qf9,beq_iff_eq,List.isEmpty_eq_false_iff] at hq;rw[aD,hbn]
   ·exact hty _ _ _
   ·rintro (h | h)
    ·exact hq.1 (hs.1 h)
    ·exact ets.1 (ht.1 h) hq.2
  ·simp only[aB,aG,aM];rintro ⟨rfl,_⟩;rw[aK]
   ·exact hty _ _ _
   ·simp only[kD,fB,beq_eq_false_iff_ne,qgs] at hq;rcases hq with h | h
    ·exact .inl (hs.2 h)
    ·exact .inr (ht.2 (ets.2 h))
end W
end Go.Vm
namespace Go.Vm
namespace X
open W Go.Proofs
variable {B:Base} {memo:dX} {prog:Tr CFn}
def Jv (a:List Nat×List Nat):Option Int:=match a.2 with
 | [c]=>some (Lib.indexByte (u8 a.1) (UInt8.ofNat c))
 | _=>none
def j8j {f:FuncId} (hm:∀az g,Nd f f az=some g->memo f az=some g):cE B memo prog 1 [⟨f,[.d .str,.d .str],[.d (.int .i64)],Jv⟩]:=by
 refine wF λa r hr ro O H nx hk A hA vs hv=>?_
 obtain⟨v1,_,_,_,rfl,_,⟨_,h1,_⟩,v2,rfl,_,h2,_⟩:=hv;obtain⟨s,t⟩:=a;have h1:v1=AV.str s:=by simpa[aX] using h1
 have h2:v2=AV.str t:=by simpa[aX] using h2
 subst h1;subst h2;have hr:Jv (s,t)=some r:=hr;unfold Jv at hr;split at hr<;>try (cases hr;done)
 rename_i c hc;simp only at hc;subst hc;cases hr;exact⟨λH nx _=>some (.int .i64 (Lib.indexByte (u8 s) (UInt8.ofNat c)),H,nx),_,[],[],H,nx,[],hm _ _ (by simp only[Nd,aL,bA,aB]),rfl,hk,pO,oD,[_],rfl,_,rfl,rfl,rfl,rfl⟩
abbrev jqj:Ty:=.prod (.int .u8) (.int .i64)
open Classical in
noncomputable def jbu (txt:(Int×Int)->Option (List Nat)):Option ((Int×Int)×Int):=if ∀k c,pF k c->∃t,txt (k,c)=some t/\asc t=true then some ((0,0),4) else none
noncomputable def Ev (txt:(Int×Int)->Option (List Nat)) (s:List Nat):Option ((Int×Int)×Int):=bif asc s then(txt (S07.lpFin s)).bind λt=>some (bif s.isEmpty|| !(t==s) then((0,0),4) else(S07.lpFin s,0)) else jbu txt
def Ym {Q:Int->Nat->Prop} (a:Int):∀m:Nat,(∀i,a<=i->i<a+m->∃n,Q i n)->∃M,∀i,a<=i->i<a+m->∃n,Q i n/\n<=M
 | 0,_=>⟨0,λi h1 h2=>by omega⟩
 | m+1,h=>by
   obtain⟨M,hM⟩:=Ym a m λi h1 h2=>h i h1 (by omega)
   obtain⟨n,hn⟩:=h (a+m) (by omega) (by omega);refine⟨max M n,λi h1 h2=>?_⟩;by_cases e:i=a+m
   ·subst e;exact⟨n,hn,by omega⟩
   ·obtain⟨q,hq,hqM⟩:=hM i h1 (by omega);exact⟨q,hq,by omega⟩
def jvm {Q:Int->Int->Nat->Prop} (h:∀k c,pF k c->∃n,Q k c n):∃M,∀k c,pF k c->∃n,Q k c n/\n<=M:=by
 have h1:∀k:Int,0<=k->k<0+ ((5:Nat):Int)->∃M:Nat,∀c:Int, -40969<=c->c < -40969+ ((81939:Nat):Int)->∃n,Q k c n/\n<=M:=λk k0 k1=>Ym (Q:=Q k) (-40969) 81939 λc c0 c1=>h k c ⟨by omega,by omega,by omega,by omega⟩
 obtain⟨M,hM⟩:=Ym (Q:=λk M=>∀c:Int, -40969<=c->c < -40969+ ((81939:Nat):Int)->∃n,Q k c n/\n<=M) 0 5 h1;refine⟨M,λk c ⟨a1,a2,a3,a4⟩=>?_⟩;obtain⟨m,h2,h3⟩:=hM k (by omega) (by omega);obtain⟨n,h4,h5⟩:=h2 c (by omega) (by omega);exact⟨n,h4,by omega⟩
def j8l {call0:FuncId->List AV->Tr Blk->Nat->Nat->bN} {f fT:FuncId} {txt:(Int×Int)->Option (List Nat)} (hT:TE.OK B call0 ⟨fT,[.d jqj],[.d .str],txt⟩)
  (hm:∀az g,Nf call0 f fT f az=some g->memo f az=some g):cE B memo prog 1 [⟨f,[.d .str],[.d jqj,.d (.int .i64)],Ev txt⟩]:=by
 refine wF λs r hr ro O H nx hk A hA vs hv=>?_
 obtain⟨v1,rfl,_,h1,_⟩:=hv;have h1:v1=AV.str s:=by simpa[aX] using h1
 subst h1;have hr:Ev txt s=some r:=hr;unfold Ev at hr;have hm':memo f [.str s]=some λH nx _=>Et call0 fT s H nx:=hm _ _ (by simp only[Nf,aL,bA,aB])
 cases hc:asc s with
 | false=>
   rw[hc,aF] at hr;unfold jbu at hr;split at hr<;>try (cases hr;done)
   rename_i hall;cases hr;have hq:HK B nx (O.map eG) H nx:=hk.quiet;have hAq:∀x∈A,Has (O.map eG) x.1 x.2\/iW B x:=λx hx=>(hA x hx).imp (λh=>h.quiet) id
   have hone:∀k c,pF k c->∃n1,∃t H1,call0 fT [.agg [.int .u8 k,.int .i64 c]] H nx nx=some (.str t,H1,n1)/\asc t=true/\nx<=n1:=λk c hkc=>by
    obtain⟨t,ht,hta⟩:=hall k c hkc;obtain⟨u,EE,NN,Hc,nxc,F',k1,k2,k3,k4,vs',rfl,u',e1,k5⟩:=hT (k,c) t ht nx _ [] H nx hq (λ_ h=>by cases h) A hAq [.agg [.int .u8 k,.int .i64 c]] ⟨_,rfl,_,rfl,rfl,⟨_,_,rfl,rfl,rfl⟩,rfl⟩;subst e1;unfold gC at k5;simp only[Rep.agg,Ty.agg,aF] at k5;obtain⟨_,k6,_⟩:=k5;have k6:u'=AV.str t:=by simpa[aX] using k6
    subst k6;exact⟨nxc,t,Hc,k1,hta,(jC k2.r1).1⟩
   obtain⟨M,hM⟩:=jvm hone;have hex:∃M,jl7 call0 fT H nx M:=⟨M,λk c hkc=>by
    obtain⟨n1,⟨t,H1,q1,q2,_⟩,q4⟩:=hM k c hkc;exact⟨t,H1,n1,q1,q2,q4⟩⟩
   have hup:nx<=Classical.choose hex:=by
    have hsp:=Ti hex;obtain⟨t,H1,n1,q1,_,q3⟩:=hsp 0 0 ⟨by decide,by decide,by decide,by decide⟩;obtain⟨n2,t2,H2,q4,_,q5⟩:=hone 0 0 ⟨by decide,by decide,by decide,by decide⟩;rw[q1] at q4;cases q4;omega
   refine⟨_,_,[],[],H,Classical.choose hex,[],hm',?_,zA hk hup,pO,oD,[.agg [.int .u8 0,.int .i64 0],.int .i64 4],rfl,_,_,[],[],rfl,rfl,⟨_,rfl,rfl,⟨_,_,rfl,rfl,rfl⟩,rfl⟩,_,rfl,rfl,rfl,rfl⟩;simp only[Et,hc,aF,jbv,dif_pos hex];rfl
 | true=>
 rw[hc,aB] at hr;obtain⟨t,ht,hr⟩:=dN.1 hr;have hq:HK B nx (O.map eG) H nx:=hk.quiet;have hAq:∀x∈A,Has (O.map eG) x.1 x.2\/iW B x:=λx hx=>(hA x hx).imp (λh=>h.quiet) id
 obtain⟨u,EE,NN,Hc,nxc,F',k1,k2,k3,k4,vs',rfl,u',e1,k5⟩:=hT (S07.lpFin s) t ht nx _ [] H nx hq (λ_ h=>by cases h) A hAq [.agg [.int .u8 (S07.lpFin s).1,.int .i64 (S07.lpFin s).2]] ⟨_,rfl,_,rfl,rfl,⟨_,_,rfl,rfl,rfl⟩,rfl⟩;subst e1;unfold gC at k5;simp only[Rep.agg,Ty.agg,aF] at k5;obtain⟨_,k6,_⟩:=k5;have k6:u'=AV.str t:=by simpa[aX] using k6
 subst k6;have hup:nx<=nxc:=(jC k2.r1).1;have hcall:call0 fT [.agg [.int .u8 (S07.lpFin s).1,.int .i64 (S07.lpFin s).2]] H nx nx=some (.str t,Hc,nxc):=k1;cases hq2:s.isEmpty|| !(t==s) with
 | true=>
   rw[hq2,aB] at hr;cases hr;refine⟨_,_,[],[],H,nxc,[],hm',?_,zA hk hup,pO,oD,[.agg [.int .u8 0,.int .i64 0],.int .i64 4],rfl,_,_,[],[],rfl,rfl,⟨_,rfl,rfl,⟨_,_,rfl,rfl,rfl⟩,rfl⟩,_,rfl,rfl,rfl,rfl⟩;simp only[Et,hc,aB,hcall,hq2];rfl
 | false=>
   rw[hq2,aF] at hr;cases hr;refine⟨_,_,[],[],H,nxc,[],hm',?_,zA hk hup,pO,oD,[.agg [.int .u8 (S07.lpFin s).1,.int .i64 (S07.lpFin s).2],.int .i64 0],rfl,_,_,[],[],rfl,rfl,⟨_,rfl,rfl,⟨_,_,rfl,rfl,rfl⟩,rfl⟩,_,rfl,rfl,rfl,rfl⟩;simp only[Et,hc,aB,hcall,hq2,aF];rfl
end X
end Go.Vm
namespace Go.Vm
namespace W
open Go Go.RowKit Go.Vm.X
variable {P:Program} {gl:List Nat} {B:Base}
def Ci (f:FuncId):dX:=λg az=>bif Nat.beq g f then(match az with
 | [.str s]=>bif s.length.ble 1000000000 then some λH nx _=>some (.int .u16 (dE s),H,nx) else none
 | _=>none) else none
def j8t {f:FuncId} (hfn:tI P f) (c1:∀(s:ByteArray) (_:s.size<=1000000000) (w:World),Calls P f #[.string s] w λe w'=>e=.returned (.int .u16 (dE (s.data.toList.map UInt8.toNat)))/\Below w.heap.size w w'):iX P gl B (Ci f):=by
 intro g az k hk H nx v H' nx' ro hv hb;unfold Ci at hk;obtain⟨e,hk2⟩:=aR hk;rw[aL,aH] at e;clear hk;subst e;split at hk2<;>try (cases hk2;done)
 rename_i s;obtain⟨hc,hk2⟩:=aR hk2;rw[aP,aH] at hc;cases hk2;simp only[aG,aM] at hv;obtain⟨rfl,rfl,rfl⟩:=hv;refine⟨Syn.refl _ _ _,λρ w args hr _ _ _ _ ha=>⟨hfn,?_⟩⟩;obtain⟨v1,_,hl,⟨b1,rfl,h1⟩,h3⟩:=ha;simp only[VRs] at h3;subst h3;obtain rfl:args=#[.string b1]:=gF.1 hl;have hs:b1.size<=1000000000:=by
  have e:b1.size=s.length:=by rw[<-h1,dM,gS];rfl
  omega
 refine(c1 b1 hs w).mono ?_;rintro e w' ⟨rfl,hB⟩;exact⟨_,rfl,Dr (Below.quiet hB) hr (by rw[h1];simp[VR])⟩
def lX (c:Nat):List Nat->Int
 | []=> -1
 | x::l=>if 0<=lX c l then lX c l+1 else if x=c then 0 else -1
def jlh (c:Nat):∀l:List Nat,(lX c l= -1/\c∉l)\/∃i:Nat,i<l.length/\lX c l=i/\l.getD i 0=c/\∀j,i<j->j<l.length->l.getD j 0≠c
 | []=>.inl ⟨rfl,by simp⟩
 | x::l=>by
   rcases jlh c l with⟨h1,h2⟩ | ⟨i,h1,h2,h3,h4⟩
   ·simp only[lX,h1];rw[aD (by omega)];by_cases e:x=c
    ·rw[aK e];refine .inr ⟨0,by simp,rfl,by simpa using e,λj j1 j2=>?_⟩;cases j with
     | zero=>omega
     | succ j=>
       intro h;refine h2 ?_;simp only[dG] at j2;have hj:j<l.length:=by omega
       rw[qfy,List.getD,dK hj,nL] at h;rw[<-h];exact dU _
    ·rw[aD e];exact .inl ⟨rfl,by simp[vT e,h2]⟩
   ·refine .inr ⟨i+1,by simp;omega,?_,by simpa using h3,λj j1 j2=>?_⟩
    ·simp only[lX,h2];rw[aK (by omega)];omega
    ·cases j with
     | zero=>omega
     | succ j=>simpa using h4 j (by omega) (by simpa using j2)
def j0b (b:ByteArray) (c:UInt8):Lib.lastIndexByte b (c.toNat:Int)=lX c.toNat (b.data.toList.map UInt8.toNat):=by
 have get:∀j,j<b.size->(b.data[j]!).toNat=(b.data.toList.map UInt8.toNat).getD j 0:=λj hj=>by
  have hj':j<b.data.size:=hj;rw[List.getD,jH,lZ,mA hj',getElem!_pos b.data j hj'];rfl
 have len:(b.data.toList.map UInt8.toNat).length=b.size:=by rw[dM,gS];rfl
 rcases Lib.lastIndexByte_spec b (c.toNat:Int) with⟨h1,h2⟩ | ⟨i,h1,h2,h3,h4⟩<;>rcases jlh c.toNat (b.data.toList.map UInt8.toNat) with⟨g1,g2⟩ | ⟨k,g1,g2,g3,g4⟩
 ·rw[h1,g1]
 ·have:=h2 k (by omega);rw[get k (by omega),g3] at this;exact absurd rfl this
 ·refine absurd ?_ g2;rw[get i h1] at h3;have hi:i< (b.data.toList.map UInt8.toNat).length:=by omega
  rw[List.getD,dK hi,nL] at h3;have h5:(b.data.toList.map UInt8.toNat)[i]=c.toNat:=by exact_mod_cast h3
  rw[<-h5];exact dU _
 ·rw[h2,g2];rcases Bf i k with e | e | e
  ·have:=h4 k e (by omega);rw[get k (by omega),g3] at this;exact absurd rfl this
  ·rw[e]
  ·have:=g4 i e (by omega);rw[<-get i h1] at this;exact absurd (by exact_mod_cast h3) this
def Ng (f:FuncId):dX:=λg az=>bif Nat.beq g f then(match az with
 | [.str s,.str [c]]=>bif s.length.ble 1000000000&&c.blt 256 then some λH nx _=>some (.int .i64 (lX c s),H,nx) else none
 | _=>none) else none
def j8o {f:FuncId} (hfn:tI P f) (c1:∀(s sub:ByteArray) (h1:sub.size=1) (_:s.size<4611686018427387904) (w:World),Calls P f #[.string s,.string sub] w λe w'=>e=.returned (.int .i64 (Lib.lastIndexByte s ((sub[0]'(by omega)).toNat:Int)))/\w'=w):iX P gl B (Ng f):=by
 intro g az k hk H nx v H' nx' ro hv hb;unfold Ng at hk;obtain⟨e,hk2⟩:=aR hk;rw[aL,aH] at e;clear hk;subst e;split at hk2<;>try (cases hk2;done)
 rename_i s c;obtain⟨hc,hk2⟩:=aR hk2;simp only[aN,Nat.blt,aP,aH] at hc;cases hk2;simp only[aG,aM] at hv;obtain⟨rfl,rfl,rfl⟩:=hv;refine⟨Syn.refl _ _ _,λρ w args hr _ _ _ _ ha=>⟨hfn,?_⟩⟩;obtain⟨v1,_,hl,⟨b1,rfl,h1⟩,v2,_,rfl,⟨b2,rfl,h2⟩,h3⟩:=ha;simp only[VRs] at h3;subst h3;obtain rfl:args=#[.string b1,.string b2]:=gF.1 hl;have e2:b2=⟨#[UInt8.ofNat c]⟩:=by
  have:=mJ h2;cases b2
  congr
  exact gF.1 this
 subst e2;have hs:b1.size<4611686018427387904:=by
  have e:b1.size=s.length:=by rw[<-h1,dM,gS];rfl
  omega
 refine(c1 b1 ⟨#[UInt8.ofNat c]⟩ rfl hs w).mono ?_;rintro e w' ⟨rfl,rfl⟩;refine⟨_,rfl,Dr (Below.quiet (Below.refl _ _)) hr ?_⟩;have e3:(((⟨#[UInt8.ofNat c]⟩:ByteArray)[0]'(show 0<1 by decide)):UInt8)=UInt8.ofNat c:=rfl;rw[e3,j0b,h1];have e4:(UInt8.ofNat c).toNat=c:=by simp;omega
 rw[e4];simp[VR]
end W
end Go.Vm
