/-
  Told functions: strings.Index at one byte, lines.Parse at texts of plain bytes.
  The extraction: strings.Index at one byte, lines.Parse, told.
-/
import Derived.Test.YtonohffniohehaaGreatDoorLP
set_option linter.unusedSimpArgs false
set_option linter.unusedVariables false
set_option linter.unusedSectionVars false
set_option linter.unnecessarySimpa false
namespace Go.Vm
namespace W
open Go Go.RowKit Go.Vm.X Go.Proofs
variable {P:Program} {gl:List Nat} {B:Base}
def kkg (f:FuncId):jn7:=fun g az=>bif Nat.beq g f then(match az with
 | [.str s,.str [c]]=>some fun H nx _=>some (.int .i64 (Lib.indexByte (u8 s) (UInt8.ofNat c)),H,nx)
 | _=>none) else none
theorem kg0 {f:FuncId} (hfn:kjl P f) (c1:∀(s:ByteArray) (c:UInt8) (w:World),Calls P f #[.string s,.string ⟨#[c]⟩] w fun e w'=>e=.returned (.int .i64 (Lib.indexByte s.data.toList c))∧w'=w):jhz P gl B (kkg f):=by
 intro g az k hk H nx v H' nx' ro hv hb
 unfold kkg at hk
 obtain⟨e,hk2⟩:=jah hk
 rw[jaa,decide_eq_true_eq] at e
 clear hk
 subst e
 split at hk2<;>try (cases hk2;done)
 rename_i s c
 cases hk2
 simp only[Option.some.injEq,Prod.mk.injEq] at hv
 obtain⟨rfl,rfl,rfl⟩:=hv
 refine⟨Syn.refl _ _ _,fun ρ w args hr _ _ _ _ ha=>⟨hfn,?_⟩⟩
 obtain⟨v1,_,hl,⟨b1,rfl,h1⟩,v2,_,rfl,⟨b2,rfl,h2⟩,h3⟩:=ha
 simp only[VRs] at h3
 subst h3
 obtain rfl:args=#[.string b1,.string b2]:=Array.toList_inj.1 hl
 have e2:b2=⟨#[UInt8.ofNat c]⟩:=by
  have:=jp8 h2
  cases b2
  congr
  exact Array.toList_inj.1 this
 subst e2
 refine(c1 b1 (UInt8.ofNat c) w).mono ?_
 rintro e w' ⟨rfl,rfl⟩
 exact⟨_,rfl,jn1 (Below.quiet (Below.refl _ _)) hr (by rw[jp8 h1];simp[VR])⟩
theorem jx9 {call:FuncId→List AV→Tr Blk→Nat→Nat→Out} (hcall:jkv P gl call) {f:FuncId} {az:List AV} {H H':Tr Blk} {nx nx':Nat} {v:AV} (h:call f az H nx nx=some (v,H',nx')) {ρ:RM} {w w':World} {args:Array Value}
  (hr:HR ρ H w) (hf:Free ρ nx nx') (hgl:GLok gl ρ) (hwf:WF H nx) (ha:VRs ρ az args.toList) (hB:Below w.heap.size w w'):
  Calls P f args w' fun e w''=>(∃ρ' v',e=.returned v'∧VR ρ' v v')∧Below w'.heap.size w' w'':=by
 refine((hcall _ _ _ _ _ _ _ _ h).2 ρ w' args ((Below.quiet hB).hr hr) hf (Nat.le_refl _) hgl hwf ha).2.mono ?_
 rintro en w1 ⟨v',rfl,ρ',st,hr',hv'⟩
 exact⟨⟨ρ',v',rfl,hv'⟩,st.os,st.tape,st.output,st.size,fun y hy=>st.keep y hy (fun b l _ _ hb=>hwf b hb)⟩
theorem j2m {ρ:RM} {H:Tr Blk} {nx nx' ro:Nat} {w w':World} {v:AV} {v':Value} (q:Quiet w w') (hr:HR ρ H w) (hn:nx≤nx') (hf:Free ρ nx nx') (hv:VR ρ v v'):Ends ρ H nx ro w v H nx' v' w':=
 ⟨ρ,⟨q.os,q.tape,q.output,q.size,hn,fun _ _=>rfl,fun x hx _=>q.keep x hx,fun b l h h' e=>(by rw[hf b h h'] at e;cases e),fun _ h=>.inr h,fun _ _ _=>rfl⟩,q.hr hr,hv⟩
def asc (s:List Nat):Bool:=s.all fun b=>b.blt 128
def j8m (k c:Int):Prop:=0≤k∧k≤4∧ -40969≤c∧c≤40969
def kl1 (call:FuncId→List AV→Tr Blk→Nat→Nat→Out) (fT:FuncId) (H:Tr Blk) (nx M:Nat):Prop:=∀k c,j8m k c→∃t H1 n1,call fT [.agg [.int .u8 k,.int .i64 c]] H nx nx=some (.str t,H1,n1)∧asc t=true∧n1≤M
open Classical in
noncomputable def j4u (call:FuncId→List AV→Tr Blk→Nat→Nat→Out) (fT:FuncId) (H:Tr Blk) (nx:Nat):Out:=if h:∃M,kl1 call fT H nx M then some (.tup [.agg [.int .u8 0,.int .i64 0],.int .i64 4],H,Classical.choose h) else none
noncomputable def j8h (call:FuncId→List AV→Tr Blk→Nat→Nat→Out) (fT:FuncId) (s:List Nat) (H:Tr Blk) (nx:Nat):Out:=bif asc s then(match call fT [.agg [.int .u8 (S07.lpFin s).1,.int .i64 (S07.lpFin s).2]] H nx nx with
 | some (.str t,_,n1)=>bif s.isEmpty|| !(t==s) then some (.tup [.agg [.int .u8 0,.int .i64 0],.int .i64 4],H,n1) else some (.tup [.agg [.int .u8 (S07.lpFin s).1,.int .i64 (S07.lpFin s).2],.int .i64 0],H,n1)
 | _=>none) else j4u call fT H nx
noncomputable def tLP (call:FuncId→List AV→Tr Blk→Nat→Nat→Out) (f fT:FuncId):jn7:=fun g az=>bif Nat.beq g f then(match az with
 | [.str s]=>some fun H nx _=>j8h call fT s H nx
 | _=>none) else none
theorem ji1 (b:ByteArray):b.toList=b.data.toList:=ByteArray.toList_eq b
theorem kke {call:FuncId→List AV→Tr Blk→Nat→Nat→Out} {f fT:FuncId} (hcall:jkv P gl call) (hsyn:jji call) (hfn:kjl P f)
  (c1:∀(s:ByteArray) (w:World) (t:ByteArray) (_:∀i (h:i<s.size),(s[i]'h).toNat<128)
    (_:∀w',Below w.heap.size w w'→Calls P fT #[.agg #[.int .u8 (S07.lpFin (S07.bytesN s)).1,.int .i64 (S07.lpFin (S07.bytesN s)).2]] w' fun e w''=>e=.returned (.string t)∧Below w'.heap.size w' w''),
    Calls P f #[.string s] w fun e w'=>e=.returned (if s.toList=[]∨t.toList≠s.toList then .tuple #[.agg #[.int .u8 0,.int .i64 0],.int .i64 4] else .tuple #[.agg #[.int .u8 (S07.lpFin (S07.bytesN s)).1,.int .i64 (S07.lpFin (S07.bytesN s)).2],.int .i64 0])∧Below w.heap.size w w')
  (c2:∀(s:ByteArray) (w:World) (T:Int→Int→ByteArray) (_:¬ ∀i (h:i<s.size),(s[i]'h).toNat<128) (_:∀k c,j8m k c→asc ((T k c).data.toList.map UInt8.toNat)=true)
    (_:∀k c,j8m k c→∀w',Below w.heap.size w w'→Calls P fT #[.agg #[.int .u8 k,.int .i64 c]] w' fun e w''=>e=.returned (.string (T k c))∧Below w'.heap.size w' w''),
    Calls P f #[.string s] w fun e w'=>e=.returned (.tuple #[.agg #[.int .u8 0,.int .i64 0],.int .i64 4])∧Below w.heap.size w w'):
  jhz P gl B (tLP call f fT):=by
 intro g az k hk H nx v H' nx' ro hv hb
 unfold tLP at hk
 obtain⟨e,hk2⟩:=jah hk
 rw[jaa,decide_eq_true_eq] at e
 clear hk
 subst e
 split at hk2<;>try (cases hk2;done)
 rename_i s
 cases hk2
 simp only[j8h] at hv
 cases hc:asc s with
 | false=>
   rw[hc,cond_false] at hv
   unfold j4u at hv
   split at hv<;>try (cases hv;done)
   rename_i hex
   have hM:=Classical.choose_spec hex
   generalize Classical.choose hex=M at hv hM
   simp only[Option.some.injEq,Prod.mk.injEq] at hv
   obtain⟨rfl,rfl,rfl⟩:=hv
   obtain⟨t0,H0,n0,hc0,_,hn0⟩:=hM 0 0 ⟨by decide,by decide,by decide,by decide⟩
   have hn1:nx≤M:=Nat.le_trans (hcall _ _ _ _ _ _ _ _ hc0).1 hn0
   refine⟨⟨hn1,fun _ h=>.inr h,fun _ _ _=>rfl⟩,fun ρ w args hr hf hro hgl hwf ha=>⟨hfn,?_⟩⟩
   obtain⟨b,rfl,hbs⟩:=ju7 ha
   have hall:∀k c,j8m k c→∃t:ByteArray,asc (t.data.toList.map UInt8.toNat)=true∧∀w',Below w.heap.size w w'→Calls P fT #[.agg #[.int .u8 k,.int .i64 c]] w' fun e w''=>e=.returned (.string t)∧Below w'.heap.size w' w'':=fun k c hkc=>by
    obtain⟨t,H1,n1,h1,h2,h3⟩:=hM k c hkc
    have hcq:=fun w' (hB:Below w.heap.size w w')=>jx9 hcall h1 hr (fun b h h'=>hf b h (Nat.lt_of_lt_of_le h' h3)) hgl hwf (args:=#[.agg #[.int .u8 k,.int .i64 c]]) ⟨_,[],rfl,⟨_,rfl,_,_,rfl,rfl,_,_,rfl,rfl,rfl⟩,rfl⟩ hB
    obtain⟨_,_,_,⟨⟨ρ0,v0,_,tb0,_,htb0⟩,_⟩,_⟩:=hcq w (Below.refl _ _) []
    refine⟨tb0,by rw[htb0];exact h2,fun w' hB=>(hcq w' hB).mono ?_⟩
    rintro e w'' ⟨⟨ρ',v',rfl,hv'⟩,hB2⟩
    obtain⟨tb,rfl,htb⟩:=hv'
    refine⟨?_,hB2⟩
    congr 2
    cases tb
    cases tb0
    congr
    exact Array.toList_inj.1 ((jp8 htb).trans (jp8 htb0).symm)
   have hA:¬ ∀i (h:i<b.size),(b[i]'h).toNat<128:=fun hA=>by
    have:asc s=true:=by
     unfold asc
     rw[List.all_eq_true]
     intro x hx
     obtain⟨i,hi,rfl⟩:=List.getElem_of_mem hx
     have h2:i<b.size:=by rw[←hbs,List.length_map,Array.length_toList] at hi;exact hi
     have h1:=S07.bytesN_get b i h2
     have hbn:S07.bytesN b=s:=hbs
     rw[hbn,List.getD_eq_getElem?_getD,List.getElem?_eq_getElem hi,Option.getD_some] at h1
     have:=hA i h2
     simp only[Nat.blt,jae,decide_eq_true_eq]
     omega
    rw[hc] at this
    cases this
   classical
   let T:Int→Int→ByteArray:=fun k c=>if h:j8m k c then Classical.choose (hall k c h) else⟨#[]⟩
   have hT1:∀k c,j8m k c→asc ((T k c).data.toList.map UInt8.toNat)=true:=fun k c h=>by
    simp only[T,h,dif_pos]
    exact(Classical.choose_spec (hall k c h)).1
   have hT2:∀k c,j8m k c→∀w',Below w.heap.size w w'→Calls P fT #[.agg #[.int .u8 k,.int .i64 c]] w' fun e w''=>e=.returned (.string (T k c))∧Below w'.heap.size w' w'':=fun k c h w' hB=>by
    simp only[T,h,dif_pos]
    exact(Classical.choose_spec (hall k c h)).2 w' hB
   refine(c2 b w T hA hT1 hT2).mono ?_
   rintro e w' ⟨rfl,hB⟩
   exact⟨_,rfl,j2m (Below.quiet hB) hr hn1 hf (jv9 ⟨_,rfl,_,_,rfl,rfl,_,_,rfl,rfl,rfl⟩ rfl)⟩
 | true=>
 rw[hc,cond_true] at hv
 split at hv<;>try (cases hv;done)
 rename_i t H1 n1 hcl
 have hn1:nx≤n1:=(hcall _ _ _ _ _ _ _ _ hcl).1
 have hH:H'=H∧nx'=n1:=by
  revert hv
  cases s.isEmpty|| !(t==s)<;>(intro hv;simp only[cond_true,cond_false,Option.some.injEq,Prod.mk.injEq] at hv;exact⟨hv.2.1.symm,hv.2.2.symm⟩)
 obtain⟨rfl,rfl⟩:=hH
 refine⟨⟨hn1,fun _ h=>.inr h,fun _ _ _=>rfl⟩,fun ρ w args hr hf hro hgl hwf ha=>⟨hfn,?_⟩⟩
 obtain⟨b,rfl,hbs⟩:=ju7 ha
 have hbn:S07.bytesN b=s:=hbs
 have hcq:=fun w' (hB:Below w.heap.size w w')=>jx9 hcall hcl hr hf hgl hwf (args:=#[.agg #[.int .u8 (S07.lpFin s).1,.int .i64 (S07.lpFin s).2]]) ⟨_,[],rfl,⟨_,rfl,_,_,rfl,rfl,_,_,rfl,rfl,rfl⟩,rfl⟩ hB
 have hA:∀i (h:i<b.size),(b[i]'h).toNat<128:=fun i h=>by
  have h1:=S07.bytesN_get b i h
  have h2:i<s.length:=by rw[←hbs,List.length_map,Array.length_toList];exact h
  rw[hbn,List.getD_eq_getElem?_getD,List.getElem?_eq_getElem h2,Option.getD_some] at h1
  have h3:=List.all_eq_true.1 hc _ (List.getElem_mem h2)
  simp only[Nat.blt,jae,decide_eq_true_eq] at h3
  omega
 refine(c1 b w ⟨(u8 t).toArray⟩ hA fun w' hB=>?_).mono ?_
 ·rw[hbn]
  refine(hcq w' hB).mono ?_
  rintro e w'' ⟨⟨ρ',v',rfl,hv'⟩,h2⟩
  obtain⟨tb,rfl,htb⟩:=hv'
  refine⟨?_,h2⟩
  congr 2
  cases tb
  congr
  exact Array.toList_inj.1 (by simpa using jp8 htb)
 ·rintro e w' ⟨rfl,hB⟩
  refine⟨_,rfl,j2m (Below.quiet hB) hr hn1 hf ?_⟩
  have ht:((⟨(u8 t).toArray⟩:ByteArray).toList≠b.toList)↔u8 t≠u8 s:=by
   rw[ji1,ji1,jp8 hbs]
  have hs:b.toList=[]↔s=[]:=by
   rw[ji1,jp8 hbs]
   unfold u8
   simp
  obtain⟨_,_,_,⟨⟨ρ',v',_,tb,_,htb⟩,_⟩,_⟩:=hcq w (Below.refl _ _) []
  have ets:u8 t≠u8 s↔t≠s:=by
   constructor
   ·intro h e;exact h (by rw[e])
   ·intro h e
    refine h ?_
    rw[←htb,←hbs,jp8 htb,jp8 hbs,e]
  have hty:∀(k c er:Int),VR ρ (.tup [.agg [.int .u8 k,.int .i64 c],.int .i64 er]) (.tuple #[.agg #[.int .u8 k,.int .i64 c],.int .i64 er]):=fun k c er=>jv9 ⟨_,rfl,_,_,rfl,rfl,_,_,rfl,rfl,rfl⟩ rfl
  revert hv
  cases hq:s.isEmpty|| !(t==s)
  ·simp only[cond_false,Option.some.injEq,Prod.mk.injEq]
   rintro ⟨rfl,_⟩
   simp only[Bool.or_eq_false_iff,Bool.not_eq_false',beq_iff_eq,List.isEmpty_eq_false_iff] at hq
   rw[if_neg,hbn]
   ·exact hty _ _ _
   ·rintro (h | h)
    ·exact hq.1 (hs.1 h)
    ·exact ets.1 (ht.1 h) hq.2
  ·simp only[cond_true,Option.some.injEq,Prod.mk.injEq]
   rintro ⟨rfl,_⟩
   rw[if_pos]
   ·exact hty _ _ _
   ·simp only[Bool.or_eq_true,Bool.not_eq_true',beq_eq_false_iff_ne,List.isEmpty_iff] at hq
    rcases hq with h | h
    ·exact .inl (hs.2 h)
    ·exact .inr (ht.2 (ets.2 h))
end W
end Go.Vm
namespace Go.Vm
namespace X
open W Go.Proofs
variable {B:Base} {memo:jn7} {prog:Tr CFn}
def j2a (a:List Nat×List Nat):Option Int:=match a.2 with
 | [c]=>some (Lib.indexByte (u8 a.1) (UInt8.ofNat c))
 | _=>none
theorem kg1 {f:FuncId} (hm:∀az g,kkg f f az=some g→memo f az=some g):OKs B memo prog 1 [⟨f,[.d .str,.d .str],[.d (.int .i64)],j2a⟩]:=by
 refine jrf fun a r hr ro O H nx hk A hA vs hv=>?_
 obtain⟨v1,_,_,_,rfl,_,⟨_,h1,_⟩,v2,rfl,_,h2,_⟩:=hv
 obtain⟨s,t⟩:=a
 have h1:v1=AV.str s:=by simpa[jb0] using h1
 have h2:v2=AV.str t:=by simpa[jb0] using h2
 subst h1;subst h2
 have hr:j2a (s,t)=some r:=hr
 unfold j2a at hr
 split at hr<;>try (cases hr;done)
 rename_i c hc
 simp only at hc
 subst hc
 cases hr
 exact⟨fun H nx _=>some (.int .i64 (Lib.indexByte (u8 s) (UInt8.ofNat c)),H,nx),_,[],[],H,nx,[],hm _ _ (by simp only[kkg,jaa,decide_true,cond_true]),rfl,hk,jze,jov,[_],rfl,_,rfl,rfl,rfl,rfl⟩
abbrev kkc:Ty:=.prod (.int .u8) (.int .i64)
open Classical in
noncomputable def ka6 (txt:(Int×Int)→Option (List Nat)):Option ((Int×Int)×Int):=if ∀k c,j8m k c→∃t,txt (k,c)=some t∧asc t=true then some ((0,0),4) else none
noncomputable def jry (txt:(Int×Int)→Option (List Nat)) (s:List Nat):Option ((Int×Int)×Int):=bif asc s then(txt (S07.lpFin s)).bind fun t=>some (bif s.isEmpty|| !(t==s) then((0,0),4) else(S07.lpFin s,0)) else ka6 txt
theorem kcb {Q:Int→Nat→Prop} (a:Int):∀m:Nat,(∀i,a≤i→i<a+m→∃n,Q i n)→∃M,∀i,a≤i→i<a+m→∃n,Q i n∧n≤M
 | 0,_=>⟨0,fun i h1 h2=>by omega⟩
 | m+1,h=>by
   obtain⟨M,hM⟩:=kcb a m fun i h1 h2=>h i h1 (by omega)
   obtain⟨n,hn⟩:=h (a+m) (by omega) (by omega)
   refine⟨max M n,fun i h1 h2=>?_⟩
   by_cases e:i=a+m
   ·subst e;exact⟨n,hn,by omega⟩
   ·obtain⟨q,hq,hqM⟩:=hM i h1 (by omega)
    exact⟨q,hq,by omega⟩
theorem kor {Q:Int→Int→Nat→Prop} (h:∀k c,j8m k c→∃n,Q k c n):∃M,∀k c,j8m k c→∃n,Q k c n∧n≤M:=by
 have h1:∀k:Int,0≤k→k<0+ ((5:Nat):Int)→∃M:Nat,∀c:Int, -40969≤c→c < -40969+ ((81939:Nat):Int)→∃n,Q k c n∧n≤M:=fun k k0 k1=>kcb (Q:=Q k) (-40969) 81939 fun c c0 c1=>h k c ⟨by omega,by omega,by omega,by omega⟩
 obtain⟨M,hM⟩:=kcb (Q:=fun k M=>∀c:Int, -40969≤c→c < -40969+ ((81939:Nat):Int)→∃n,Q k c n∧n≤M) 0 5 h1
 refine⟨M,fun k c ⟨a1,a2,a3,a4⟩=>?_⟩
 obtain⟨m,h2,h3⟩:=hM k (by omega) (by omega)
 obtain⟨n,h4,h5⟩:=h2 c (by omega) (by omega)
 exact⟨n,h4,by omega⟩
theorem kkf {call0:FuncId→List AV→Tr Blk→Nat→Nat→Out} {f fT:FuncId} {txt:(Int×Int)→Option (List Nat)} (hT:TE.OK B call0 ⟨fT,[.d kkc],[.d .str],txt⟩)
  (hm:∀az g,tLP call0 f fT f az=some g→memo f az=some g):OKs B memo prog 1 [⟨f,[.d .str],[.d kkc,.d (.int .i64)],jry txt⟩]:=by
 refine jrf fun s r hr ro O H nx hk A hA vs hv=>?_
 obtain⟨v1,rfl,_,h1,_⟩:=hv
 have h1:v1=AV.str s:=by simpa[jb0] using h1
 subst h1
 have hr:jry txt s=some r:=hr
 unfold jry at hr
 have hm':memo f [.str s]=some fun H nx _=>j8h call0 fT s H nx:=hm _ _ (by simp only[tLP,jaa,decide_true,cond_true])
 cases hc:asc s with
 | false=>
   rw[hc,cond_false] at hr
   unfold ka6 at hr
   split at hr<;>try (cases hr;done)
   rename_i hall
   cases hr
   have hq:HK B nx (O.map unw) H nx:=hk.quiet
   have hAq:∀x∈A,Has (O.map unw) x.1 x.2∨jlg B x:=fun x hx=>(hA x hx).imp (fun h=>h.quiet) id
   have hone:∀k c,j8m k c→∃n1,∃t H1,call0 fT [.agg [.int .u8 k,.int .i64 c]] H nx nx=some (.str t,H1,n1)∧asc t=true∧nx≤n1:=fun k c hkc=>by
    obtain⟨t,ht,hta⟩:=hall k c hkc
    obtain⟨u,EE,NN,Hc,nxc,F',k1,k2,k3,k4,vs',rfl,u',e1,k5⟩:=hT (k,c) t ht nx _ [] H nx hq (fun _ h=>by cases h) A hAq [.agg [.int .u8 k,.int .i64 c]] ⟨_,rfl,_,rfl,rfl,⟨_,_,rfl,rfl,rfl⟩,rfl⟩
    subst e1
    unfold js4 at k5
    simp only[Rep.agg,Ty.agg,cond_false] at k5
    obtain⟨_,k6,_⟩:=k5
    have k6:u'=AV.str t:=by simpa[jb0] using k6
    subst k6
    exact⟨nxc,t,Hc,k1,hta,(jk5 k2.r1).1⟩
   obtain⟨M,hM⟩:=kor hone
   have hex:∃M,kl1 call0 fT H nx M:=⟨M,fun k c hkc=>by
    obtain⟨n1,⟨t,H1,q1,q2,_⟩,q4⟩:=hM k c hkc
    exact⟨t,H1,n1,q1,q2,q4⟩⟩
   have hup:nx≤Classical.choose hex:=by
    have hsp:=Classical.choose_spec hex
    obtain⟨t,H1,n1,q1,_,q3⟩:=hsp 0 0 ⟨by decide,by decide,by decide,by decide⟩
    obtain⟨n2,t2,H2,q4,_,q5⟩:=hone 0 0 ⟨by decide,by decide,by decide,by decide⟩
    rw[q1] at q4
    cases q4
    omega
   refine⟨_,_,[],[],H,Classical.choose hex,[],hm',?_,kc3 hk hup,jze,jov,[.agg [.int .u8 0,.int .i64 0],.int .i64 4],rfl,_,_,[],[],rfl,rfl,⟨_,rfl,rfl,⟨_,_,rfl,rfl,rfl⟩,rfl⟩,_,rfl,rfl,rfl,rfl⟩
   simp only[j8h,hc,cond_false,j4u,dif_pos hex]
   rfl
 | true=>
 rw[hc,cond_true] at hr
 obtain⟨t,ht,hr⟩:=Option.bind_eq_some_iff.1 hr
 have hq:HK B nx (O.map unw) H nx:=hk.quiet
 have hAq:∀x∈A,Has (O.map unw) x.1 x.2∨jlg B x:=fun x hx=>(hA x hx).imp (fun h=>h.quiet) id
 obtain⟨u,EE,NN,Hc,nxc,F',k1,k2,k3,k4,vs',rfl,u',e1,k5⟩:=hT (S07.lpFin s) t ht nx _ [] H nx hq (fun _ h=>by cases h) A hAq [.agg [.int .u8 (S07.lpFin s).1,.int .i64 (S07.lpFin s).2]] ⟨_,rfl,_,rfl,rfl,⟨_,_,rfl,rfl,rfl⟩,rfl⟩
 subst e1
 unfold js4 at k5
 simp only[Rep.agg,Ty.agg,cond_false] at k5
 obtain⟨_,k6,_⟩:=k5
 have k6:u'=AV.str t:=by simpa[jb0] using k6
 subst k6
 have hup:nx≤nxc:=(jk5 k2.r1).1
 have hcall:call0 fT [.agg [.int .u8 (S07.lpFin s).1,.int .i64 (S07.lpFin s).2]] H nx nx=some (.str t,Hc,nxc):=k1
 cases hq2:s.isEmpty|| !(t==s) with
 | true=>
   rw[hq2,cond_true] at hr
   cases hr
   refine⟨_,_,[],[],H,nxc,[],hm',?_,kc3 hk hup,jze,jov,[.agg [.int .u8 0,.int .i64 0],.int .i64 4],rfl,_,_,[],[],rfl,rfl,⟨_,rfl,rfl,⟨_,_,rfl,rfl,rfl⟩,rfl⟩,_,rfl,rfl,rfl,rfl⟩
   simp only[j8h,hc,cond_true,hcall,hq2]
   rfl
 | false=>
   rw[hq2,cond_false] at hr
   cases hr
   refine⟨_,_,[],[],H,nxc,[],hm',?_,kc3 hk hup,jze,jov,[.agg [.int .u8 (S07.lpFin s).1,.int .i64 (S07.lpFin s).2],.int .i64 0],rfl,_,_,[],[],rfl,rfl,⟨_,rfl,rfl,⟨_,_,rfl,rfl,rfl⟩,rfl⟩,_,rfl,rfl,rfl,rfl⟩
   simp only[j8h,hc,cond_true,hcall,hq2,cond_false]
   rfl
end X
end Go.Vm
