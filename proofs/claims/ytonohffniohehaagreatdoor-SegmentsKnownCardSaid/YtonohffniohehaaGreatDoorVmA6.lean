/-
  Maps whose keys are told by their cells: what the model does with such a key.
  The machine's operations on memory, and calls: the model does the same.
-/
import Derived.Test.YtonohffniohehaaGreatDoorVmA5
import Derived.Lib.Bytealg
import Derived.Laws.RangeString
import Derived.Laws.IdiomStrings
set_option linter.unusedSimpArgs false
set_option linter.unusedVariables false
set_option linter.unusedSectionVars false
set_option linter.unnecessarySimpa false
namespace Go.Vm
section
variable {P:Program} {ρ:RM}
theorem j4p {α:Type} {c:Bool} {x:Option α} {y:α} (h:(bif c then x else none)=some y):c=true∧x=some y:=by
 cases c
 ·cases h
 ·exact⟨rfl,h⟩
theorem jz6 (em:Bool):∀(d:Nat) (t:TypeId) (D:Nat) (i:TypeInfo) (dd:TypeDesc) (ks:List Nat) (vs:List Value) (w:World),flat P d t=some ks→d≤D→
  P.info? t=some i→P.underlying t=some dd→vs.length=i.size→(Instr.checkKey em D t (jn8 dd vs)).run P w=.ok () w:=by
 intro d
 induction d with
 | zero=>intro t D i dd ks vs w h;simp[flat] at h
 | succ d ih=>
   intro t D i dd ks vs w h hD hi hu hl
   obtain⟨D,rfl⟩:∃D',D=D'+1:=⟨D-1,by omega⟩
   unfold flat at h
   split at h
   ·rename_i j h1 h2
    rw[hu] at h2;cases h2
    simp[Instr.checkKey,run_underlying hu]
   ·rename_i j k h1 h2
    rw[hu] at h2;cases h2
    simp[Instr.checkKey,run_underlying hu]
   ·rename_i j h1 h2
    rw[hu] at h2;cases h2
    simp[Instr.checkKey,run_underlying hu]
   ·rename_i j fs h1 h2
    rw[hi] at h1;cases h1
    rw[hu] at h2;cases h2
    split at h
    ·cases h
    have mono:∀(fl:List Field) (o:Nat) (m:List Nat),jh9 P (flat P d) fl o i.size=some m→o≤i.size:=by
     intro fl
     induction fl with
     | nil=>intro o m ho;simp only[jh9] at ho;split at ho<;>simp_all
     | cons f fl ih3=>
       intro o m ho
       simp only[jh9] at ho
       split at ho
       ·split at ho
        ·rename_i h5 h6;have:=ih3 _ _ h6;omega
        ·cases ho
       ·cases ho
    simp only[jn8,jgy,if_true]
    rw[Instr.checkKey]
    simp only[Sem.run_bind,run_underlying hu,Result.andThen_ok]
    rw[←Array.forIn_toList]
    generalize hfs:fs.toList=fl at h
    clear hfs
    have key:∀(fl:List Field) (off:Nat) (m:List Nat),jh9 P (flat P d) fl off i.size=some m→
      (forIn fl PUnit.unit fun(f:Field) (_:PUnit)=>(do
        if f.name≠ "_" then do
         Instr.checkKey em D f.type (←part f.type vs.toArray f.offset)
         pure (ForInStep.yield PUnit.unit)
        else pure (ForInStep.yield PUnit.unit):Sem (ForInStep PUnit))).run P w=.ok PUnit.unit w:=by
     intro fl
     induction fl with
     | nil=>intro off m hg;simp
     | cons f fl ih2=>
       intro off m hg
       simp only[jh9] at hg
       split at hg
       ·rename_i hno
        simp only[Bool.and_eq_true,bne_iff_ne,beq_iff_eq] at hno
        obtain⟨hn,hoff⟩:=hno
        split at hg
        ·rename_i l m' hfl hgo
         obtain⟨j,jd,k1,k2,k3⟩:=jnz hfl
         have hsz:P.cellsOf f.type=j.size:=by simp[Program.cellsOf,k1]
         rw[hsz] at hgo
         have hle:off+j.size≤i.size:=mono _ _ _ hgo
         have e1:=jkj (P:=P) w k1 k2 vs.toArray f.offset (by simp;omega) k3
         rw[hoff] at e1
         have e2:=ih f.type D j jd l ((vs.drop off).take j.size) w hfl (by omega) k1 k2 (by simp;omega)
         simp only[List.forIn_cons,Sem.run_bind,hn,ne_eq,not_false_eq_true,if_true,hoff,e1,Result.andThen_ok,e2,Sem.run_pure]
         exact ih2 (off+j.size) _ hgo
        ·cases hg
       ·cases hg
    have:=key fl 0 ks h
    simp at this ⊢
    rw[this];rfl
   ·rename_i j n e h1 h2
    rw[hi] at h1;cases h1
    rw[hu] at h2;cases h2
    split at h
    ·rename_i l hfl
     split at h
     ·rename_i hsz
      simp only[Bool.and_eq_true,beq_iff_eq] at hsz
      obtain⟨hsz1,hll⟩:=hsz
      obtain⟨j,jd,k1,k2,k3⟩:=jnz hfl
      have hsz:P.cellsOf e=j.size:=by simp[Program.cellsOf,k1]
      rw[hsz] at hsz1
      simp only[jn8,jgy,if_true]
      rw[Instr.checkKey]
      simp only[Sem.run_bind,run_underlying hu,Result.andThen_ok]
      simp only[Std.Legacy.Range.forIn_eq_forIn_range',Std.Legacy.Range.size,Nat.sub_zero,Nat.add_one_sub_one,Nat.div_one]
      have key:∀(m k:Nat),k+m≤n→
        (forIn (List.range' k m) PUnit.unit fun(a:Nat) (_:PUnit)=>(do
          Instr.checkKey em D e (←part e vs.toArray (a* (←sizeOf e)))
          pure (ForInStep.yield PUnit.unit):Sem (ForInStep PUnit))).run P w=.ok PUnit.unit w:=by
       intro m
       induction m with
       | zero=>intro k hk;simp
       | succ m ih2=>
         intro k hk
         have hle:k*j.size+j.size≤i.size:=by
          rw[hsz1,←Nat.succ_mul]
          exact Nat.mul_le_mul_right _ (by omega)
         have e1:=jkj (P:=P) w k1 k2 vs.toArray (k*j.size) (by simp;omega) k3
         have e2:=ih e D j jd l ((vs.drop (k*j.size)).take j.size) w hfl (by omega) k1 k2 (by simp;omega)
         rw[List.range'_succ]
         simp only[List.forIn_cons,Sem.run_bind,jbj k1,Result.andThen_ok,e1,e2,Sem.run_pure]
         exact ih2 (k+1) (by omega)
      have:=key n 0 (by omega)
      simp at this ⊢
      rw[this];rfl
     ·cases h
    ·cases h
   ·cases h
theorem ki2 {k:Nat} {a b:AV} {v u:Value} (h:ceq k a b=some true) (ha:VR ρ a v) (hb:VR ρ b u):v=u∧∀n,Instr.sameBits n v v=true:=by
 unfold ceq at h
 split at h<;>try (cases h;done)
 ·rename_i k1 x k2 y
  simp only[VR] at ha hb
  subst ha;subst hb
  cases hk:keq k1 k2<;>simp only[hk,cond_true,cond_false] at h
  ·cases h
  ·have:=jha.1 hk
   subst this
   have:x=y:=by simpa[jsx] using h
   subst this
   exact⟨rfl,fun n=>by cases n<;>simp[Instr.sameBits]⟩
 ·rename_i p q
  simp only[VR] at ha hb
  subst ha;subst hb
  obtain rfl:p=q:=by simpa using h
  exact⟨rfl,fun n=>by cases n<;>simp[Instr.sameBits]⟩
 ·simp only[VR] at ha hb
  obtain⟨x,rfl,rfl⟩:=ha
  obtain⟨y,rfl,rfl⟩:=hb
  rw[jr0] at h
  have:x=y:=by
   simp only[Option.some.injEq,beq_iff_eq] at h
   first
   | exact h
   | exact ByteArray.ext (Array.ext' h)
  subst this
  exact⟨rfl,fun n=>by cases n<;>simp[Instr.sameBits,Go.MapKept.bytes_beq]⟩
theorem j68:∀ {ks:List Nat} {la lb:List AV} {vs us:List Value},jog ks la lb=some true→VRs ρ la vs→VRs ρ lb us→vs=us∧∀n,∀v∈vs,Instr.sameBits n v v=true
 | [],[],[],vs,us,_,ha,hb=>by
   simp only[VRs] at ha hb
   subst ha;subst hb
   exact⟨rfl,fun n v hv=>by cases hv⟩
 | k::ks,a::la,b::lb,vs,us,h,ha,hb=>by
   simp only[VRs] at ha hb
   obtain⟨v,vs',rfl,h1,h2⟩:=ha
   obtain⟨u,us',rfl,h3,h4⟩:=hb
   simp only[jog] at h
   split at h
   ·rename_i hc
    obtain⟨e1,e2⟩:=ki2 hc h1 h3
    obtain⟨e3,e4⟩:=j68 h h2 h4
    subst e1;subst e3
    refine⟨rfl,fun n x hx=>?_⟩
    rcases List.mem_cons.1 hx with rfl | hx
    ·exact e2 n
    ·exact e4 n x hx
   ·cases h
   ·cases h
 | [],_::_,_,_,_,h,_,_=>by simp[jog] at h
 | [],[],_::_,_,_,h,_,_=>by simp[jog] at h
 | _::_,[],_,_,_,h,_,_=>by simp[jog] at h
 | _::_,_::_,[],_,_,h,_,_=>by simp[jog] at h
theorem jny {kt:TypeId} {s:Bool×List Nat} (h:kh1 P kt=some s) {a:AV} {v:Value} (hs:(jyc s.1 s.2 a a).isSome=true) (ha:VR ρ a v) (w:World):
  (∀em,(Instr.checkKey em 10000 kt v).run P w=.ok () w)∧
  ∀(b:AV) (u:Value) (r:Bool),VR ρ b u→jyc s.1 s.2 a b=some r→(Op.equal kt v u).run P w=.ok r w∧(r=true→v=u∧Instr.sameBits 10000 u v=true)∧
   (s.1=false→∃k x y,v=.int k x∧u=.int k y∧r=(x==y)∧∃q,P.underlying kt=some (.int q)):=by
 have agg:∀ks,flat P 20 kt=some ks→s=(true,ks)→(∃d,P.underlying kt=some d∧jgy d=true)→(∀em,(Instr.checkKey em 10000 kt v).run P w=.ok () w)∧
   ∀(b:AV) (u:Value) (r:Bool),VR ρ b u→jyc s.1 s.2 a b=some r→(Op.equal kt v u).run P w=.ok r w∧(r=true→v=u∧Instr.sameBits 10000 u v=true)∧
   (s.1=false→∃k x y,v=.int k x∧u=.int k y∧r=(x==y)∧∃q,P.underlying kt=some (.int q)):=by
  rintro ks hf rfl ⟨d,hd,hda⟩
  obtain⟨i,dd,k1,k2,k3⟩:=jnz hf
  obtain rfl:dd=d:=Option.some.inj (k2.symm.trans hd)
  have hlen:=j6z 20 kt ks i hf k1
  obtain⟨r0,h0⟩:=Option.isSome_iff_exists.1 hs
  simp only[jyc,cond_true] at h0
  split at h0
  ·rename_i l
   cases hll:(l.length.beq ks.length&&l.length.beq ks.length)<;>simp only[hll,cond_true,cond_false] at h0
   ·cases h0
   simp only[Bool.and_eq_true,jaa,decide_eq_true_eq] at hll
   simp only[VR] at ha
   obtain⟨cs,rfl,va⟩:=ha
   have lv:=va.length
   have ev:(Value.agg cs)=jn8 dd cs.toList:=by simp[jn8,hda]
   refine⟨fun em=>?_,fun b u r hb hr=>?_⟩
   ·rw[ev]
    exact jz6 em 20 kt 10000 i dd ks cs.toList w hf (by omega) k1 k2 (by omega)
   ·cases b<;>simp only[jyc,cond_true] at hr<;>try (cases hr;done)
    rename_i m'
    simp only[VR] at hb
    obtain⟨ds,rfl,vb⟩:=hb
    obtain⟨hl2,hr⟩:=j4p hr
    simp only[Bool.and_eq_true,jaa,decide_eq_true_eq] at hl2
    have h3:=jxv 20 kt 10000 i dd ks l m' cs.toList ds.toList r w hf (by omega) k1 k2 va vb (by omega) (by omega) hr
    simp only[jn8,hda,if_true] at h3
    refine⟨h3,fun hrt=>?_,fun hx=>by cases hx⟩
    subst hrt
    obtain⟨e1,e2⟩:=j68 hr va vb
    have e3:cs=ds:=Array.ext' e1
    subst e3
    refine⟨rfl,?_⟩
    simp only[Instr.sameBits,beq_self_eq_true,Bool.true_and,List.all_eq_true]
    rintro ⟨x,y⟩ hxy
    have hz:=List.of_mem_zip hxy
    obtain⟨j,hj⟩:=List.getElem?_of_mem hxy
    rw[List.getElem?_zip_eq_some] at hj
    have:x=y:=by
     have:=hj.1.symm.trans hj.2
     simpa using this
    subst this
    exact e2 9999 x hz.1
  ·cases h0
 unfold kh1 at h
 split at h
 ·rename_i hu
  simp only[Option.map_eq_some_iff] at h
  obtain⟨ks,hf,rfl⟩:=h
  exact agg ks hf rfl ⟨_,hu,rfl⟩
 ·rename_i hu
  simp only[Option.map_eq_some_iff] at h
  obtain⟨ks,hf,rfl⟩:=h
  exact agg ks hf rfl ⟨_,hu,rfl⟩
 ·rename_i q hu
  cases h
  refine⟨fun em=>by rw[show(10000:Nat)=9999+1 from rfl,Instr.checkKey];simp[run_underlying hu],fun b u r hb hr=>?_⟩
  simp only[jyc,cond_false,jog] at hr
  have hc:ceq 1 a b=some r:=by
   cases hq:ceq 1 a b with
   | none=>rw[hq] at hr;cases hr
   | some z=>cases z<;>rw[hq] at hr<;>simpa using hr
  unfold ceq at hc
  split at hc<;>try (first | (cases hc;done) | omega)
  rename_i k1 x k2 y _
  simp only[VR] at ha hb
  subst ha;subst hb
  cases hk:keq k1 k2<;>simp only[hk,cond_true,cond_false] at hc
  ·cases hc
  ·have:=jha.1 hk
   subst this
   have hr2:r=(x==y):=by simpa[jsx] using hc.symm
   refine⟨?_,fun hrt=>?_,fun _=>⟨k1,x,y,rfl,rfl,hr2,q,hu⟩⟩
   ·rw[hr2]
    have:∀D,(Op.equalIn (D+1) kt (.int k1 x) (.int k1 y)).run P w=.ok (x==y) w:=fun D=>by simp[Op.equalIn,run_underlying hu]
    exact this 9999
   ·rw[hrt] at hr2
    have:x=y:=by simpa using hr2.symm
    subst this
    exact⟨rfl,by simp[Instr.sameBits]⟩
 ·cases h
theorem jxx {kt:TypeId} {s:Bool×List Nat} (h:kh1 P kt=some s) {a:AV} {v:Value} (hs:(jyc s.1 s.2 a a).isSome=true) (ha:VR ρ a v) (w:World):
  ∀(m:List (AV×AV)) (es:List MapEntry) (i:Nat) (r:Option (Nat×AV)),VRs ρ (m.map (·.1)) (es.map (·.key))→VRs ρ (m.map (·.2)) (es.map (·.val))→jzg s.1 s.2 a m i=some r→
   ∃r',(Instr.findAsking kt v es i).run P w=.ok r' w∧(s.1=false→∀q,P.underlying kt=some (.int q)→Instr.findNow (.int q) v es i=some r')∧
    ((r=none∧r'=none)∨∃j x y,r=some (i+j,x)∧r'=some (i+j,y)∧VR ρ x y∧∃e,es[j]?=some e∧e.key=v∧Instr.sameBits 10000 e.key v=true∧j<m.length)
 | [],es,i,r,h1,h2,hm=>by
   simp only[List.map_nil,VRs] at h1
   have:es=[]:=by cases es<;>simp_all
   subst this
   cases hm
   exact⟨none,by simp[Instr.findAsking],fun _ _ _=>by simp[Instr.findNow],.inl ⟨rfl,rfl⟩⟩
 | (b,x)::m,es,i,r,h1,h2,hm=>by
   cases es with
   | nil=>simp only[List.map_cons,List.map_nil,VRs] at h1;obtain⟨_,_,h,_⟩:=h1;cases h
   | cons e es=>
     simp only[List.map_cons,VRs] at h1 h2
     obtain⟨u,us,eu,hb,h1⟩:=h1
     obtain⟨y,ys,ey,hx,h2⟩:=h2
     cases eu;cases ey
     simp only[jzg] at hm
     split at hm
     ·rename_i hc
      cases hm
      obtain⟨e1,e2,e3⟩:=(jny h hs ha w).2 b e.key true hb hc
      obtain⟨e4,e5⟩:=e2 rfl
      refine⟨some (i,e.val),by simp[Instr.findAsking,e1],fun hf q hq=>?_,.inr ⟨0,x,e.val,by simp,by simp,hx,e,rfl,e4.symm,e5,by simp⟩⟩
      obtain⟨k,p,p',rfl,q1,q2, -⟩:=e3 hf
      simp only[Instr.findNow,q1,Instr.sameNow,if_true,←q2]
     ·rename_i hc
      obtain⟨e1,e2,e3⟩:=(jny h hs ha w).2 b e.key false hb hc
      obtain⟨r',a1,a2,a3⟩:=jxx h hs ha w m es (i+1) r h1 h2 hm
      refine⟨r',by simp[Instr.findAsking,e1,a1],fun hf q hq=>?_,?_⟩
      ·obtain⟨k,p,p',rfl,q1,q2, -⟩:=e3 hf
       simp only[Instr.findNow,q1,Instr.sameNow,if_true,←q2]
       exact a2 hf q hq
      ·rcases a3 with a3 | ⟨j,x,y,g1,g2,g3,e,g4,g5,g6,g7⟩
       ·exact .inl a3
       ·exact .inr ⟨j+1,x,y,by rw[g1,Nat.add_assoc,Nat.add_comm 1 j],by rw[g2,Nat.add_assoc,Nat.add_comm 1 j],g3,e,by simpa using g4,g5,g6,by simpa using g7⟩
     ·cases hm
theorem jik {kt:TypeId} {s:Bool×List Nat} (h:kh1 P kt=some s) {a:AV} {v:Value} (hs:(jyc s.1 s.2 a a).isSome=true) (ha:VR ρ a v) (w:World)
  {m:List (AV×AV)} {es:List MapEntry} {r:Option (Nat×AV)} (h1:VRs ρ (m.map (·.1)) (es.map (·.key))) (h2:VRs ρ (m.map (·.2)) (es.map (·.val))) (hm:jzg s.1 s.2 a m 0=some r):
    ∃r',(Instr.findKey kt v es).run P w=.ok r' w∧
     ((r=none∧r'=none)∨∃j x y,r=some (j,x)∧r'=some (j,y)∧VR ρ x y∧∃e,es[j]?=some e∧e.key=v∧Instr.sameBits 10000 e.key v=true∧j<m.length):=by
 obtain⟨r',a1,a2,a3⟩:=jxx h hs ha w m es 0 r h1 h2 hm
 refine⟨r',?_,by simpa using a3⟩
 have hk:=h
 unfold kh1 at hk
 split at hk
 ·rename_i hu
  cases es with
  | nil=>simpa[Instr.findKey,run_underlying hu,Instr.findNow,Instr.findAsking] using a1
  | cons e es=>simpa[Instr.findKey,run_underlying hu,Instr.findNow,Instr.sameNow] using a1
 ·rename_i hu
  cases es with
  | nil=>simpa[Instr.findKey,run_underlying hu,Instr.findNow,Instr.findAsking] using a1
  | cons e es=>simpa[Instr.findKey,run_underlying hu,Instr.findNow,Instr.sameNow] using a1
 ·rename_i q hu
  cases hk
  simp[Instr.findKey,run_underlying hu,a2 rfl q hu]
 ·cases hk
end
end Go.Vm
namespace Go.Vm
section
variable {P:Program} {gl:List Nat} {ρ:RM} {g:Opd→AV} {e:Operand→Value}
theorem j8n {fn:Func} (h:fn.name=ka1):Extern.find fn=some Extern.BytealgIndexByte.indexByte:=by
 unfold Extern.find
 rw[h]
 kernel_rfl
theorem j8o {fn:Func} (h:fn.name=ka2):Extern.find fn=some Extern.BytealgCount.count:=by
 unfold Extern.find
 rw[h]
 kernel_rfl
theorem j2b (c:UInt8):∀(l:List UInt8),j6u c.toNat (l.map UInt8.toNat)=Lib.indexByte l c
 | []=>rfl
 | b::l=>by
   simp only[List.map_cons,j6u,Lib.indexByte,j2b c l,jaa]
   by_cases h:b=c
   ·subst h;simp
   ·have h1:b.toNat≠c.toNat:=fun e=>h (UInt8.toNat_inj.1 e)
    have h2:(b==c)=false:=by simp[h]
    simp only[h1,decide_false,cond_false,h2,Bool.false_eq_true,if_false]
    have hge:=Lib.indexByte_ge l c
    cases hq:Lib.indexByte l c with
    | ofNat n=>simp
    | negSucc n=>
      rw[hq] at hge
      have:n=0:=by omega
      subst this
      rfl
theorem j2p (c:UInt8):∀(l:List UInt8) (n:Nat),j2q c.toNat (l.map UInt8.toNat) n=n+Lib.countByte l c
 | [],n=>rfl
 | b::l,n=>by
   simp only[List.map_cons,j2q,j2p c l,jaa,Lib.countByte,List.count_cons]
   by_cases h:b=c
   ·subst h;simp;omega
   ·have h1:b.toNat≠c.toNat:=fun e=>h (UInt8.toNat_inj.1 e)
    simp[h,h1]
theorem j7u {n:Nat} {as:List AV} {v:AV} {args:Array Value} {w:World} (h:xrow n as=some v) (ha:VRs ρ as args.toList):
  ∃v',VR ρ v v'∧(n=0→(Extern.BytealgIndexByte.indexByte args).run P w=.ok v' w)∧(n=1→(Extern.BytealgCount.count args).run P w=.ok v' w)∧(n=0∨n=1):=by
 unfold xrow at h
 split at h
 ·rename_i s c
  simp only[VRs,VR] at ha
  obtain⟨v1,r1,e1,⟨bs,rfl,rfl⟩,v2,r2,rfl,rfl,rfl⟩:=ha
  have hargs:args=#[.string bs,.int .u8 (.ofNat c)]:=by
   apply Array.ext'
   simpa using e1
  subst hargs
  rw[jae] at h
  by_cases hc:c≤255
  ·simp only[hc,decide_true,cond_true] at h
   have hcu:c=(c.toUInt8).toNat:=by simp;omega
   split at h
   ·cases h
    refine⟨_,by simp only[VR];rfl,fun _=>?_,fun h=>(by cases h),.inl rfl⟩
    have e2:=j2b c.toUInt8 bs.data.toList
    rw[←hcu] at e2
    rw[show(Int.ofNat c)=((c:Nat):Int) from rfl,Lib.run_indexByteString,e2,Int.toNat_natCast]
   ·cases h
    refine⟨_,by simp only[VR];rfl,fun h=>(by cases h),fun _=>?_,.inr rfl⟩
    have e2:=j2p c.toUInt8 bs.data.toList 0
    rw[←hcu] at e2
    rw[show(Int.ofNat c)=((c:Nat):Int) from rfl,Lib.run_countString,e2,Int.toNat_natCast,Nat.zero_add]
    rfl
   ·cases h
  ·simp[hc] at h
 ·cases h
def GLok (gl:List Nat) (ρ:RM):Prop:=∀g,gl.contains g=true→∃l,ρ g=some l∧l.blk=g∧l.base=0
theorem GLok.mono {ρ ρ':RM} (h:ρ.Le ρ') (g:GLok gl ρ):GLok gl ρ':=fun x hx=>let ⟨l,h1,h2⟩:=g x hx;⟨l,h _ _ h1,h2⟩
def WF (H:Tr Blk) (nx:Nat):Prop:=∀b,(H.get b).isSome→b<nx
def jkv (P:Program) (gl:List Nat) (call:FuncId→List AV→Tr Blk→Nat→Nat→Out):Prop:=
 ∀f as H nx ro v H' nx',call f as H nx ro=some (v,H',nx')→nx≤nx'∧∀(ρ:RM) (w:World) (args:Array Value),HR ρ H w→Free ρ nx nx'→ro≤nx→GLok gl ρ→WF H nx→VRs ρ as args.toList→
  (∃fn,P.funcs[f]?=some fn∧(fn.name== "runtime.NumGoroutine")=false∧fn.body.isSome=true)∧
  Calls P f args w (fun en w'=>∃v',en=.returned v'∧Ends ρ H nx ro w v H' nx' v' w')
def OpEnds (P:Program) (e:Operand→Value) (o:Oper) (ρ:RM) (H:Tr Blk) (nx ro:Nat) (w:World) (v:AV) (H':Tr Blk) (nx':Nat):Prop:=
 (∃v' w',(execOp e o).run P w=.ok (.value v') w'∧Ends ρ H nx ro w v H' nx' v' w')∨
 (∃w',(execOp e o).run P w=.ok .skip w'∧Ends ρ H nx ro w v H' nx' undef w')∨
 (∃f args,(execOp e o).run P w=.ok (.enter f args) w∧Calls P f args w (fun en w'=>∃v',en=.returned v'∧Ends ρ H nx ro w v H' nx' v' w'))
theorem OpEnds.wp {o:Oper} {H H':Tr Blk} {nx nx' ro:Nat} {w:World} {v:AV} {a:Act} {K:Act→World→Prop} {Q:Exit→Act→World→Prop}
  (h:OpEnds P a.eval o ρ H nx ro w v H' nx') (hK:∀v' w',Ends ρ H nx ro w v H' nx' v' w'→K (a.put o.dst v') w'):o.wp P a w K Q:=by
 unfold Oper.wp
 rcases h with⟨v',w',h1,h2⟩ | ⟨w',h1,h2⟩ | ⟨f,args,h1,h2⟩
 ·rw[h1];exact hK _ _ h2
 ·rw[h1];exact hK _ _ h2
 ·rw[h1]
  refine h2.mono ?_
  rintro en w' ⟨v',rfl,h3⟩
  exact hK _ _ h3
theorem Ends.same {H:Tr Blk} {nx ro:Nat} {w:World} {v:AV} {v':Value} (hr:HR ρ H w) (hv:VR ρ v v'):Ends ρ H nx ro w v H nx v' w:=
 ⟨ρ,Step.refl _ _ _ _ _,hr,hv⟩
theorem jmn {f:FuncId} {fn:Func} (hf:P.funcs[f]?=some fn) (h1:(fn.name== "runtime.NumGoroutine")=false) (h2:fn.body.isSome=true) (args:Array Value) (w:World):
  (callFunc f args).run P w=.ok (.enter f args) w:=by
 have h3:fn.name≠ "runtime.NumGoroutine" :=by simpa using h1
 obtain⟨b,hb⟩:=Option.isSome_iff_exists.1 h2
 simp[callFunc,hf,h3,hb]
theorem j6a {s:Sem Unit} {w w':World} (h:s.run P w=.ok () w'):(do s;pure .skip:Sem Next).run P w=.ok .skip w':=by
 simp[h]
theorem jbq {a b:Bool} (h:(a&&b)=true):a=true∧b=true:=by simpa using h
theorem jvt {α:Type} (l:List α) (hl:0<l.length):∀(n j:Nat),j<n*l.length→(List.replicate n l).flatten[j]?=l[j%l.length]?
 | 0,j,h=>by omega
 | n+1,j,h=>by
   rw[List.replicate_succ,List.flatten_cons,List.getElem?_append]
   split
   ·rename_i hj;rw[Nat.mod_eq_of_lt hj]
   ·rename_i hj
    rw[jvt l hl n (j-l.length) (by rw[Nat.succ_mul] at h;omega)]
    congr 1
    rw[←Nat.mod_eq_sub_mod (by omega)]
theorem j1j {z:List AV} {Z:Array Value} {n s:Nat} (hz:n*s≠0→VRs ρ z Z.toList) (hs:z.length=s) (hs0:0<s):
  VRs ρ (List.replicate n z).flatten ((Array.range (n*s)).map (fun j=>Z[j%Z.size]!)).toList:=by
 rw[jjf]
 refine⟨by simp[hs],fun j a v ha hv=>?_⟩
 have hj:j<n*s:=by
  have:=(List.getElem?_eq_some_iff.1 ha).1
  simpa[hs] using this
 have hzr:=hz (by omega)
 have hzl:=hzr.length
 simp only[Array.length_toList] at hzl
 rw[jvt z (by omega) n j (by rw[hs];exact hj),hs] at ha
 obtain⟨v',h1,h2⟩:=hzr.get ha
 have hv':((Array.range (n*s)).map (fun j=>Z[j%Z.size]!)).toList[j]?=some (Z[j%Z.size]!):=by
  simp[hj]
 rw[hv'] at hv
 cases hv
 rw[←hzl,hs]
 have h3:Z[j%s]?=some v':=by simpa using h1
 have:Z[j%s]! =v':=by
  rw[getElem!_def,h3]
 rw[this]
 exact h2
theorem j07:∀(l:List AV) (s:List Nat),u8s l=some s→∀(vs:List Value),VRs ρ l vs→vs=(s.map Int.ofNat).map (Value.int .u8)∧∀x∈s,x≤255
 | [],s,h,vs,hv=>by
   simp only[u8s,Option.some.injEq] at h
   simp only[VRs] at hv
   subst h;subst hv
   exact⟨rfl,fun x hx=>by cases hx⟩
 | a::l,s,h,vs,hv=>by
   unfold u8s at h
   split at h
   ·rename_i heq;cases heq
   ·rename_i n l' heq
    cases heq
    rw[jae] at h
    by_cases hn:n≤255
    ·simp only[hn,decide_true,cond_true] at h
     split at h
     ·rename_i r hr
      cases h
      simp only[VRs,VR] at hv
      obtain⟨v,vs',rfl,rfl,h2⟩:=hv
      obtain⟨h3,h4⟩:=j07 l r hr vs' h2
      subst h3
      refine⟨rfl,fun x hx=>?_⟩
      rcases List.mem_cons.1 hx with rfl | hx
      ·exact hn
      ·exact h4 x hx
     ·cases h
    ·simp[hn] at h
   ·cases h
theorem j2k:∀(s:List Nat) (r:ByteArray),((s.map Int.ofNat).foldl (fun r n=>r.push (UInt8.ofNat n.toNat)) r).data.toList=r.data.toList++s.map UInt8.ofNat
 | [],r=>by simp
 | x::s,r=>by
   simp only[List.map_cons,List.foldl_cons]
   rw[j2k s]
   simp[ByteArray.push]
theorem j01 {t:TypeId} {z:AV} (h:j9e P t=some z):∃v,VR ρ z v∧∀w,(zeroValue t).run P w=.ok v w:=by
 unfold j9e at h
 split at h
 ·rename_i i hi
  split at h
  ·rename_i cs hz
   simp only[Option.map_eq_some_iff] at h
   obtain⟨l,hl,rfl⟩:=h
   exact⟨.agg cs,by simp only[VR];exact⟨cs,rfl,jnu ρ _ _ hl⟩,fun w=>jjv hi hz w⟩
  ·rename_i v _ hz
   exact⟨v,jpb ρ h,fun w=>jjv hi hz w⟩
  ·cases h
 ·cases h
theorem j9j {l:List AV} {vs vs':List Value} {j:Nat} {a:AV} {v:Value} (h:VRs ρ l vs) (hj:j<l.length) (ha:VR ρ a v) (hl:vs'.length=vs.length) (hv:∀i,vs'[i]?=if i=j then some v else vs[i]?):VRs ρ (l.set j a) vs':=by
 rw[jjf] at h ⊢
 refine⟨by rw[List.length_set,hl];exact h.1,fun i x y hx hy=>?_⟩
 rw[hv] at hy
 rw[List.getElem?_set] at hx
 by_cases e:i=j
 ·subst e
  rw[if_pos rfl] at hy
  simp only[if_true,hj] at hx
  cases hx;cases hy
  exact ha
 ·rw[if_neg e] at hy
  rw[if_neg (fun e'=>e e'.symm)] at hx
  exact h.2 i x y hx hy
theorem jrx {ok b:Bool} {a:AV} {v:Value} (h:VR ρ a v):VR ρ (kfz ok a b) (if ok then .tuple #[v,.bool b] else v):=by
 cases ok
 ·exact h
 ·simp only[kfz,cond_true,if_true,VR]
  exact⟨_,rfl,_,_,rfl,h,_,_,rfl,by simp[VR],rfl⟩
theorem j2e {call:FuncId→List AV→Tr Blk→Nat→Nat→Out} (hcall:jkv P gl call) {o:Oper} {c:I} {v:AV} {H H':Tr Blk} {nx nx' ro:Nat} {w:World}
  (hg:∀x y,opd gl x=some y→VR ρ (g y) (e x)) (hef:∀f,e (.func f)=.func (.func f) #[] #[]) (hc:jx7 P gl o.op=some c) (h:hop call ro g H nx c=some (v,H',nx')) (hr:HR ρ H w) (hf:Free ρ nx nx') (hro:ro≤nx) (hgl:GLok gl ρ) (hwf:WF H nx):
  OpEnds P e o ρ H nx ro w v H' nx':=by
 obtain⟨dst,op,ty,pos,after,guard⟩:=o
 simp only at hc
 have boxed:∀(l:List AV) (cs:Array Value) (elem:TypeId),VRs ρ l cs.toList→jey l (fun b=>.ptr b 0) H nx=some (v,H',nx')→
   Ends ρ H nx ro w v H' nx' (.pointer (some ⟨w.heap.size,0,none⟩)) (w.alloc (.cells cs elem)):=by
  intro l cs elem hl hn
  simp only[jaq,Option.some.injEq,Prod.mk.injEq] at hn
  obtain⟨rfl,rfl,rfl⟩:=hn
  have hll:=hl.length
  obtain⟨a1,a2⟩:=jnd (elem:=elem) (fr:=(0,0)) (lim:=cs.size) (ro:=ro) hr (hf nx (Nat.le_refl _) (by omega)) hro (by rw[hll,List.take_length];exact hl) (by simp at hll;omega) (Nat.le_refl _) (fun j=>by omega)
  refine⟨_,a2,a1,?_⟩
  simp only[VR]
  exact⟨⟨w.heap.size,0,cs.size⟩,by simp[RM.upd],rfl⟩
 cases op
 case box t x=>
  simp only[jx7,Option.map_eq_some_iff] at hc
  obtain⟨x',hx,rfl⟩:=hc
  simp only[hop] at h
  refine .inl ⟨_,_,jcn ?_,boxed _ _ t (hg _ _ hx).cells h⟩
  rfl
 case alloc t=>
  simp only[jx7,Option.map_eq_some_iff] at hc
  obtain⟨z,hz,rfl⟩:=hc
  simp only[hop] at h
  obtain⟨i,zv,h1,h2,h3⟩:=jin (ρ:=ρ) hz
  refine .inl ⟨_,_,jcn ?_,boxed _ _ t h3 h⟩
  simp only[Instr.alloc,Sem.run_bind,jjv h1 h2,Result.andThen_ok]
  rfl
 case load t x=>
  simp only[jx7,Option.bind_eq_bind,Option.bind_eq_some_iff,Option.map_eq_some_iff] at hc
  obtain⟨s,hs,x',hx,rfl⟩:=hc
  obtain⟨i,d,k1,k2,rfl⟩:=jfg hs
  have kx:=hg _ _ hx
  simp only[hop] at h
  split at h
  ·rename_i b o hq
   rw[hq] at kx
   simp only[VR] at kx
   obtain⟨lc,l1,l2⟩:=kx
   split at h
   ·rename_i ct m hb
    rw[jae] at h
    by_cases hm:o+i.size≤m
    ·simp only[hm,decide_true,cond_true] at h
     split at h
     ·rename_i l hl
      split at h
      ·rename_i v0 hv0
       simp only[Option.some.injEq,Prod.mk.injEq] at h
       obtain⟨rfl,rfl,rfl⟩:=h
       obtain⟨vs,r1,r2,r3,r4⟩:=jiu (P:=P) hr hb l1 hm hl
       rcases jvg hv0 r1 with⟨q1,q2⟩ | ⟨q1,u,q2,q3⟩
       ·refine .inl ⟨_,w,jcn ?_,Ends.same hr q2⟩
        simp only[Instr.loadAt,l2,Instr.sureAddr,Sem.run_bind,Sem.run_pure,Result.andThen_ok,loadVar,jio k2,q1,if_true,jbj k1,r4]
       ·subst q2
        refine .inl ⟨u,w,jcn ?_,Ends.same hr q3⟩
        have r5:=r3 0 u rfl
        rw[jhc,Nat.add_zero] at r5
        simp only[Instr.loadAt,l2,Instr.sureAddr,Sem.run_bind,Sem.run_pure,Result.andThen_ok,loadVar,jio k2,q1,Bool.false_eq_true,if_false,run_load,r5]
      ·cases h
     ·cases h
    ·simp[hm] at h
   ·cases h
  ·cases h
 case store t x y=>
  simp only[jx7,Option.bind_eq_bind,Option.bind_eq_some_iff,Option.some.injEq] at hc
  obtain⟨s,hs,x',hx,y',hy,rfl⟩:=hc
  obtain⟨i,d,k1,k2,rfl⟩:=jfg hs
  have kx:=hg _ _ hx
  have ky:=hg _ _ hy
  simp only[hop] at h
  split at h
  ·rename_i b o hq
   rw[hq] at kx
   simp only[VR] at kx
   obtain⟨lc,l1,l2⟩:=kx
   split at h
   ·rename_i ct m hb
    cases hcnd:((rx ro).ble b&&(o+i.size).ble m&&(jcq (g y')).length.beq i.size&&(jcq (g y')).all js3)<;>simp only[hcnd,cond_true,cond_false] at h
    ·cases h
    ·obtain⟨hcnd,c4⟩:=jbq hcnd
     obtain⟨hcnd,c3⟩:=jbq hcnd
     obtain⟨c1,c2⟩:=jbq hcnd
     simp only[jae,jaa,decide_eq_true_eq] at c1 c2 c3
     simp only[jc4,jdd,Option.some.injEq,Prod.mk.injEq] at h
     obtain⟨rfl,rfl,rfl⟩:=h
     have hv:=ky.cells
     have hl:=hv.length
     simp only[Array.length_toList] at hl
     obtain⟨w',s1,s2,s3⟩:=jpj (P:=P) (nx:=nx) (o:=o) hr hb l1 c1 hv (by omega) c4
     refine .inr (.inl ⟨w',j6a ?_,ρ,s3,s2,by simp[VR,undef,VRs]⟩)
     have hsz:¬((e y).cells.size≠i.size):=by omega
     simp only[Instr.storeAt,l2,Instr.sureAddr,Sem.run_bind,Sem.run_pure,Result.andThen_ok,storeVar,jbj k1,hsz,Sem.run_ite,if_false,s1]
   ·cases h
  ·cases h
 case buildSlice t len ps=>
  simp only[jx7] at hc
  split at hc
  ·rename_i el hu
   simp only[Option.bind_eq_bind,Option.bind_eq_some_iff] at hc
   obtain⟨s,hs,z,hz,hc⟩:=hc
   split at hc
   ·rename_i hzl
    simp only[Option.bind_eq_some_iff,Option.some.injEq] at hc
    obtain⟨l,hl,rfl⟩:=hc
    obtain⟨i,d,k1,k2,rfl⟩:=jfg hs
    obtain⟨i',zv,h1,h2,h3⟩:=jin (ρ:=ρ) hz
    rw[k1] at h1;cases h1
    simp only[hop] at h
    cases hcnd:(i.size.beq 0|| !((len*i.size).ble 1000000))<;>simp only[hcnd,cond_true,cond_false] at h
    ·simp only[Bool.or_eq_false_iff,Bool.not_eq_false',jaa,jae,decide_eq_false_iff_not,decide_eq_true_eq] at hcnd
     obtain⟨c1,c2⟩:=hcnd
     split at h
     ·rename_i zl hfill
      rw[jaa] at h
      by_cases hlen:zl.length=len*i.size
      ·simp only[hlen,decide_true,cond_true] at h
       have hz0:=j1j (ρ:=ρ) (z:=z) (Z:=if len*i.size=0 then #[] else zv.cells) (n:=len) (s:=i.size) (fun hne=>by rw[if_neg hne];exact h3) hzl (by omega)
       obtain⟨cells',f1,f2⟩:=jn0 (place:=fun j=>some (j*i.size,i.size)) hg ps.toList l _ zl _ hl hfill hz0
       have hcl:=f2.length
       simp only[Array.length_toList] at hcl
       simp only[jaq,Option.some.injEq,Prod.mk.injEq] at h
       obtain⟨rfl,rfl,rfl⟩:=h
       obtain⟨a1,a2⟩:=jnd (elem:=el) (fr:=(0,0)) (lim:=len*i.size) (ro:=ro) hr (hf nx (Nat.le_refl _) (by omega)) hro (l:=zl) (cs:=cells') (by rw[hcl,List.take_of_length_le (by simp)];exact f2) (by omega) (by omega) (fun j=>by omega)
       refine .inl ⟨.slice (some ⟨w.heap.size,0,none⟩) len len,w.alloc (.cells cells' el),jcn ?_,_,a2,a1,?_⟩
       ·have hlim:¬(len*i.size > 2^24):=by omega
        have hmap:(ps.map fun(x:Nat×Operand)=>(x.1,e x.2)).toList=ps.toList.map fun(x:Nat×Operand)=>(x.1,e x.2):=by simp
        simp only[Instr.buildSlice,Sem.run_bind,run_underlying hu,Result.andThen_ok,jbj k1,hlim,Sem.run_ite,if_false,Sem.run_pure]
        by_cases hz00:len*i.size=0
        ·simp only[hz00,if_true,List.range_zero] at f1 ⊢
         have f1':Instr.fill (fun j=>some (j*i.size,i.size)) (Array.map (fun x=>#[][x % #[].size]!) (Array.range 0)) (ps.toList.map fun(x:Nat×Operand)=>(x.1,e x.2))=some cells':=f1
         rw[hmap,f1']
         rfl
        ·simp only[hz00,if_false,jjv k1 h2,Result.andThen_ok] at f1 ⊢
         have f1':Instr.fill (fun j=>some (j*i.size,i.size)) (Array.map (fun x=>zv.cells[x%zv.cells.size]!) (Array.range (len*i.size))) (ps.toList.map fun(x:Nat×Operand)=>(x.1,e x.2))=some cells':=f1
         rw[hmap,f1']
         rfl
       ·simp only[VR]
        exact⟨⟨w.heap.size,0,len*i.size⟩,len,0,by simp[RM.upd],rfl,Nat.le_refl _,by omega,.inl rfl,.inl ⟨rfl,by simp,fun _=>by have:len≤len*i.size:=Nat.le_mul_of_pos_right _ (by omega);omega⟩⟩
      ·simp[hlen] at h
     ·cases h
    ·cases h
   ·cases hc
  ·cases hc
 case slice t x lo hi mx=>
  simp only[jx7] at hc
  split at hc
  ·rename_i n el hu
   split at hc
   ·cases hc
   rename_i hnbig
   simp only[Option.bind_eq_bind,Option.bind_eq_some_iff,Option.some.injEq] at hc
   obtain⟨s,hs,x',hx,lo',h1,hi',h2,mx',h3,rfl⟩:=hc
   obtain⟨i,d,k1,k2,rfl⟩:=jfg hs
   have kx:=hg _ _ hx
   simp only[hop] at h
   split at h
   ·rename_i b o hq
    rw[hq] at kx
    simp only[VR] at kx
    obtain⟨lc,l1,l2⟩:=kx
    split at h
    ·rename_i ct m hb
     obtain⟨_,_,_,_,hnm,_⟩:=hr.blk b _ lc hb l1
     cases hcnd:(i.size.beq 0|| !((o+n*i.size).ble m))<;>simp only[hcnd,cond_true,cond_false] at h
     ·simp only[Bool.or_eq_false_iff,Bool.not_eq_false',jaa,jae,decide_eq_false_iff_not,decide_eq_true_eq] at hcnd
      obtain⟨c1,c2⟩:=hcnd
      split at h
      ·rename_i l0 h0 m0 hbd
       simp only[Option.some.injEq,Prod.mk.injEq] at h
       obtain⟨rfl,rfl,rfl⟩:=h
       obtain⟨b1,b2,b3,b5,b4⟩:=jhy (P:=P) (ρ:=ρ) (cap':=n) false w hbd (jfv hg h1) (jfv hg h2) (jfv hg h3) (Nat.le_refl _) (Nat.le_refl _)
       have hmm:(if(Option.map g mx').isSome=true then m0 else n)=m0:=by
        cases hmx:Option.map g mx' with
        | none=>simp[b5 hmx]
        | some _=>simp
       rw[hmm] at b4
       refine .inl ⟨.slice (some (if m0=l0 then⟨lc.blk,lc.base+o,none⟩ else(⟨lc.blk,lc.base+o,none⟩:Addr).add (l0*i.size))) (h0-l0) (m0-l0),w,jcn ?_,Ends.same hr ?_⟩
       ·simp only[Instr.sliceAt,Sem.run_bind,run_underlying hu,Result.andThen_ok,l2,Instr.sureAddr,Sem.run_pure,b4,jbj k1]
       ·simp only[VR]
        have hmul:l0*i.size+ (m0-l0)*i.size=m0*i.size:=by rw[←Nat.add_mul];congr 1;omega
        have hle:m0*i.size≤n*i.size:=Nat.mul_le_mul_right _ b3
        refine⟨lc,m0-l0,if m0=l0 then lc.base+o else lc.base+o+l0*i.size,l1,?_,by omega,by omega,?_,.inl ⟨rfl,by omega,fun _=>by omega⟩⟩
        ·split
         ·rfl
         ·rw[jhc]
        ·split
         ·right;omega
         ·left;omega
      ·cases h
     ·cases h
    ·cases h
   ·cases h
  ·cases hc
 case makeSlice t lx cx=>
  simp only[jx7] at hc
  split at hc
  ·rename_i el hu
   split at hc
   ·rename_i i hi
    simp only[Option.bind_eq_bind,Option.bind_eq_some_iff,Option.some.injEq] at hc
    obtain⟨z,hz,l',hl,c',hcx,rfl⟩:=hc
    obtain⟨i',zv,h1,h2,h3⟩:=jin (ρ:=ρ) hz
    rw[hi] at h1;cases h1
    have kl:=hg _ _ hl
    have kc:=hg _ _ hcx
    simp only[hop] at h
    split at h
    ·rename_i kd1 l0 kd2 c0 hq1 hq2
     rw[hq1] at kl
     rw[hq2] at kc
     have kl:=jxs kl
     have kc:=jxs kc
     cases hcnd:(l0.ble c0&&c0.ble 1000000&&i.bytes.ble 1000&& !(i.size.beq 0)&&z.length.beq i.size)<;>simp only[hcnd,cond_true,cond_false] at h
     ·cases h
     ·simp only[Bool.and_eq_true,Bool.not_eq_true',jaa,jae,decide_eq_false_iff_not,decide_eq_true_eq] at hcnd
      obtain⟨⟨⟨⟨c1,c2⟩,c3⟩,c4⟩,c5⟩:=hcnd
      have hz0:=j1j (ρ:=ρ) (z:=z) (Z:=if c0*i.size=0 then #[] else zv.cells) (n:=c0) (s:=i.size) (fun hne=>by rw[if_neg hne];exact h3) c5 (by omega)
      have hcl:=hz0.length
      simp only[Array.length_toList] at hcl
      simp only[jaq,Option.some.injEq,Prod.mk.injEq] at h
      obtain⟨rfl,rfl,rfl⟩:=h
      have hfl:(List.replicate c0 z).flatten.length=c0*i.size:=by simp[c5]
      obtain⟨a1,a2⟩:=jnd (elem:=el) (fr:=(0,0)) (lim:=c0*i.size) (ro:=ro) hr (hf nx (Nat.le_refl _) (by omega)) hro (l:=(List.replicate c0 z).flatten) (cs:=(Array.range (c0*i.size)).map (fun j=>(if c0*i.size=0 then #[] else zv.cells)[j% (if c0*i.size=0 then #[] else zv.cells).size]!)) (by rw[hcl,List.take_of_length_le (by simp)];exact hz0) (by omega) (by simp) (fun j=>by omega)
      refine .inl ⟨.slice (some ⟨w.heap.size,0,none⟩) l0 c0,w.alloc (.cells _ el),jcn ?_,_,a2,a1,?_⟩
      ·have w1:IntKind.i64.wrap (l0:Int)=l0:=jtq .i64 _ (by omega) (by simp[j9b];omega)
       have w2:IntKind.i64.wrap (c0:Int)=c0:=jtq .i64 _ (by omega) (by simp[j9b];omega)
       have hb:c0*i.bytes≤1000000*1000:=Nat.mul_le_mul c2 c3
       have hb':((i.bytes:Int)* (c0:Int))=((c0*i.bytes:Nat):Int):=by rw[Nat.mul_comm];rfl
       have n1:¬((c0:Int)<0):=by omega
       have n2:¬(((c0*i.bytes:Nat):Int) > 2^48):=by omega
       have n3:¬((l0:Int)<0):=by omega
       have n4:¬((l0:Int) > (c0:Int)):=by omega
       simp only[Instr.makeSlice,Sem.run_bind,run_underlying hu,Result.andThen_ok,kl,kc,asInt,asIntOf,Sem.run_pure,jts hi,w1,w2,hb',n1,n2,n3,n4,decide_false,Bool.or_self,Bool.false_eq_true,if_false,Sem.run_ite,run_askRoom,Int.toNat_natCast,jbj hi]
       by_cases hz00:c0*i.size=0
       ·simp only[hz00,if_true]
        rfl
       ·simp only[hz00,if_false,jjv hi h2,Result.andThen_ok]
        rfl
      ·simp only[VR]
       exact⟨⟨w.heap.size,0,c0*i.size⟩,c0,0,by simp[RM.upd],rfl,c1,by omega,.inl rfl,.inl ⟨rfl,by simp,fun _=>by omega⟩⟩
    ·cases h
   ·cases hc
  ·cases hc
 case convert s t x=>
  simp only[jx7] at hc
  split at hc
  ·rename_i el hs ht
   split at hc
   ·rename_i he
    simp only[Option.map_eq_some_iff] at hc
    obtain⟨x',hx,rfl⟩:=hc
    have kx:=hg _ _ hx
    simp only[hop] at h
    split at h
    ·rename_i hq
     rw[hq] at kx
     simp only[VR] at kx
     simp only[Option.some.injEq,Prod.mk.injEq] at h
     obtain⟨rfl,rfl,rfl⟩:=h
     refine .inl ⟨.string .empty,w,jcn ?_,Ends.same hr (by simp[VR])⟩
     simp[convert,run_underlying hs,run_underlying ht,run_underlying he,kx,Conv.bytesToString]
    ·rename_i b o len cap z hq
     rw[hq] at kx
     have kx0:=kx
     simp only[VR] at kx
     obtain⟨lc,c,off,l1,l2,l3,l4,l5,l6⟩:=kx
     split at h
     ·rename_i ct m hb
      cases hcnd:(z.beq 1&&(o+len).ble m)<;>simp only[hcnd,cond_true,cond_false] at h
      ·cases h
      ·simp only[Bool.and_eq_true,jaa,jae,decide_eq_true_eq] at hcnd
       obtain⟨c1,c2⟩:=hcnd
       split at h
       ·rename_i l hl
        split at h
        ·rename_i s0 hs0
         simp only[jit,Option.some.injEq,Prod.mk.injEq] at h
         obtain⟨rfl,rfl,rfl⟩:=h
         obtain⟨vs,r1,r2,r3,r4⟩:=jiu (P:=P) hr hb l1 c2 hl
         obtain⟨b1,b2⟩:=j07 _ _ hs0 _ r1
         refine .inl ⟨.string ((s0.map Int.ofNat).foldl (fun r n=>r.push (UInt8.ofNat n.toNat)) ByteArray.empty),w,jcn ?_,Ends.same hr ?_⟩
         rotate_left
         ·simp only[VR]
          refine⟨_,rfl,?_⟩
          rw[j2k]
          have:∀l:List Nat,(∀x∈l,x≤255)→(l.map UInt8.ofNat).map UInt8.toNat=l:=by
           intro l hl
           induction l with
           | nil=>rfl
           | cons x l ih=>
             have h1:=hl x (by simp)
             simp only[List.map_cons,ih fun y hy=>hl y (by simp[hy])]
             congr 1
             simp
             omega
          exact this s0 b2
         have hload:(loadCells ⟨lc.blk,off,none⟩ len).run P w=.ok vs.toArray w:=by
          by_cases h0:len=0
          ·subst h0
           have:vs=[]:=List.length_eq_zero_iff.1 r2
           subst this
           rfl
          ·have:off=lc.base+o:=by omega
           rw[this];exact r4
         rw[l2,run_convert_bytes_string w _ _ _ _ _ _ hs he ht]
         exact run_bytesToString w _ _ _ _ (by rw[hload,b1])
        ·cases h
       ·cases h
     ·cases h
    ·cases h
   ·cases hc
  ·rename_i el hs ht
   split at hc
   ·rename_i he
    simp only[Option.map_eq_some_iff] at hc
    obtain⟨x',hx,rfl⟩:=hc
    have kx:=hg _ _ hx
    simp only[hop] at h
    cases h
   ·cases hc
  ·cases hc
 case makeMap t r=>
  simp only[jx7] at hc
  split at hc
  ·rename_i kt et hu
   have fin:∀rv:Option Value,(∀y,rv=some y→∃k n,y=.int k n)→kjs (.mp []) (fun b=>.mp b) H nx=some (v,H',nx')→
     ∃v' w',(Instr.makeMap t rv).run P w=.ok v' w'∧Ends ρ H nx ro w v H' nx' v' w':=by
    intro rv hrv hn
    simp only[jm3,Option.some.injEq,Prod.mk.injEq] at hn
    obtain⟨rfl,rfl,rfl⟩:=hn
    have hnn:=hf nx (Nat.le_refl _) (by omega)
    have:=hr.alloc (ro:=ro) hnn (.map #[] 0) (.mp []) ⟨w.heap.size,0,0⟩ rfl ⟨#[],0,by show(w.heap.push _)[w.heap.size]?=_;simp,rfl,rfl⟩ hro
    refine⟨.map (some w.heap.size),w.alloc (.map #[] 0),?_,_,this.2,this.1,?_⟩
    ·cases rv with
     | none=>simp only[Instr.makeMap,Sem.run_bind,Sem.run_pure,Result.andThen_ok,run_newObj];rfl
     | some y=>
       obtain⟨k,n,rfl⟩:=hrv y rfl
       simp only[Instr.makeMap,Sem.run_bind,Sem.run_pure,Result.andThen_ok,run_underlying hu,asInt,asIntOf,run_newObj]
       rfl
    ·simp only[VR]
     exact⟨⟨w.heap.size,0,0⟩,by simp[RM.upd],rfl⟩
   split at hc
   ·cases hc
    simp only[hop,Option.map_none] at h
    obtain⟨v',w',a1,a2⟩:=fin none (fun y hy=>by cases hy) h
    exact .inl ⟨v',w',jcn a1,a2⟩
   ·rename_i x
    simp only[Option.map_eq_some_iff] at hc
    obtain⟨x',hx,rfl⟩:=hc
    have kx:=hg _ _ hx
    simp only[hop,Option.map_some] at h
    split at h
    ·rename_i heq;cases heq
    ·rename_i k n heq
     have heq:g x'=.int k n:=by simpa using heq
     rw[heq] at kx
     simp only[VR] at kx
     obtain⟨v',w',a1,a2⟩:=fin (some (e x)) (fun y hy=>by cases hy;exact⟨k,n,kx⟩) h
     exact .inl ⟨v',w',jcn a1,a2⟩
    ·cases h
  ·cases hc
 case lookup t x k ok=>
  simp only[jx7] at hc
  split at hc
  ·rename_i kt et hu
   simp only[Option.bind_eq_bind,Option.bind_eq_some_iff,Option.some.injEq] at hc
   obtain⟨s,hs,z,hz,x',hx,k',hk,rfl⟩:=hc
   have kx:=hg _ _ hx
   have kk:=hg _ _ hk
   obtain⟨zv,z1,z2⟩:=j01 (ρ:=ρ) hz
   simp only[hop] at h
   obtain⟨hsm,h⟩:=j4p h
   have ck:=(jny hs hsm kk w).1
   split at h
   ·rename_i hq
    rw[hq] at kx
    simp only[VR] at kx
    simp only[Option.some.injEq,Prod.mk.injEq] at h
    obtain⟨rfl,rfl,rfl⟩:=h
    obtain⟨r',f1,f2⟩:=jik hs hsm kk w (m:=[]) (es:=[]) (r:=none) rfl rfl rfl
    rcases f2 with⟨-,rfl⟩ | ⟨_,_,_,f3,_⟩
    ·refine .inl ⟨_,w,jcn ?_,Ends.same hr (jrx (ok:=ok) (b:=false) z1)⟩
     simp only[Instr.lookup,kx,Sem.run_bind,run_underlying hu,Result.andThen_ok,Sem.run_pure,ck,f1,z2]
    ·cases f3
   ·rename_i b hq
    rw[hq] at kx
    simp only[VR] at kx
    obtain⟨lc,l1,l2⟩:=kx
    split at h
    ·rename_i m hb
     obtain⟨es,clock,b1,b2,b3⟩:=hr.blk b _ lc hb l1
     split at h
     ·rename_i i0 v0 hmf
      simp only[Option.some.injEq,Prod.mk.injEq] at h
      obtain⟨rfl,rfl,rfl⟩:=h
      obtain⟨r',f1,f2⟩:=jik hs hsm kk w b2 b3 hmf
      rcases f2 with⟨f3, -⟩ | ⟨j,p,q,f3,rfl,f5, -⟩
      ·cases f3
      ·cases f3
       refine .inl ⟨_,w,jcn ?_,Ends.same hr (jrx (ok:=ok) (b:=true) f5)⟩
       simp only[Instr.lookup,l2,Sem.run_bind,run_underlying hu,Result.andThen_ok,Sem.run_pure,Go.MapKept.run_getObj_map b1,ck,f1]
     ·rename_i hmf
      simp only[Option.some.injEq,Prod.mk.injEq] at h
      obtain⟨rfl,rfl,rfl⟩:=h
      obtain⟨r',f1,f2⟩:=jik hs hsm kk w b2 b3 hmf
      rcases f2 with⟨-,rfl⟩ | ⟨_,_,_,f3,_⟩
      ·refine .inl ⟨_,w,jcn ?_,Ends.same hr (jrx (ok:=ok) (b:=false) z1)⟩
       simp only[Instr.lookup,l2,Sem.run_bind,run_underlying hu,Result.andThen_ok,Sem.run_pure,Go.MapKept.run_getObj_map b1,ck,f1,z2]
      ·cases f3
     ·cases h
    ·cases h
   ·cases h
  ·cases hc
 case mapUpdate t x k y=>
  simp only[jx7] at hc
  split at hc
  ·rename_i kt et hu
   simp only[Option.bind_eq_bind,Option.bind_eq_some_iff,Option.some.injEq] at hc
   obtain⟨s,hs,x',hx,k',hk,y',hy,rfl⟩:=hc
   have kx:=hg _ _ hx
   have kk:=hg _ _ hk
   have ky:=hg _ _ hy
   simp only[hop] at h
   split at h
   ·rename_i b hq
    rw[hq] at kx
    simp only[VR] at kx
    obtain⟨lc,l1,l2⟩:=kx
    split at h
    ·rename_i m hb
     obtain⟨es,clock,b1,b2,b3⟩:=hr.blk b _ lc hb l1
     have hlt:=(Array.getElem?_eq_some_iff.1 b1).1
     split at h
     ·rename_i r hmf
      obtain⟨hcnd,h⟩:=j4p h
      obtain⟨c1,hsm⟩:=jbq hcnd
      rw[jae,decide_eq_true_eq] at c1
      have ck:=(jny hs hsm kk w).1
      simp only[jdd,Option.some.injEq,Prod.mk.injEq] at h
      obtain⟨rfl,rfl,rfl⟩:=h
      obtain⟨r',f1,f2⟩:=jik hs hsm kk w b2 b3 hmf
      have fin:∀(es':Array MapEntry) (clock':Nat),VRs ρ ((j8e (g k') (g y') m r).map (·.1)) (es'.toList.map (·.key))→VRs ρ ((j8e (g k') (g y') m r).map (·.2)) (es'.toList.map (·.val))→
        (Instr.mapUpdate t (e x) (e k) (e y)).run P w=.ok () { w with heap:=w.heap.setIfInBounds lc.blk (.map es' clock') }→
        OpEnds P e ⟨dst,.mapUpdate t x k y,ty,pos,after,guard⟩ ρ H nx ro w (.tup []) (H.set b (.mp (j8e (g k') (g y') m r))) nx:=by
       intro es' clock' g1 g2 g3
       have hws:=HR.write (nx:=nx) (w':={ w with heap:=w.heap.setIfInBounds lc.blk (.map es' clock') }) hr (.mp (j8e (g k') (g y') m r)) lc (by rw[hb];rfl) l1 c1 rfl rfl rfl (by simp)
        (fun x hx=>by simp[Array.getElem?_setIfInBounds,Ne.symm hx]) ⟨es',clock',by simp[Array.getElem?_setIfInBounds,hlt],g1,g2⟩
       exact .inr (.inl ⟨_,j6a g3,ρ,hws.2,hws.1,by simp[VR,undef,VRs]⟩)
      rcases f2 with⟨rfl,rfl⟩ | ⟨j,p,q,rfl,rfl,f5,e0,g1,g2,g3,g4⟩
      ·refine fin (es.push { key:=e k,val:=e y,born:=clock }) (clock+1) ?_ ?_ ?_
       ·simp only[j8e,List.map_append,List.map_cons,List.map_nil,Array.toList_push]
        exact b2.append ⟨_,_,rfl,kk,rfl⟩
       ·simp only[j8e,List.map_append,List.map_cons,List.map_nil,Array.toList_push]
        exact b3.append ⟨_,_,rfl,ky,rfl⟩
       ·simp only[Instr.mapUpdate,l2,Sem.run_bind,run_underlying hu,Result.andThen_ok,Go.MapKept.run_getObj_map b1,ck,f1,Go.MapKept.run_setObj_map _ b1]
      ·have ej:es[j]?=some e0:=by simpa using g1
       refine fin (es.modify j fun e1=>{ e1 with key:=e k,val:=e y }) clock ?_ ?_ ?_
       ·simp only[j8e,List.map_set]
        refine j9j b2 (by simpa using g4) kk (by simp) fun i=>?_
        simp only[List.getElem?_map,Array.getElem?_toList,Array.getElem?_modify]
        by_cases hji:j=i
        ·subst hji;simp[ej]
        ·simp[hji,Ne.symm hji]
       ·simp only[j8e,List.map_set]
        refine j9j b3 (by simpa using g4) ky (by simp) fun i=>?_
        simp only[List.getElem?_map,Array.getElem?_toList,Array.getElem?_modify]
        by_cases hji:j=i
        ·subst hji;simp[ej]
        ·simp[hji,Ne.symm hji]
       ·have st:(Instr.keyThatStays e0.key (e k)).run P w=.ok (e k) w:=by
         simp[Instr.keyThatStays,g3]
        simp only[Instr.mapUpdate,l2,Sem.run_bind,run_underlying hu,Result.andThen_ok,Go.MapKept.run_getObj_map b1,ck,f1,ej,Option.map_some,Option.getD_some,st,Go.MapKept.run_setObj_map _ b1]
     ·cases h
    ·cases h
   ·cases h
  ·cases hc
 case range t x=>
  simp only[jx7] at hc
  split at hc
  ·rename_i hu
   simp only[Option.map_eq_some_iff] at hc
   obtain⟨x',hx,rfl⟩:=hc
   have kx:=hg _ _ hx
   simp only[hop] at h
   split at h
   ·rename_i s0 hq
    rw[hq] at kx
    simp only[VR] at kx
    obtain⟨bs,k1,rfl⟩:=kx
    simp only[jm3,Option.some.injEq,Prod.mk.injEq] at h
    obtain⟨rfl,rfl,rfl⟩:=h
    have hnn:=hf nx (Nat.le_refl _) (by omega)
    have:=hr.alloc (ro:=ro) hnn (.stringIter bs 0) (.iter (bs.data.toList.map UInt8.toNat) 0) ⟨w.heap.size,0,0⟩ rfl ⟨bs,by show(w.heap.push _)[w.heap.size]?=_;simp,rfl,rfl⟩ hro
    refine .inl ⟨.pointer (some ⟨w.heap.size,0,none⟩),w.alloc (.stringIter bs 0),jcn ?_,_,this.2,this.1,?_⟩
    ·simp only[Instr.range,Sem.run_bind,run_underlying hu,Result.andThen_ok,k1,Sem.run_pure,run_newObj]
     rfl
    ·simp only[VR]
     exact⟨⟨w.heap.size,0,0⟩,by simp[RM.upd],rfl⟩
   ·cases h
  ·cases hc
 case next x b=>
  cases b
  ·simp[jx7] at hc
  simp only[jx7,Option.map_eq_some_iff] at hc
  obtain⟨x',hx,rfl⟩:=hc
  have kx:=hg _ _ hx
  simp only[hop] at h
  split at h
  ·rename_i b hq
   rw[hq] at kx
   simp only[VR] at kx
   obtain⟨lc,l1,l2⟩:=kx
   split at h
   ·rename_i s0 p0 hb
    obtain⟨bs,b1,b2,b3⟩:=hr.blk b _ lc hb l1
    subst b2
    rw[b3] at l2
    split at h
    ·rename_i c hcp
     cases hcnd:((rx ro).ble b&&c.ble 127)<;>simp only[hcnd,cond_true,cond_false] at h
     ·cases h
     ·simp only[Bool.and_eq_true,jae,decide_eq_true_eq] at hcnd
      obtain⟨c1,c2⟩:=hcnd
      simp only[jhv,jdd,Option.some.injEq,Prod.mk.injEq] at h
      obtain⟨rfl,rfl,rfl⟩:=h
      have hps:p0<bs.size:=by
       have:=(List.getElem?_eq_some_iff.1 hcp).1
       simpa using this
      have hch:(bs[p0]'hps).toNat=c:=by
       obtain⟨u,h1,h2⟩:=j1a hcp
       rw[getElem?_pos bs p0 hps] at h1
       cases h1
       exact h2
      have hws:=HR.write (nx:=nx) (w':={ w with heap:=w.heap.setIfInBounds lc.blk (.stringIter bs (p0+1)) }) hr (.iter (bs.data.toList.map UInt8.toNat) (p0+1)) lc (by rw[hb];rfl) l1 c1 rfl rfl rfl (by simp)
       (fun x hx=>by simp[Array.getElem?_setIfInBounds,Ne.symm hx]) ⟨bs,by
         have:=(Array.getElem?_eq_some_iff.1 b1).1
         simp[Array.getElem?_setIfInBounds,this],rfl,b3⟩
      refine .inl ⟨.tuple #[.bool true,.int .i64 p0,.int .i32 (bs[p0]'hps).toNat],_,jcn ?_,ρ,hws.2,hws.1,?_⟩
      ·rw[l2]
       simp only[Instr.next,getObj,setObj,Sem.run_bind,Sem.run,b1,Result.andThen,hps,if_true,decode_ascii bs p0 hps (by omega)]
       simp[goInt,Sem.run,b1]
      ·simp only[VR]
       exact⟨_,rfl,_,_,rfl,by simp[VR],_,_,rfl,by simp[VR],_,_,rfl,by simp[VR,hch],rfl⟩
    ·rename_i hcp
     simp only[Option.some.injEq,Prod.mk.injEq] at h
     obtain⟨rfl,rfl,rfl⟩:=h
     have hps:¬p0<bs.size:=by
      have:=List.getElem?_eq_none_iff.1 hcp
      simpa using this
     refine .inl ⟨.tuple #[.bool false],w,jcn ?_,Ends.same hr ?_⟩
     ·rw[l2]
      simp[Instr.next,getObj,Sem.run,b1,hps]
     ·simp only[VR]
      exact⟨_,rfl,_,_,rfl,by simp[VR],rfl⟩
   ·cases h
  ·cases h
 case call cl=>
  obtain⟨callee,args,argTypes⟩:=cl
  have bgo:∀(b:Builtin) (F:Array TypeId→TypeId→Array Value→Sem Value) (v':Value) (w':World),(∀T cs a,builtin b argTypes T cs a=(do pure (.value (←F argTypes T a)):Sem Next))→callee=.builtin b→
    (F argTypes ty (args.map e)).run P w=.ok v' w'→(execOp e ⟨dst,.call ⟨callee,args,argTypes⟩,ty,pos,after,guard⟩).run P w=.ok (.value v') w':=by
   rintro b F v' w' hF rfl h1
   simp only[execOp,resolve,Sem.run_bind,Sem.run_pure,Result.andThen_ok,invoke,hF,h1]
  unfold jx7 at hc
  split at hc<;>try (rename_i heq;cases heq;done)
  all_goals try (cases hc;done)
  ·
   rename_i a0 t0 heq
   cases heq
   split at hc
   ·rename_i x y t u us ha ht
    split at hc
    ·rename_i el hu
     have key:∀(i:TypeInfo) (zs:List AV),P.info? el=some i→jyg P el=some zs→((∃e2,P.underlying u=some (.slice e2))∨P.underlying u=some .string)→zs.length=i.size→
       (∃x' y',opd gl x=some x'∧opd gl y=some y'∧c=.app i.size i.bytes x' y')→OpEnds P e ⟨dst,.call ⟨.builtin .append,args,argTypes⟩,ty,pos,after,guard⟩ ρ H nx ro w v H' nx':=by
      rintro i zs hi hz huu hzl ⟨x',y',hx,hy,rfl⟩
      obtain⟨i',zv,h1,h2,h3⟩:=jin (ρ:=ρ) hz
      rw[hi] at h1;cases h1
      have hzc:zv.cells.size=i.size:=by have:=h3.length;simp at this;omega
      simp only[hop] at h
      split at h
      ·rename_i k0 len0 hk0 hl0
       cases hcnd:((len0+k0).ble 10000000&&i.bytes.ble 1000&& !(i.size.beq 0))<;>simp only[hcnd,cond_true,cond_false] at h
       ·cases h
       ·simp only[Bool.and_eq_true,Bool.not_eq_true',jaa,jae,decide_eq_false_iff_not,decide_eq_true_eq] at hcnd
        obtain⟨⟨c1,c2⟩,c3⟩:=hcnd
        split at h
        ·rename_i new hnew
         cases hone:new.all js3<;>simp only[hone,cond_true,cond_false] at h
         ·cases h
         ·obtain⟨v',w',r1,r2⟩:=j3b (P:=P) (ty:=ty) hu hi h2 hzc huu rfl (by omega) c2 hl0 c1 hk0 hnew hone h (hg _ _ hx) (hg _ _ hy) hr hf hro
          refine .inl ⟨v',w',bgo .append Builtin.append_ v' w' (fun _ _ _=>rfl) rfl ?_,r2⟩
          have e1:args.map e=#[e x,e y]:=by
           apply Array.ext';simp[ha]
          rw[e1]
          have e2:argTypes[0]?=some t:=by rw[←Array.getElem?_toList,ht];rfl
          have e3:argTypes[1]?=some u:=by rw[←Array.getElem?_toList,ht];rfl
          rw[←r1]
          unfold Builtin.append_
          rw[e2,e3]
          rfl
        ·cases h
      ·cases h
     split at hc
     ·rename_i i e2 zs hi huu hz
      split at hc
      ·rename_i hzl
       simp only[Option.bind_eq_bind,Option.bind_eq_some_iff,Option.some.injEq] at hc
       obtain⟨x',hx,y',hy,rfl⟩:=hc
       exact key i zs hi hz (.inl ⟨e2,huu⟩) (by simpa using hzl) ⟨x',y',hx,hy,rfl⟩
      ·cases hc
     ·rename_i i zs hi huu hz
      split at hc
      ·rename_i hzl
       simp only[Option.bind_eq_bind,Option.bind_eq_some_iff,Option.some.injEq] at hc
       obtain⟨x',hx,y',hy,rfl⟩:=hc
       exact key i zs hi hz (.inr huu) (by simpa using hzl) ⟨x',y',hx,hy,rfl⟩
      ·cases hc
     ·cases hc
    ·cases hc
   ·cases hc
  ·
   rename_i a0 t0 heq
   cases heq
   split at hc
   ·rename_i x y t us ha ht
    split at hc
    ·rename_i el hu
     simp only[Option.bind_eq_bind,Option.bind_eq_some_iff,Option.some.injEq] at hc
     obtain⟨s,hs,x',hx,y',hy,rfl⟩:=hc
     obtain⟨i,d,k1,k2,rfl⟩:=jfg hs
     have kx:=hg _ _ hx
     have ky:=hg _ _ hy
     have e1:args.map e=#[e x,e y]:=by
      apply Array.ext';simp[ha]
     have e2:argTypes[0]?=some t:=by rw[←Array.getElem?_toList,ht];rfl
     simp only[hop] at h
     split at h
     ·rename_i k0 b o len cap z hk0 hq
      rw[hq] at kx
      simp only[VR] at kx
      obtain⟨lc,c,off,l1,l2,l3,l4,l5,l6⟩:=kx
      have hlY:=jml (P:=P) w hk0 ky
      have hmin:(bif k0.ble len then k0 else len)=Nat.min k0 len:=by
       rw[jae]
       show _=min k0 len
       by_cases hkl:k0≤len
       ·simp[hkl,Nat.min_eq_left hkl]
       ·simp[hkl];omega
      rw[hmin] at h
      split at h
      ·rename_i new hnew
       obtain⟨vs,v1,v2,v3⟩:=jmk (P:=P) hnew ky hr
       have v3':=v3 w.drawn
       have v3'':(Builtin.firstCells i.size (Nat.min k0 len) (e y)).run P w=.ok vs.toArray w:=v3'
       rw[jaa] at h
       by_cases hn0:Nat.min k0 len=0
       ·simp only[hn0,decide_true,cond_true,Option.some.injEq,Prod.mk.injEq] at h
        obtain⟨rfl,rfl,rfl⟩:=h
        have hvs:vs=[]:=List.length_eq_zero_iff.1 (by rw[v2,hn0];simp)
        refine .inl ⟨goInt (0:Nat),w,bgo .copy Builtin.copy_ _ _ (fun _ _ _=>rfl) rfl ?_,Ends.same hr (by simp[VR,goInt])⟩
        rw[e1]
        simp only[Builtin.copy_,e2,List.getElem?_toArray,List.getElem?_cons_zero,List.getElem?_cons_succ,Sem.run_bind,run_underlying hu,Result.andThen_ok,l2,hlY,jbj k1,v3'',hvs]
        simp[storeCells,hn0]
       ·simp only[hn0,decide_false,cond_false] at h
        split at h
        ·rename_i ct m hb
         cases hcnd:((rx ro).ble b&&z.beq i.size&&(o+Nat.min k0 len*i.size).ble m&&new.all js3)<;>simp only[hcnd,cond_true,cond_false] at h
         ·cases h
         ·simp only[Bool.and_eq_true,jaa,jae,decide_eq_true_eq] at hcnd
          obtain⟨⟨⟨c1,c2⟩,c3⟩,c4⟩:=hcnd
          simp only[jc4,jdd,Option.some.injEq,Prod.mk.injEq] at h
          obtain⟨rfl,rfl,rfl⟩:=h
          have hoff:off=lc.base+o:=by
           have:Nat.min k0 len≤len:=Nat.min_le_right _ _
           omega
          obtain⟨w',s1,s2,s3⟩:=jpj (P:=P) (nx:=nx) (o:=o) hr hb l1 c1 v1 (by have:=v1.length;omega) c4
          refine .inl ⟨goInt (Nat.min k0 len:Nat),w',bgo .copy Builtin.copy_ _ _ (fun _ _ _=>rfl) rfl ?_,ρ,s3,s2,by simp[VR,goInt]⟩
          rw[e1]
          simp only[Builtin.copy_,e2,List.getElem?_toArray,List.getElem?_cons_zero,List.getElem?_cons_succ,Sem.run_bind,run_underlying hu,Result.andThen_ok,l2,hlY,jbj k1,v3'']
          rw[hoff]
          simp only[Sem.run_bind,s1,Result.andThen_ok,Sem.run_pure]
        ·cases h
      ·cases h
     ·rename_i k0 hk0 hq
      rw[hq] at kx
      simp only[VR] at kx
      have hlY:=jml (P:=P) w hk0 ky
      split at h
      ·rename_i new hnew
       obtain⟨vs,v1,v2,v3⟩:=jmk (P:=P) hnew ky hr
       have v3'':(Builtin.firstCells i.size 0 (e y)).run P w=.ok vs.toArray w:=v3 w.drawn
       simp only[Option.some.injEq,Prod.mk.injEq] at h
       obtain⟨rfl,rfl,rfl⟩:=h
       refine .inl ⟨goInt (0:Nat),w,bgo .copy Builtin.copy_ _ _ (fun _ _ _=>rfl) rfl ?_,Ends.same hr (by simp[VR,goInt])⟩
       rw[e1]
       have hm0:Nat.min k0 0=0:=Nat.min_zero k0
       simp only[Builtin.copy_,e2,List.getElem?_toArray,List.getElem?_cons_zero,List.getElem?_cons_succ,Sem.run_bind,run_underlying hu,Result.andThen_ok,kx,hlY,jbj k1,hm0,v3'',Sem.run_pure]
      ·cases h
     ·cases h
    ·cases hc
   ·cases hc
  ·
   rename_i f a0 t0 heq
   cases heq
   have hres:∀(s:Sem Next) (r:Result Next),(callFunc f (args.map e)).run P w=r→(execOp e ⟨dst,.call ⟨.value (.func f),args,argTypes⟩,ty,pos,after,guard⟩).run P w=r:=by
    rintro s r rfl
    simp only[execOp,resolve,hef,Deferred.ofValue,Sem.run_bind,Sem.run_pure,Result.andThen_ok,invoke]
    simp
   split at hc
   ·rename_i fn hfn
    split at hc
    ·rename_i b hb
     split at hc
     ·cases hc
     ·rename_i hname
      simp only[Option.map_eq_some_iff] at hc
      obtain⟨as,has,rfl⟩:=hc
      simp only[hop,jhw] at h
      obtain⟨h1,h2⟩:=hcall _ _ _ _ _ _ _ _ h
      have hv:=jfu hg _ _ has
      obtain⟨⟨fn',f1,f2,f3⟩,f4⟩:=h2 ρ w (args.map e) hr hf hro hgl hwf (by simpa using hv)
      exact .inr (.inr ⟨f,args.map e,hres (pure .skip) _ (jmn f1 f2 f3 _ w),f4⟩)
    ·rename_i hb
     split at hc
     ·cases hc
     ·rename_i hnext
      have hnext':Extern.findNext fn=none:=by simpa using hnext
      have fin:∀n as,opds gl args=some as→c=.xrow n as→
        ((n=0→Extern.find fn=some Extern.BytealgIndexByte.indexByte)∧(n=1→Extern.find fn=some Extern.BytealgCount.count)∧(fn.name== "runtime.NumGoroutine")=false)→
        OpEnds P e ⟨dst,.call ⟨.value (.func f),args,argTypes⟩,ty,pos,after,guard⟩ ρ H nx ro w v H' nx':=by
       rintro n as has rfl ⟨g0,g1,g2⟩
       simp only[hop] at h
       split at h
       ·rename_i v0 hv0
        simp only[Option.some.injEq,Prod.mk.injEq] at h
        obtain⟨rfl,rfl,rfl⟩:=h
        have hv:=jfu hg _ _ has
        obtain⟨v',x1,x2,x3,x4⟩:=j7u (P:=P) (w:=w) (args:=args.map e) hv0 (by simpa using hv)
        refine .inl ⟨v',w,hres (pure .skip) _ ?_,Ends.same hr x1⟩
        rcases x4 with x4 | x4
        ·rw[run_callFunc_extern hfn g2 (by simp[hb]) hnext' (g0 x4),x2 x4]
         rfl
        ·rw[run_callFunc_extern hfn g2 (by simp[hb]) hnext' (g1 x4),x3 x4]
         rfl
       ·cases h
      split at hc
      ·rename_i hname
       simp only[Option.map_eq_some_iff] at hc
       obtain⟨as,has,rfl⟩:=hc
       exact fin 0 as has rfl ⟨fun _=>j8n hname,fun h=>(by cases h),by rw[hname];decide⟩
      ·split at hc
       ·rename_i hname
        simp only[Option.map_eq_some_iff] at hc
        obtain⟨as,has,rfl⟩:=hc
        exact fin 1 as has rfl ⟨fun h=>(by cases h),fun _=>j8o hname,by rw[hname];decide⟩
       ·cases hc
   ·cases hc
  ·
   rename_i x a0 t0 hnf heq
   cases heq
   simp only[Option.bind_eq_bind,Option.bind_eq_some_iff,Option.some.injEq] at hc
   obtain⟨x',hx,as,has,rfl⟩:=hc
   have kx:=hg _ _ hx
   have hv:=jfu hg _ _ has
   simp only[hop,jhw] at h
   split at h
   ·rename_i f a b hq
    rw[hq] at kx
    simp only[VR] at kx
    obtain⟨xs,ys,l1,l2,l3⟩:=kx
    obtain⟨h1,h2⟩:=hcall _ _ _ _ _ _ _ _ h
    obtain⟨⟨fn',f1,f2,f3⟩,f4⟩:=h2 ρ w (xs++args.map e++ys) hr hf hro hgl hwf (by simpa using (l2.append hv).append l3)
    refine .inr (.inr ⟨f,xs++args.map e++ys,?_,f4⟩)
    simp only[execOp,resolve,l1,Deferred.ofValue,Sem.run_bind,Sem.run_pure,Result.andThen_ok,invoke]
    exact jmn f1 f2 f3 _ w
   ·cases h
 all_goals (simp[jx7] at hc)
end
end Go.Vm
