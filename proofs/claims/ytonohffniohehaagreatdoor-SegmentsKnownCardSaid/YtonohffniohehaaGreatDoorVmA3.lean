/-
  Equality of two values of a type all of whose cells are numbers, bools and strings.
  The operations that only compute: all of them.
-/
import Derived.Test.YtonohffniohehaaGreatDoorVmA2
set_option linter.unusedSimpArgs false
set_option linter.unusedVariables false
set_option linter.unusedSectionVars false
set_option linter.unnecessarySimpa false
namespace Go.Vm
section
variable {P:Program} {gl:List Nat} {ρ:RM}
def jn8 (d:TypeDesc) (vs:List Value):Value:=if jgy d then .agg vs.toArray else vs.headD undef
theorem jpi:∀(k k':List Nat) (a a' b b':List AV),k.length=a.length→a.length=b.length→jog (k++k') (a++a') (b++b')=match jog k a b with
  | some true=>jog k' a' b'
  | some false=>some false
  | none=>none
 | [],k',[],a',[],b',_,_=>by simp[jog]
 | x::k,k',y::a,a',z::b,b',h,h'=>by
   simp only[List.cons_append,jog]
   cases ceq x y z with
   | none=>rfl
   | some r=>cases r with
     | true=>exact jpi k k' a a' b b' (by simpa using h) (by simpa using h')
     | false=>rfl
 | _::_,_,[],_,_,_,h,_=>by simp at h
 | [],_,_::_,_,_,_,h,_=>by simp at h
 | _,_,[],_,_::_,_,_,h=>by simp at h
 | _,_,_::_,_,[],_,_,h=>by simp at h
theorem jkj {t:TypeId} {i:TypeInfo} {d:TypeDesc} (w:World) (h1:P.info? t=some i) (h2:P.underlying t=some d) (cs:Array Value) (off:Nat) (hb:off+i.size≤cs.size) (hs:jgy d=false→i.size=1):
  (part t cs off).run P w=.ok (jn8 d ((cs.toList.drop off).take i.size)) w:=by
 simp only[part,Sem.run_bind,jio h2,Result.andThen_ok]
 unfold jn8
 cases hd:jgy d
 ·have h3:=hs hd
  have h4:cs[off]?=some cs[off]:=by rw[Array.getElem?_eq_getElem (by omega)]
  simp only[Bool.false_eq_true,if_false,h4,Sem.run_pure,h3]
  congr 1
  rw[List.drop_eq_getElem_cons (by simp;omega)]
  simp
 ·simp only[if_true,Sem.run_bind,jbj h1,Result.andThen_ok,Sem.run_pure]
  congr 2
  apply Array.ext'
  simp[Array.toList_extract,List.extract]
theorem jnz {d:Nat} {t:TypeId} {ks:List Nat} (h:flat P d t=some ks):∃i dd,P.info? t=some i∧P.underlying t=some dd∧(jgy dd=false→i.size=1):=by
 cases d with
 | zero=>simp[flat] at h
 | succ d=>
   unfold flat at h
   split at h
   ·rename_i i h1 h2;exact⟨i,_,h1,h2,fun _=>by split at h<;>simp_all⟩
   ·rename_i i k h1 h2;exact⟨i,_,h1,h2,fun _=>by split at h<;>simp_all⟩
   ·rename_i i h1 h2;exact⟨i,_,h1,h2,fun _=>by split at h<;>simp_all⟩
   ·rename_i i fs h1 h2;exact⟨i,_,h1,h2,fun hd=>by simp[jgy] at hd⟩
   ·rename_i i n e h1 h2;exact⟨i,_,h1,h2,fun hd=>by simp[jgy] at hd⟩
   ·cases h
theorem j6z:∀(d:Nat) (t:TypeId) (ks:List Nat) (i:TypeInfo),flat P d t=some ks→P.info? t=some i→ks.length=i.size:=by
 intro d
 induction d with
 | zero=>intro t ks i h;simp[flat] at h
 | succ d ih=>
   intro t ks i h hi
   unfold flat at h
   split at h
   ·rename_i j h1 h2
    rw[hi] at h1;cases h1
    split at h
    ·rename_i hs;cases h;simp at hs;simp[hs]
    ·cases h
   ·rename_i j k h1 h2
    rw[hi] at h1;cases h1
    split at h
    ·rename_i hs;cases h;simp at hs;simp[hs]
    ·cases h
   ·rename_i j h1 h2
    rw[hi] at h1;cases h1
    split at h
    ·rename_i hs;cases h;simp at hs;simp[hs]
    ·cases h
   ·rename_i j fs h1 h2
    rw[hi] at h1;cases h1
    split at h
    ·cases h
    have key:∀(fl:List Field) (o:Nat) (m:List Nat),jh9 P (flat P d) fl o i.size=some m→o+m.length=i.size:=by
     intro fl
     induction fl with
     | nil=>
       intro o m ho
       simp only[jh9] at ho
       split at ho
       ·rename_i h5;cases ho;simpa using h5
       ·cases ho
     | cons f fl ih3=>
       intro o m ho
       simp only[jh9] at ho
       split at ho
       ·split at ho
        ·rename_i l m' h5 h6
         split at ho
         ·rename_i h7
          cases ho
          have:=ih3 _ _ h6
          have h8:l.length=P.cellsOf f.type:=by simpa using h7
          simp only[List.length_append]
          omega
         ·cases ho
        ·cases ho
       ·cases ho
    have:=key _ _ _ h
    omega
   ·rename_i j n e h1 h2
    rw[hi] at h1;cases h1
    split at h
    ·split at h
     ·rename_i l hl hs
      simp only[Bool.and_eq_true,beq_iff_eq] at hs
      cases h
      simp[hs.1,hs.2]
     ·cases h
    ·cases h
   ·cases h
theorem jxv:∀(d:Nat) (t:TypeId) (D:Nat) (i:TypeInfo) (dd:TypeDesc) (ks:List Nat) (la lb:List AV) (vs us:List Value) (r:Bool) (w:World),flat P d t=some ks→d≤D→
  P.info? t=some i→P.underlying t=some dd→VRs ρ la vs→VRs ρ lb us→la.length=i.size→lb.length=i.size→jog ks la lb=some r→
  (Op.equalIn D t (jn8 dd vs) (jn8 dd us)).run P w=.ok r w:=by
 intro d
 induction d with
 | zero=>intro t D i dd ks la lb vs us r w h;simp[flat] at h
 | succ d ih=>
   intro t D i dd ks la lb vs us r w h hD hi hu ha hb l1 l2 hr
   obtain⟨D,rfl⟩:∃D',D=D'+1:=⟨D-1,by omega⟩
   have one:∀(k:Nat) (hs:i.size=1) (hk:ks=[k]),∃a b v u,la=[a]∧lb=[b]∧vs=[v]∧us=[u]∧VR ρ a v∧VR ρ b u∧ceq k a b=some r:=by
    intro k hs hk
    rw[hs] at l1 l2
    subst hk
    obtain⟨a,rfl⟩:=List.length_eq_one_iff.1 l1
    obtain⟨b,rfl⟩:=List.length_eq_one_iff.1 l2
    simp only[VRs] at ha hb
    obtain⟨v,_,rfl,h3,rfl⟩:=ha
    obtain⟨u,_,rfl,h4,rfl⟩:=hb
    refine⟨a,b,v,u,rfl,rfl,rfl,rfl,h3,h4,?_⟩
    simp only[jog] at hr
    split at hr<;>simp_all
   unfold flat at h
   split at h
   ·rename_i j h1 h2
    rw[hi] at h1;cases h1
    rw[hu] at h2;cases h2
    split at h
    ·rename_i hs
     obtain⟨a,b,v,u,rfl,rfl,rfl,rfl,h3,h4,h5⟩:=one 0 (by simpa using hs) (by simpa using h.symm)
     unfold ceq at h5
     split at h5<;>try (first | (cases h5;done) | omega)
     simp only[VR] at h3 h4
     subst h3;subst h4
     cases h5
     simp[jn8,jgy,Op.equalIn,run_underlying hu]
    ·cases h
   ·rename_i j k h1 h2
    rw[hi] at h1;cases h1
    rw[hu] at h2;cases h2
    split at h
    ·rename_i hs
     obtain⟨a,b,v,u,rfl,rfl,rfl,rfl,h3,h4,h5⟩:=one 1 (by simpa using hs) (by simpa using h.symm)
     unfold ceq at h5
     split at h5<;>try (first | (cases h5;done) | omega)
     rename_i k1 a k2 b _
     simp only[VR] at h3 h4
     subst h3;subst h4
     cases hk:keq k1 k2<;>simp only[hk,cond_true,cond_false] at h5
     ·cases h5
     ·have:=jha.1 hk
      subst this
      cases h5
      simp[jn8,jgy,Op.equalIn,run_underlying hu,jsx]
    ·cases h
   ·rename_i j h1 h2
    rw[hi] at h1;cases h1
    rw[hu] at h2;cases h2
    split at h
    ·rename_i hs
     obtain⟨a,b,v,u,rfl,rfl,rfl,rfl,h3,h4,h5⟩:=one 2 (by simpa using hs) (by simpa using h.symm)
     unfold ceq at h5
     split at h5<;>try (first | (cases h5;done) | omega)
     simp only[VR] at h3 h4
     obtain⟨x,rfl,rfl⟩:=h3
     obtain⟨y,rfl,rfl⟩:=h4
     cases h5
     rw[jr0]
     simp[jn8,jgy,run_equalIn_string w D t x y hu,ByteArray.toList_eq]
    ·cases h
   ·rename_i j fs h1 h2
    rw[hi] at h1;cases h1
    rw[hu] at h2;cases h2
    split at h
    ·cases h
    rename_i hst
    have hst:P.stoodInHeld t=false:=by simpa using hst
    simp only[jn8,jgy,if_true]
    have hf:P.fieldsOf t=fs:=by simp[Program.fieldsOf,hu]
    rw[run_equalIn_struct w D t _ _ (by rw[hf];exact hu) hst,hf]
    have mono:∀(fl:List Field) (o:Nat) (m:List Nat),jh9 P (flat P d) fl o i.size=some m→o≤i.size:=by
     intro fl
     induction fl with
     | nil=>intro o m ho;simp only[jh9] at ho;split at ho<;>simp_all
     | cons f fl ih3=>
       intro o m ho
       simp only[jh9] at ho
       split at ho
       ·split at ho
        ·rename_i h5 h6;have:=ih3 _ _ h6;omega
        ·cases ho
       ·cases ho
    have key:∀(fl:List Field) (off:Nat) (m:List Nat),jh9 P (flat P d) fl off i.size=some m→∀r,jog m (la.drop off) (lb.drop off)=some r→
      (Op.eqFields D vs.toArray us.toArray fl).run P w=.ok r w:=by
     intro fl
     induction fl with
     | nil=>
       intro off m hg r hr
       simp only[jh9] at hg
       split at hg
       ·rename_i ho
        have ho:off=i.size:=by simpa using ho
        cases hg
        rw[List.drop_eq_nil_of_le (by omega),List.drop_eq_nil_of_le (by omega)] at hr
        simp only[jog,Option.some.injEq] at hr
        subst hr
        rfl
       ·cases hg
     | cons f fl ih2=>
       intro off m hg r hr
       simp only[jh9] at hg
       split at hg
       ·rename_i hno
        simp only[Bool.and_eq_true,bne_iff_ne,beq_iff_eq] at hno
        obtain⟨hn,hoff⟩:=hno
        split at hg
        ·rename_i l m' hfl hgo
         split at hg
         ·rename_i hll
          cases hg
          obtain⟨j,jd,k1,k2,k3⟩:=jnz hfl
          have hsz:P.cellsOf f.type=j.size:=by simp[Program.cellsOf,k1]
          rw[hsz] at hgo hll
          have hll:l.length=j.size:=by simpa using hll
          have hle:off+j.size≤i.size:=mono _ _ _ hgo
          have va:=(ha.drop off).take j.size
          have vb:=(hb.drop off).take j.size
          have e1:=jkj (P:=P) w k1 k2 vs.toArray f.offset (by simp;have:=ha.length;omega) k3
          have e2:=jkj (P:=P) w k1 k2 us.toArray f.offset (by simp;have:=hb.length;omega) k3
          rw[hoff] at e1 e2
          have sp:∀(l:List AV),l.drop off=(l.drop off).take j.size++l.drop (off+j.size):=fun l=>by
           rw[←List.drop_drop,List.take_append_drop]
          rw[sp la,sp lb,jpi _ _ _ _ _ _ (by simp;omega) (by simp;omega)] at hr
          simp only[Op.eqFields,hn,ne_eq,not_false_eq_true,if_true,Sem.run_bind,hoff,e1,e2,Result.andThen_ok]
          split at hr
          ·rename_i hc
           rw[ih f.type D j jd _ _ _ _ _ true w hfl (by omega) k1 k2 va vb (by simp;omega) (by simp;omega) hc]
           simp only[Result.andThen_ok,Bool.not_true,Bool.false_eq_true,if_false]
           exact ih2 (off+j.size) _ hgo r hr
          ·rename_i hc
           cases hr
           rw[ih f.type D j jd _ _ _ _ _ false w hfl (by omega) k1 k2 va vb (by simp;omega) (by simp;omega) hc]
           simp
          ·cases hr
         ·cases hg
        ·cases hg
       ·cases hg
    exact key fs.toList 0 ks h r (by simpa using hr)
   ·rename_i j n e h1 h2
    rw[hi] at h1;cases h1
    rw[hu] at h2;cases h2
    split at h
    ·rename_i l hfl
     split at h
     ·rename_i hsz
      simp only[Bool.and_eq_true,beq_iff_eq] at hsz
      obtain⟨hsz1,hll⟩:=hsz
      cases h
      obtain⟨j,jd,k1,k2,k3⟩:=jnz hfl
      have hsz:P.cellsOf e=j.size:=by simp[Program.cellsOf,k1]
      simp only[jn8,jgy,if_true]
      rw[run_equalIn_array w D _ _ hu k1,hsz]
      rw[hsz] at hsz1 hll
      have hr0:=hr
      clear hr
      have key:∀(m k:Nat),k+m=n→∀r,jog (List.replicate m l).flatten (la.drop (k*j.size)) (lb.drop (k*j.size))=some r→
        (Op.eqItems D e j.size vs.toArray us.toArray (List.range' k m)).run P w=.ok r w:=by
       intro m
       induction m with
       | zero=>
         intro k hk r hr
         have:k=n:=by omega
         subst this
         rw[List.drop_eq_nil_of_le (by omega),List.drop_eq_nil_of_le (by omega)] at hr
         simp only[List.replicate_zero,List.flatten_nil,jog,Option.some.injEq] at hr
         subst hr
         rfl
       | succ m ih2=>
         intro k hk r hr
         have hle:k*j.size+j.size≤i.size:=by
          rw[hsz1,←Nat.succ_mul]
          exact Nat.mul_le_mul_right _ (by omega)
         have va:=(ha.drop (k*j.size)).take j.size
         have vb:=(hb.drop (k*j.size)).take j.size
         have e1:=jkj (P:=P) w k1 k2 vs.toArray (k*j.size) (by simp;have:=ha.length;omega) k3
         have e2:=jkj (P:=P) w k1 k2 us.toArray (k*j.size) (by simp;have:=hb.length;omega) k3
         have sp:∀(l:List AV),l.drop (k*j.size)=(l.drop (k*j.size)).take j.size++l.drop ((k+1)*j.size):=fun l=>by
          rw[Nat.succ_mul,←List.drop_drop,List.take_append_drop]
         rw[sp la,sp lb,List.replicate_succ,List.flatten_cons,jpi _ _ _ _ _ _ (by simp;omega) (by simp;omega)] at hr
         rw[List.range'_succ]
         simp only[Op.eqItems,Sem.run_bind,e1,e2,Result.andThen_ok]
         split at hr
         ·rename_i hc
          rw[ih e D j jd _ _ _ _ _ true w hfl (by omega) k1 k2 va vb (by simp;omega) (by simp;omega) hc]
          simp only[Result.andThen_ok,Bool.not_true,Bool.false_eq_true,if_false]
          exact ih2 (k+1) (by omega) r hr
         ·rename_i hc
          cases hr
          rw[ih e D j jd _ _ _ _ _ false w hfl (by omega) k1 k2 va vb (by simp;omega) (by simp;omega) hc]
          simp
         ·cases hr
      have:=key n 0 (by omega) r (by simpa using hr0)
      rwa[←List.range_eq_range'] at this
     ·cases h
    ·cases h
   ·cases h
end
end Go.Vm
namespace Go.Vm
section
variable {P:Program} {gl:List Nat} {ρ:RM} {g:Opd→AV} {e:Operand→Value}
theorem jhc (b o n:Nat):(⟨b,o,none⟩:Addr).add n=⟨b,o+n,none⟩:=by
 unfold Addr.add
 split
 ·subst n;rfl
 ·rfl
theorem jxs {k:IntKind} {i:Nat} {v:Value} (h:VR ρ (.int k (.ofNat i)) v):v=.int k (i:Int):=by simpa[VR] using h
def j17 (P:Program) (t:TypeId) (x y:Operand):Nat→Prop
 | 0=>(∃ms,P.underlying t=some (.interface ms))∧(isC x||isC y)=true
 | 1=>∃n,P.underlying t=some (.pointer n)
 | 2=>∃n,P.underlying t=some (.slice n)
 | _=>∃p q n,P.underlying t=some (.func p q n)
theorem j8y {kd:Nat} {a b:AV} {x y:Value} {r:Bool} {op:BinOp} {t:TypeId} {x' y':Operand} (w:World) (h:j80 kd a b=some r) (ha:VR ρ a x) (hb:VR ρ b y)
  (ht:j17 P t x' y' kd):(eqGuard op t x' y' x y).run P w=.ok () w:=by
 unfold j80 at h
 split at h<;>(try simp only[VR] at ha hb)
 all_goals try (cases h;done)
 all_goals first
  | (subst ha;subst hb;cases op<;>simp[eqGuard];done)
  | (subst ha;subst hb;obtain⟨_,hm⟩:=ht;cases x'<;>cases y'<;>first | (cases op<;>simp[eqGuard];done) | (exfalso;simp[isC] at hm;done))
  | (obtain⟨_,rfl,_⟩:=ha;subst hb;cases op<;>simp[eqGuard];done)
  | (obtain⟨_,rfl,_⟩:=hb;subst ha;cases op<;>simp[eqGuard];done)
  | (obtain⟨_,_,rfl⟩:=ha;subst hb;cases op<;>simp[eqGuard];done)
  | (obtain⟨_,_,rfl⟩:=hb;subst ha;cases op<;>simp[eqGuard];done)
  | (obtain⟨_,_,rfl,_⟩:=ha;subst hb;cases op<;>simp[eqGuard];done)
  | (obtain⟨_,_,rfl,_⟩:=hb;subst ha;cases op<;>simp[eqGuard];done)
  | (obtain⟨_,_,_,_,rfl,_⟩:=ha;subst hb;cases op<;>simp[eqGuard];done)
  | (obtain⟨_,_,_,_,rfl,_⟩:=hb;subst ha;cases op<;>simp[eqGuard];done)
theorem j8z {kd:Nat} {a b:AV} {x y:Value} {r:Bool} {t:TypeId} {x' y':Operand} (D:Nat) (w:World) (h:j80 kd a b=some r) (ha:VR ρ a x) (hb:VR ρ b y)
  (ht:j17 P t x' y' kd):(Op.equalIn (D+1) t x y).run P w=.ok r w:=by
 unfold Op.equalIn
 unfold j80 at h
 split at h<;>(try simp only[VR] at ha hb)<;>(try simp only[j17] at ht)
 all_goals try (cases h;done)
 all_goals cases h
 ·obtain⟨⟨ms,hu⟩,_⟩:=ht
  subst ha;subst hb
  simp[run_underlying hu]
 ·obtain⟨ms,hu⟩:=ht
  subst ha;subst hb
  simp[run_underlying hu]
 ·obtain⟨ms,hu⟩:=ht
  subst ha;subst hb
  simp[run_underlying hu]
 ·obtain⟨p,q,n,hu⟩:=ht
  subst ha;subst hb
  simp[run_underlying hu]
 ·obtain⟨⟨ms,hu⟩,_⟩:=ht
  obtain⟨_,rfl,_⟩:=hb
  subst ha
  simp[run_underlying hu]
 ·obtain⟨⟨ms,hu⟩,_⟩:=ht
  obtain⟨_,rfl,_⟩:=ha
  subst hb
  simp[run_underlying hu]
 ·obtain⟨ms,hu⟩:=ht
  obtain⟨_,_,rfl⟩:=hb
  subst ha
  simp[run_underlying hu]
 ·obtain⟨ms,hu⟩:=ht
  obtain⟨_,_,rfl⟩:=ha
  subst hb
  simp[run_underlying hu]
 ·obtain⟨ms,hu⟩:=ht
  obtain⟨_,_,_,_,rfl,_⟩:=hb
  subst ha
  simp[run_underlying hu]
 ·obtain⟨ms,hu⟩:=ht
  obtain⟨_,_,_,_,rfl,_⟩:=ha
  subst hb
  simp[run_underlying hu]
 ·obtain⟨p,q,n,hu⟩:=ht
  obtain⟨_,_,rfl,_⟩:=hb
  subst ha
  simp[run_underlying hu]
 ·obtain⟨p,q,n,hu⟩:=ht
  obtain⟨_,_,rfl,_⟩:=ha
  subst hb
  simp[run_underlying hu]
theorem j4c {op:BinOp} {t:TypeId} {x y:Value} {r:Bool} (w:World) (hop:op=.eql∨op=.neq) (h:(Op.equal t x y).run P w=.ok r w)
  (hx:∀k n,x≠ .int k n) (hx2:∀k n,x≠ .float k n) (hx3:∀k n m,x≠ .complex k n m) (hx4:∀s,x≠ .string s):
  (binOp op t x y).run P w=.ok (.bool ((jqz op) ^^ r)) w:=by
 rcases hop with rfl | rfl
 ·have:binOp .eql t x y=(do pure (.bool (←Op.equal t x y)):Sem Value):=by
   cases x<;>first | (exact absurd rfl (hx _ _)) | (exact absurd rfl (hx2 _ _)) | (exact absurd rfl (hx3 _ _ _)) | (exact absurd rfl (hx4 _)) | (cases y<;>rfl)
  rw[this]
  simp[h,jqz]
 ·have:binOp .neq t x y=(do pure (.bool (!(←Op.equal t x y))):Sem Value):=by
   cases x<;>first | (exact absurd rfl (hx _ _)) | (exact absurd rfl (hx2 _ _)) | (exact absurd rfl (hx3 _ _ _)) | (exact absurd rfl (hx4 _)) | (cases y<;>rfl)
  rw[this]
  simp[h,jqz]
theorem j8x {kd:Nat} {a b:AV} {x y:Value} {r:Bool} {op:BinOp} {t:TypeId} {x' y':Operand} (w:World) (h:j80 kd a b=some r) (ha:VR ρ a x) (hb:VR ρ b y)
  (ht:j17 P t x' y' kd) (hop:op=.eql∨op=.neq):
  (do eqGuard op t x' y' x y;binOp op t x y:Sem Value).run P w=.ok (.bool ((jqz op) ^^ r)) w:=by
 simp only[Sem.run_bind,j8y w h ha hb ht,Result.andThen_ok]
 have nx:(∀k n,x≠ .int k n)∧(∀k n,x≠ .float k n)∧(∀k n m,x≠ .complex k n m)∧(∀s,x≠ .string s):=by
  unfold j80 at h
  split at h<;>(try simp only[VR] at ha)
  all_goals try (cases h;done)
  all_goals first
   | (subst ha;simp;done)
   | (obtain⟨_,rfl,_⟩:=ha;simp;done)
   | (obtain⟨_,_,rfl⟩:=ha;simp;done)
   | (obtain⟨_,_,rfl,_⟩:=ha;simp;done)
   | (obtain⟨_,_,_,_,rfl,_⟩:=ha;simp;done)
 exact j4c w hop (j8z 9999 w h ha hb ht) nx.1 nx.2.1 nx.2.2.1 nx.2.2.2
theorem jcn {s:Sem Value} {v:Value} {w w':World} (h:s.run P w=.ok v w'):(do pure (.value (←s)):Sem Next).run P w=.ok (.value v) w':=by
 simp[h]
theorem jya:∀(l:List AV) (vs:List Value) (a r:AV) (v:Value) (w:World),ki9 a l=some r→VR ρ a v→VRs ρ l vs→
  ∃u,(vs.foldlM Builtin.min2 v).run P w=.ok u w∧VR ρ r u
 | [],vs,a,r,v,w,h,ha,hl=>by
   simp only[ki9,Option.some.injEq] at h
   simp only[VRs] at hl
   subst h;subst hl
   exact⟨v,rfl,ha⟩
 | b::l,vs,a,r,v,w,h,ha,hl=>by
   unfold ki9 at h
   split at h
   ·rename_i heq;cases heq
   ·rename_i k x k2 y l' heq
    cases heq
    simp only[VRs] at hl
    obtain⟨u,vs',rfl,h1,h2⟩:=hl
    simp only[VR] at ha h1
    subst ha;subst h1
    have e1:(Builtin.min2 (.int k x) (.int k2 y)).run P w=.ok (.int k (bif ile x y then x else y)) w:=by
     simp only[Builtin.min2,Sem.run_pure,jm9]
     congr 2
     by_cases hxy:x≤y
     ·simp[hxy,show ¬y<x by omega]
     ·simp[hxy,show y<x by omega]
    obtain⟨u,h3,h4⟩:=jya l vs' _ r (.int k (bif ile x y then x else y)) w h (by simp[VR]) h2
    exact⟨u,by simp only[List.foldlM_cons,Sem.run_bind,e1,Result.andThen_ok,h3],h4⟩
   ·cases h
theorem jyb:∀(l:List AV) (vs:List Value) (a r:AV) (v:Value) (w:World),kja a l=some r→VR ρ a v→VRs ρ l vs→
  ∃u,(vs.foldlM Builtin.max2 v).run P w=.ok u w∧VR ρ r u
 | [],vs,a,r,v,w,h,ha,hl=>by
   simp only[kja,Option.some.injEq] at h
   simp only[VRs] at hl
   subst h;subst hl
   exact⟨v,rfl,ha⟩
 | b::l,vs,a,r,v,w,h,ha,hl=>by
   unfold kja at h
   split at h
   ·rename_i heq;cases heq
   ·rename_i k x k2 y l' heq
    cases heq
    simp only[VRs] at hl
    obtain⟨u,vs',rfl,h1,h2⟩:=hl
    simp only[VR] at ha h1
    subst ha;subst h1
    have e1:(Builtin.max2 (.int k x) (.int k2 y)).run P w=.ok (.int k (bif ile y x then x else y)) w:=by
     simp only[Builtin.max2,Sem.run_pure,jm9]
     congr 2
     by_cases hxy:y≤x
     ·simp[hxy,show ¬y > x by omega]
     ·simp[hxy,show y > x by omega]
    obtain⟨u,h3,h4⟩:=jyb l vs' _ r (.int k (bif ile y x then x else y)) w h (by simp[VR]) h2
    exact⟨u,by simp only[List.foldlM_cons,Sem.run_bind,e1,Result.andThen_ok,h3],h4⟩
   ·cases h
end
end Go.Vm
