/- Parts of the proof. -/
import Derived.Test.YtccefhabickfiaaGreatDoorVmA1
set_option linter.unusedSimpArgs false
set_option linter.defProp false
set_option linter.unusedVariables false
namespace Go.Vm
section
variable {P:Program} {gl:List Nat} {ρ:RM}
def mW (d:TypeDesc) (vs:List Value):Value:=if lI d then .agg vs.toArray else vs.headD undef
def Yz:∀(k k':List Nat) (a a' b b':List AV),k.length=a.length->a.length=b.length->fJ (k++k') (a++a') (b++b')=match fJ k a b with
  | some true=>fJ k' a' b'
  | some false=>some false
  | none=>none
 | [],k',[],a',[],b',_,_=>by simp[fJ]
 | x::k,k',y::a,a',z::b,b',h,h'=>by
   simp only[eW,fJ];cases kP x y z with
   | none=>rfl
   | some r=>cases r with
     | true=>exact Yz k k' a a' b b' (by simpa using h) (by simpa using h')
     | false=>rfl
 | _::_,_,[],_,_,_,h,_=>by simp at h
 | [],_,_::_,_,_,_,h,_=>by simp at h
 | _,_,[],_,_::_,_,_,h=>by simp at h
 | _,_,_::_,_,[],_,_,h=>by simp at h
def Fj {t:TypeId} {i:TypeInfo} {d:TypeDesc} (w:World) (h1:P.info? t=some i) (h2:P.underlying t=some d) (cs:Array Value) (off:Nat) (hb:off+i.size<=cs.size) (hs:lI d=false->i.size=1):
  (part t cs off).run P w=.ok (mW d ((cs.toList.drop off).take i.size)) w:=by
 simp only[part,cQ,Gm h2,cJ];unfold mW;cases hd:lI d
 ·have h3:=hs hd;have h4:cs[off]?=some cs[off]:=by rw[mA (by omega)]
  simp only[fX,cO,h4,dI,h3]
  congr 1
  rw[mB (by simp;omega)];simp
 ·simp only[bR,cQ,iM h1,cJ,dI]
  congr 2
  apply uA;simp[Sy,List.extract]
def Dt {d:Nat} {t:TypeId} {ks:List Nat} (h:flat P d t=some ks):∃i dd,P.info? t=some i/\P.underlying t=some dd/\(lI dd=false->i.size=1):=by
 cases d with
 | zero=>simp[flat] at h
 | succ d=>
   unfold flat at h;split at h
   ·rename_i i h1 h2;exact⟨i,_,h1,h2,λ_=>by split at h<;>simp_all⟩
   ·rename_i i k h1 h2;exact⟨i,_,h1,h2,λ_=>by split at h<;>simp_all⟩
   ·rename_i i h1 h2;exact⟨i,_,h1,h2,λ_=>by split at h<;>simp_all⟩
   ·rename_i i fs h1 h2;exact⟨i,_,h1,h2,λhd=>by simp[lI] at hd⟩
   ·rename_i i n e h1 h2;exact⟨i,_,h1,h2,λhd=>by simp[lI] at hd⟩
   ·cases h
def jjx:∀(d:Nat) (t:TypeId) (ks:List Nat) (i:TypeInfo),flat P d t=some ks->P.info? t=some i->ks.length=i.size:=by
 intro d;induction d with
 | zero=>intro t ks i h;simp[flat] at h
 | succ d ih=>
   intro t ks i h hi;unfold flat at h;split at h
   ·rename_i j h1 h2;rw[hi] at h1;cases h1;split at h
    ·rename_i hs;cases h;simp at hs;simp[hs]
    ·cases h
   ·rename_i j k h1 h2;rw[hi] at h1;cases h1;split at h
    ·rename_i hs;cases h;simp at hs;simp[hs]
    ·cases h
   ·rename_i j h1 h2;rw[hi] at h1;cases h1;split at h
    ·rename_i hs;cases h;simp at hs;simp[hs]
    ·cases h
   ·rename_i j fs h1 h2;rw[hi] at h1;cases h1;split at h
    ·cases h
    have key:∀(fl:List Field) (o:Nat) (m:List Nat),mO P (flat P d) fl o i.size=some m->o+m.length=i.size:=by
     intro fl;induction fl with
     | nil=>
       intro o m ho;simp only[mO] at ho;split at ho
       ·rename_i h5;cases ho;simpa using h5
       ·cases ho
     | cons f fl ih3=>
       intro o m ho;simp only[mO] at ho;split at ho
       ·split at ho
        ·rename_i l m' h5 h6;split at ho
         ·rename_i h7;cases ho;have:=ih3 _ _ h6;have h8:l.length=P.cellsOf f.type:=by simpa using h7
          simp only[dS];omega
         ·cases ho
        ·cases ho
       ·cases ho
    have:=key _ _ _ h;omega
   ·rename_i j n e h1 h2;rw[hi] at h1;cases h1;split at h
    ·split at h
     ·rename_i l hl hs;simp only[aN,beq_iff_eq] at hs;cases h;simp[hs.1,hs.2]
     ·cases h
    ·cases h
   ·cases h
def jjz:∀(d:Nat) (t:TypeId) (D:Nat) (i:TypeInfo) (dd:TypeDesc) (ks:List Nat) (la lb:List AV) (vs us:List Value) (r:Bool) (w:World),flat P d t=some ks->d<=D->
  P.info? t=some i->P.underlying t=some dd->VRs ρ la vs->VRs ρ lb us->la.length=i.size->lb.length=i.size->fJ ks la lb=some r->
  (Op.equalIn D t (mW dd vs) (mW dd us)).run P w=.ok r w:=by
 intro d;induction d with
 | zero=>intro t D i dd ks la lb vs us r w h;simp[flat] at h
 | succ d ih=>
   intro t D i dd ks la lb vs us r w h hD hi hu ha hb l1 l2 hr;obtain⟨D,rfl⟩:∃D',D=D'+1:=⟨D-1,by omega⟩
   have one:∀(k:Nat) (hs:i.size=1) (hk:ks=[k]),∃a b v u,la=[a]/\lb=[b]/\vs=[v]/\us=[u]/\VR ρ a v/\VR ρ b u/\kP k a b=some r:=by
    intro k hs hk;rw[hs] at l1 l2;subst hk;obtain⟨a,rfl⟩:=qff.1 l1;obtain⟨b,rfl⟩:=qff.1 l2;simp only[VRs] at ha hb;obtain⟨v,_,rfl,h3,rfl⟩:=ha;obtain⟨u,_,rfl,h4,rfl⟩:=hb;refine⟨a,b,v,u,rfl,rfl,rfl,rfl,h3,h4,?_⟩;simp only[fJ] at hr;split at hr<;>simp_all
   unfold flat at h;split at h
   ·rename_i j h1 h2;rw[hi] at h1;cases h1;rw[hu] at h2;cases h2;split at h
    ·rename_i hs;obtain⟨a,b,v,u,rfl,rfl,rfl,rfl,h3,h4,h5⟩:=one 0 (by simpa using hs) (by simpa using h.symm);unfold kP at h5;split at h5<;>try (first | (cases h5;done) | omega)
     simp only[VR] at h3 h4;subst h3;subst h4;cases h5;simp[mW,lI,Op.equalIn,run_underlying hu]
    ·cases h
   ·rename_i j k h1 h2;rw[hi] at h1;cases h1;rw[hu] at h2;cases h2;split at h
    ·rename_i hs;obtain⟨a,b,v,u,rfl,rfl,rfl,rfl,h3,h4,h5⟩:=one 1 (by simpa using hs) (by simpa using h.symm);unfold kP at h5;split at h5<;>try (first | (cases h5;done) | omega)
     rename_i k1 a k2 b _;simp only[VR] at h3 h4;subst h3;subst h4;cases hk:jO k1 k2<;>simp only[hk,aB,aF] at h5
     ·cases h5
     ·have:=pH.1 hk;subst this;cases h5;simp[mW,lI,Op.equalIn,run_underlying hu,xG]
    ·cases h
   ·rename_i j h1 h2;rw[hi] at h1;cases h1;rw[hu] at h2;cases h2;split at h
    ·rename_i hs;obtain⟨a,b,v,u,rfl,rfl,rfl,rfl,h3,h4,h5⟩:=one 2 (by simpa using hs) (by simpa using h.symm);unfold kP at h5;split at h5<;>try (first | (cases h5;done) | omega)
     simp only[VR] at h3 h4;obtain⟨x,rfl,rfl⟩:=h3;obtain⟨y,rfl,rfl⟩:=h4;cases h5;rw[jbg];simp[mW,lI,run_equalIn_string w D t x y hu,qfx]
    ·cases h
   ·rename_i j fs h1 h2;rw[hi] at h1;cases h1;rw[hu] at h2;cases h2;split at h
    ·cases h
    rename_i hst;have hst:P.stoodInHeld t=false:=by simpa using hst
    simp only[mW,lI,bR];have hf:P.fieldsOf t=fs:=by simp[Program.fieldsOf,hu]
    rw[run_equalIn_struct w D t _ _ (by rw[hf];exact hu) hst,hf];have mono:∀(fl:List Field) (o:Nat) (m:List Nat),mO P (flat P d) fl o i.size=some m->o<=i.size:=by
     intro fl;induction fl with
     | nil=>intro o m ho;simp only[mO] at ho;split at ho<;>simp_all
     | cons f fl ih3=>
       intro o m ho;simp only[mO] at ho;split at ho
       ·split at ho
        ·rename_i h5 h6;have:=ih3 _ _ h6;omega
        ·cases ho
       ·cases ho
    have key:∀(fl:List Field) (off:Nat) (m:List Nat),mO P (flat P d) fl off i.size=some m->∀r,fJ m (la.drop off) (lb.drop off)=some r->
      (Op.eqFields D vs.toArray us.toArray fl).run P w=.ok r w:=by
     intro fl;induction fl with
     | nil=>
       intro off m hg r hr;simp only[mO] at hg;split at hg
       ·rename_i ho;have ho:off=i.size:=by simpa using ho
        cases hg;rw[Lg (by omega),Lg (by omega)] at hr;simp only[fJ,aG] at hr;subst hr;rfl
       ·cases hg
     | cons f fl ih2=>
       intro off m hg r hr;simp only[mO] at hg;split at hg
       ·rename_i hno;simp only[aN,bne_iff_ne,beq_iff_eq] at hno;obtain⟨hn,hoff⟩:=hno;split at hg
        ·rename_i l m' hfl hgo;split at hg
         ·rename_i hll;cases hg;obtain⟨j,jd,k1,k2,k3⟩:=Dt hfl;have hsz:P.cellsOf f.type=j.size:=by simp[Program.cellsOf,k1]
          rw[hsz] at hgo hll;have hll:l.length=j.size:=by simpa using hll
          have hle:off+j.size<=i.size:=mono _ _ _ hgo;have va:=(ha.drop off).take j.size;have vb:=(hb.drop off).take j.size;have e1:=Fj (P:=P) w k1 k2 vs.toArray f.offset (by simp;have:=ha.length;omega) k3;have e2:=Fj (P:=P) w k1 k2 us.toArray f.offset (by simp;have:=hb.length;omega) k3;rw[hoff] at e1 e2;have sp:∀(l:List AV),l.drop off=(l.drop off).take j.size++l.drop (off+j.size):=λl=>by
           rw[<-rF,Bi]
          rw[sp la,sp lb,Yz _ _ _ _ _ _ (by simp;omega) (by simp;omega)] at hr;simp only[Op.eqFields,hn,ne_eq,sS,bR,cQ,hoff,e1,e2,cJ];split at hr
          ·rename_i hc;rw[ih f.type D j jd _ _ _ _ _ true w hfl (by omega) k1 k2 va vb (by simp;omega) (by simp;omega) hc];simp only[cJ,fC,fX,cO];exact ih2 (off+j.size) _ hgo r hr
          ·rename_i hc;cases hr;rw[ih f.type D j jd _ _ _ _ _ false w hfl (by omega) k1 k2 va vb (by simp;omega) (by simp;omega) hc];simp
          ·cases hr
         ·cases hg
        ·cases hg
       ·cases hg
    exact key fs.toList 0 ks h r (by simpa using hr)
   ·rename_i j n e h1 h2;rw[hi] at h1;cases h1;rw[hu] at h2;cases h2;split at h
    ·rename_i l hfl;split at h
     ·rename_i hsz;simp only[aN,beq_iff_eq] at hsz;obtain⟨hsz1,hll⟩:=hsz;cases h;obtain⟨j,jd,k1,k2,k3⟩:=Dt hfl;have hsz:P.cellsOf e=j.size:=by simp[Program.cellsOf,k1]
      simp only[mW,lI,bR];rw[run_equalIn_array w D _ _ hu k1,hsz];rw[hsz] at hsz1 hll;have hr0:=hr;clear hr
      have key:∀(m k:Nat),k+m=n->∀r,fJ (List.replicate m l).flatten (la.drop (k*j.size)) (lb.drop (k*j.size))=some r->
        (Op.eqItems D e j.size vs.toArray us.toArray (List.range' k m)).run P w=.ok r w:=by
       intro m;induction m with
       | zero=>
         intro k hk r hr;have:k=n:=by omega
         subst this;rw[Lg (by omega),Lg (by omega)] at hr;simp only[List.replicate_zero,qgv,fJ,aG] at hr;subst hr;rfl
       | succ m ih2=>
         intro k hk r hr;have hle:k*j.size+j.size<=i.size:=by
          rw[hsz1,<-Lr];exact iB _ (by omega)
         have va:=(ha.drop (k*j.size)).take j.size;have vb:=(hb.drop (k*j.size)).take j.size;have e1:=Fj (P:=P) w k1 k2 vs.toArray (k*j.size) (by simp;have:=ha.length;omega) k3;have e2:=Fj (P:=P) w k1 k2 us.toArray (k*j.size) (by simp;have:=hb.length;omega) k3;have sp:∀(l:List AV),l.drop (k*j.size)=(l.drop (k*j.size)).take j.size++l.drop ((k+1)*j.size):=λl=>by
          rw[Lr,<-rF,Bi]
         rw[sp la,sp lb,Ta,sN,Yz _ _ _ _ _ _ (by simp;omega) (by simp;omega)] at hr;rw[qgr];simp only[Op.eqItems,cQ,e1,e2,cJ];split at hr
         ·rename_i hc;rw[ih e D j jd _ _ _ _ _ true w hfl (by omega) k1 k2 va vb (by simp;omega) (by simp;omega) hc];simp only[cJ,fC,fX,cO];exact ih2 (k+1) (by omega) r hr
         ·rename_i hc;cases hr;rw[ih e D j jd _ _ _ _ _ false w hfl (by omega) k1 k2 va vb (by simp;omega) (by simp;omega) hc];simp
         ·cases hr
      have:=key n 0 (by omega) r (by simpa using hr0);rwa[<-qfp] at this
     ·cases h
    ·cases h
   ·cases h
end
end Go.Vm
namespace Go.Vm
section
variable {P:Program} {gl:List Nat} {ρ:RM} {g:Opd->AV} {e:Operand->Value}
def nZ (b o n:Nat):(⟨b,o,none⟩:Addr).add n=⟨b,o+n,none⟩:=by
 unfold Addr.add;split
 ·subst n;rfl
 ·rfl
def Ec {k:IntKind} {i:Nat} {v:Value} (h:VR ρ (.int k (.ofNat i)) v):v=.int k (i:Int):=by simpa[VR] using h
def Kf (P:Program) (t:TypeId) (x y:Operand):Nat->Prop
 | 0=>(∃ms,P.underlying t=some (.interface ms))/\(Ka x||Ka y)=true
 | 1=>∃n,P.underlying t=some (.pointer n)
 | 2=>∃n,P.underlying t=some (.slice n)
 | _=>∃p q n,P.underlying t=some (.func p q n)
def ju4 {kd:Nat} {a b:AV} {x y:Value} {r:Bool} {op:BinOp} {t:TypeId} {x' y':Operand} (w:World) (h:oY kd a b=some r) (ha:VR ρ a x) (hb:VR ρ b y)
  (ht:Kf P t x' y' kd):(eqGuard op t x' y' x y).run P w=.ok () w:=by
 unfold oY at h;split at h<;>(try simp only[VR] at ha hb)
 all_goals try (cases h;done)
 all_goals first
  | (subst ha;subst hb;cases op<;>simp[eqGuard];done)
  | (subst ha;subst hb;obtain⟨_,hm⟩:=ht;cases x'<;>cases y'<;>first | (cases op<;>simp[eqGuard];done) | (exfalso;simp[Ka] at hm;done))
  | (obtain⟨_,rfl,_⟩:=ha;subst hb;cases op<;>simp[eqGuard];done)
  | (obtain⟨_,rfl,_⟩:=hb;subst ha;cases op<;>simp[eqGuard];done)
  | (obtain⟨_,_,rfl⟩:=ha;subst hb;cases op<;>simp[eqGuard];done)
  | (obtain⟨_,_,rfl⟩:=hb;subst ha;cases op<;>simp[eqGuard];done)
  | (obtain⟨_,_,rfl,_⟩:=ha;subst hb;cases op<;>simp[eqGuard];done)
  | (obtain⟨_,_,rfl,_⟩:=hb;subst ha;cases op<;>simp[eqGuard];done)
  | (obtain⟨_,_,_,_,rfl,_⟩:=ha;subst hb;cases op<;>simp[eqGuard];done)
  | (obtain⟨_,_,_,_,rfl,_⟩:=hb;subst ha;cases op<;>simp[eqGuard];done)
def ju3 {kd:Nat} {a b:AV} {x y:Value} {r:Bool} {t:TypeId} {x' y':Operand} (D:Nat) (w:World) (h:oY kd a b=some r) (ha:VR ρ a x) (hb:VR ρ b y)
  (ht:Kf P t x' y' kd):(Op.equalIn (D+1) t x y).run P w=.ok r w:=by
 unfold Op.equalIn;unfold oY at h;split at h<;>(try simp only[VR] at ha hb)<;>(try simp only[Kf] at ht)
 all_goals try (cases h;done)
 all_goals cases h
 ·obtain⟨⟨ms,hu⟩,_⟩:=ht;subst ha;subst hb;simp[run_underlying hu]
 ·obtain⟨ms,hu⟩:=ht;subst ha;subst hb;simp[run_underlying hu]
 ·obtain⟨ms,hu⟩:=ht;subst ha;subst hb;simp[run_underlying hu]
 ·obtain⟨p,q,n,hu⟩:=ht;subst ha;subst hb;simp[run_underlying hu]
 ·obtain⟨⟨ms,hu⟩,_⟩:=ht;obtain⟨_,rfl,_⟩:=hb;subst ha;simp[run_underlying hu]
 ·obtain⟨⟨ms,hu⟩,_⟩:=ht;obtain⟨_,rfl,_⟩:=ha;subst hb;simp[run_underlying hu]
 ·obtain⟨ms,hu⟩:=ht;obtain⟨_,_,rfl⟩:=hb;subst ha;simp[run_underlying hu]
 ·obtain⟨ms,hu⟩:=ht;obtain⟨_,_,rfl⟩:=ha;subst hb;simp[run_underlying hu]
 ·obtain⟨ms,hu⟩:=ht;obtain⟨_,_,_,_,rfl,_⟩:=hb;subst ha;simp[run_underlying hu]
 ·obtain⟨ms,hu⟩:=ht;obtain⟨_,_,_,_,rfl,_⟩:=ha;subst hb;simp[run_underlying hu]
 ·obtain⟨p,q,n,hu⟩:=ht;obtain⟨_,_,rfl,_⟩:=hb;subst ha;simp[run_underlying hu]
 ·obtain⟨p,q,n,hu⟩:=ht;obtain⟨_,_,rfl,_⟩:=ha;subst hb;simp[run_underlying hu]
def jc5 {op:BinOp} {t:TypeId} {x y:Value} {r:Bool} (w:World) (hop:op=.eql\/op=.neq) (h:(Op.equal t x y).run P w=.ok r w)
  (hx:∀k n,x≠ .int k n) (hx2:∀k n,x≠ .float k n) (hx3:∀k n m,x≠ .complex k n m) (hx4:∀s,x≠ .string s):
  (binOp op t x y).run P w=.ok (.bool ((oE op) ^^ r)) w:=by
 rcases hop with rfl | rfl
 ·have:binOp .eql t x y=(do pure (.bool (<-Op.equal t x y)):Sem Value):=by
   cases x<;>first | (exact absurd rfl (hx _ _)) | (exact absurd rfl (hx2 _ _)) | (exact absurd rfl (hx3 _ _ _)) | (exact absurd rfl (hx4 _)) | (cases y<;>rfl)
  rw[this];simp[h,oE]
 ·have:binOp .neq t x y=(do pure (.bool (!(<-Op.equal t x y))):Sem Value):=by
   cases x<;>first | (exact absurd rfl (hx _ _)) | (exact absurd rfl (hx2 _ _)) | (exact absurd rfl (hx3 _ _ _)) | (exact absurd rfl (hx4 _)) | (cases y<;>rfl)
  rw[this];simp[h,oE]
def ju5 {kd:Nat} {a b:AV} {x y:Value} {r:Bool} {op:BinOp} {t:TypeId} {x' y':Operand} (w:World) (h:oY kd a b=some r) (ha:VR ρ a x) (hb:VR ρ b y)
  (ht:Kf P t x' y' kd) (hop:op=.eql\/op=.neq):
  (do eqGuard op t x' y' x y;binOp op t x y:Sem Value).run P w=.ok (.bool ((oE op) ^^ r)) w:=by
 simp only[cQ,ju4 w h ha hb ht,cJ];have nx:(∀k n,x≠ .int k n)/\(∀k n,x≠ .float k n)/\(∀k n m,x≠ .complex k n m)/\(∀s,x≠ .string s):=by
  unfold oY at h;split at h<;>(try simp only[VR] at ha)
  all_goals try (cases h;done)
  all_goals first
   | (subst ha;simp;done)
   | (obtain⟨_,rfl,_⟩:=ha;simp;done)
   | (obtain⟨_,_,rfl⟩:=ha;simp;done)
   | (obtain⟨_,_,rfl,_⟩:=ha;simp;done)
   | (obtain⟨_,_,_,_,rfl,_⟩:=ha;simp;done)
 exact jc5 w hop (ju3 9999 w h ha hb ht) nx.1 nx.2.1 nx.2.2.1 nx.2.2.2
def lQ {s:Sem Value} {v:Value} {w w':World} (h:s.run P w=.ok v w'):(do pure (.value (<-s)):Sem Next).run P w=.ok (.value v) w':=by
 simp[h]
def jgx:∀(l:List AV) (vs:List Value) (a r:AV) (v:Value) (w:World),zN a l=some r->VR ρ a v->VRs ρ l vs->
  ∃u,(vs.foldlM Builtin.min2 v).run P w=.ok u w/\VR ρ r u
 | [],vs,a,r,v,w,h,ha,hl=>by
   simp only[zN,aG] at h;simp only[VRs] at hl;subst h;subst hl;exact⟨v,rfl,ha⟩
 | b::l,vs,a,r,v,w,h,ha,hl=>by
   unfold zN at h;split at h
   ·rename_i heq;cases heq
   ·rename_i k x k2 y l' heq;cases heq;simp only[VRs] at hl;obtain⟨u,vs',rfl,h1,h2⟩:=hl;simp only[VR] at ha h1;subst ha;subst h1;have e1:(Builtin.min2 (.int k x) (.int k2 y)).run P w=.ok (.int k (bif kR x y then x else y)) w:=by
     simp only[Builtin.min2,dI,sD]
     congr 2
     by_cases hxy:x<=y
     ·simp[hxy,show ¬y<x by omega]
     ·simp[hxy,show y<x by omega]
    obtain⟨u,h3,h4⟩:=jgx l vs' _ r (.int k (bif kR x y then x else y)) w h (by simp[VR]) h2;exact⟨u,by simp only[List.foldlM_cons,cQ,e1,cJ,h3],h4⟩
   ·cases h
def jgv:∀(l:List AV) (vs:List Value) (a r:AV) (v:Value) (w:World),zM a l=some r->VR ρ a v->VRs ρ l vs->
  ∃u,(vs.foldlM Builtin.max2 v).run P w=.ok u w/\VR ρ r u
 | [],vs,a,r,v,w,h,ha,hl=>by
   simp only[zM,aG] at h;simp only[VRs] at hl;subst h;subst hl;exact⟨v,rfl,ha⟩
 | b::l,vs,a,r,v,w,h,ha,hl=>by
   unfold zM at h;split at h
   ·rename_i heq;cases heq
   ·rename_i k x k2 y l' heq;cases heq;simp only[VRs] at hl;obtain⟨u,vs',rfl,h1,h2⟩:=hl;simp only[VR] at ha h1;subst ha;subst h1;have e1:(Builtin.max2 (.int k x) (.int k2 y)).run P w=.ok (.int k (bif kR y x then x else y)) w:=by
     simp only[Builtin.max2,dI,sD]
     congr 2
     by_cases hxy:y<=x
     ·simp[hxy,show ¬y > x by omega]
     ·simp[hxy,show y > x by omega]
    obtain⟨u,h3,h4⟩:=jgv l vs' _ r (.int k (bif kR y x then x else y)) w h (by simp[VR]) h2;exact⟨u,by simp only[List.foldlM_cons,cQ,e1,cJ,h3],h4⟩
   ·cases h
end
end Go.Vm
namespace Go.Vm
section
variable {P:Program} {gl:List Nat} {ρ:RM} {g:Opd->AV} {e:Operand->Value}
def j7o {t et:TypeId} {i:TypeInfo} {x:Value} {lo hi mx:Option AV} {lo' hi' mx':Option Value} {a v:AV} (w:World)
  (hu:P.underlying t=some (.slice et)) (hi0:P.info? et=some i) (ha:VR ρ a x) (hx:lC ρ lo lo') (hy:lC ρ hi hi') (hz:lC ρ mx mx')
  (h:iJ i.size a lo hi mx=some v):∃v',(Instr.sliceAt t x lo' hi' mx').run P w=.ok v' w/\VR ρ v v':=by
 simp only[Instr.sliceAt,cQ,run_underlying hu,cJ];unfold iJ at h;cases a
 case sl b o len cap z'=>
  simp only[VR] at ha;obtain⟨l,c,off,h1,rfl,h3,h4,h5,h6⟩:=ha;simp only at h;cases hzq:z'.beq i.size<;>simp only[hzq,aB,aF] at h
  ·cases h
  have hz':z'=i.size:=rB hzq;subst hz'
  have key:∀(l0 h0:Nat) (mc:Nat),l0<=h0->h0<=mc->mc<=c->∀cap',(cap'=some (mc-l0)\/cap'=none/\mc=c/\cap=none)->
    VR ρ (.sl b (o+l0*i.size) (h0-l0) cap' i.size) (.slice (if mc=l0 then some ⟨l.blk,off,none⟩ else Option.map (λx:Addr=>x.add (l0*i.size)) (some ⟨l.blk,off,none⟩)) (h0-l0) (mc-l0)):=by
   intro l0 h0 mc k1 k2 k3 cap' k4;simp only[VR,eX,nZ];have hmul:l0*i.size+ (mc-l0)*i.size=mc*i.size:=by rw[<-fU];congr 1;omega
   have hle:mc*i.size<=c*i.size:=iB _ k3;refine⟨l,mc-l0,if mc=l0 then off else off+l0*i.size,h1,?_,by omega,h4,?_,?_⟩
   ·split<;>rfl
   ·by_cases e:mc=l0
    ·right;omega
    ·rw[aD e];left;rcases h5 with h5 | h5
     ·rw[h5];omega
     ·omega
   ·rcases k4 with k4 | ⟨k4,k5,k6⟩
    ·left;refine⟨k4,?_⟩;rcases h6 with⟨_,h6⟩ | ⟨_,h6⟩<;>omega
    ·right;refine⟨k4,?_⟩;rcases h6 with⟨h7,h6⟩ | ⟨_,h6⟩
     ·rw[k6] at h7;cases h7
     ·subst k5;omega
  cases cap with
  | some c'=>
    have hc:c'=c:=by
     rcases h6 with⟨h7,_⟩ | ⟨h7,_⟩
     ·exact kF h7
     ·cases h7
    subst hc;simp only at h;split at h
    ·rename_i l0 h0 m0 hb;cases h;obtain⟨k1,k2,k3,k5,k4⟩:=Iu (P:=P) (ρ:=ρ) (cap':=c') true w hb hx hy hz (aU _) h3;simp only[Instr.slice,cQ,run_underlying hu,cJ,k4,iM hi0,dI];refine⟨_,rfl,?_⟩;cases mx with
     | none=>
       have hm:m0=c':=k5 rfl;subst hm;exact key l0 h0 m0 k1 k2 k3 _ (.inl rfl)
     | some mx0=>exact key l0 h0 m0 k1 k2 k3 _ (.inl rfl)
    ·cases h
  | none=>
    simp only at h;split at h
    ·rename_i l0 h0 m0 hb;obtain⟨k1,k2,k3,k5,k4⟩:=Iu (P:=P) (ρ:=ρ) (cap':=c) true w hb hx hy hz h3 (aU _);simp only[Instr.slice,cQ,run_underlying hu,cJ,k4,iM hi0,dI];refine⟨_,rfl,?_⟩;cases mx with
     | none=>
       cases h;exact key l0 h0 c k1 (by omega) (aU _) _ (.inr ⟨rfl,rfl,rfl⟩)
     | some mx0=>
       cases h;exact key l0 h0 m0 k1 k2 (by omega) _ (.inl rfl)
    ·cases h
 case nils=>
  simp only[VR] at ha;subst ha;simp only at h;split at h
  ·rename_i r hb;obtain⟨l0,h0,m0⟩:=r;cases h;obtain⟨k1,k2,k3,k5,k4⟩:=Iu (P:=P) (ρ:=ρ) (cap':=0) true w hb hx hy hz (aU _) (aU _);simp only[Instr.slice,cQ,run_underlying hu,cJ,k4,iM hi0,dI];refine⟨_,rfl,?_⟩;have e1:h0=0:=by omega
   have e2:l0=0:=by omega
   have e3:m0=0:=by omega
   subst e1;subst e2;subst e3;simp[VR]
  ·cases h
 all_goals (cases h)
def jqa {s:ByteArray} {i:Nat} {c:Nat} (h:(s.data.toList.map UInt8.toNat)[i]?=some c):∃b:UInt8,s[i]?=some b/\b.toNat=c:=by
 rw[jH,cX] at h;obtain⟨b,h1,h2⟩:=h;refine⟨b,?_,h2⟩;have hi:i<s.size:=by
  have:=(jG.1 h1).1;simpa using this
 have h3:s.data[i]?=some b:=by simpa using h1
 rw[getElem?_pos s i hi];have h4:=eJ.1 h3;obtain⟨_,h5⟩:=h4;rw[<-h5];rfl
end
end Go.Vm
namespace Go.Vm
section
variable {P:Program} {gl:List Nat} {ρ:RM} {g:Opd->AV} {e:Operand->Value}
def ji7 {n:Nat} (h:n<=127):(Utf8.encode (n:Int)).data.toList.map UInt8.toNat=[n]:=by
 have hv:Utf8.valid (n:Int)=true:=by simp[Utf8.valid];omega
 have hn:((n:Int)).toNat<128:=by omega
 unfold Utf8.encode;simp only[hv,bR,hn];simp;omega
def pX {s:Sem Value} {v:AV} {w:World} (h:∃v',s.run P w=.ok v' w/\VR ρ v v'):
  ∃v',(do pure (.value (<-s)):Sem Next).run P w=.ok (.value v') w/\VR ρ v v':=by
 obtain⟨v',h1,h2⟩:=h;exact⟨v',lQ h1,h2⟩
def jvh {op:BinOp} {t yt:TypeId} {x y:Operand} {c:I} {v:AV} (w:World) (hg:∀x y,bT gl x=some y->VR ρ (g y) (e x))
  (hc:iF P gl (.binOp op t x y yt)=some c) (h:bD g c=some v):
  ∃v',(do eqGuard op t x y (e x) (e y);binOp op t (e x) (e y):Sem Value).run P w=.ok v' w/\VR ρ v v':=by
 simp only[iF,fS,dN] at hc;obtain⟨x',hx,y',hy,hc⟩:=hc;have gx:=hg x x' hx;have gy:=hg y y' hy;have nog:∀r,lU op (g x') (g y')=some r->(eqGuard op t x y (e x) (e y)).run P w=.ok () w:=by
  intro r hr;unfold lU at hr;split at hr
  ·rename_i h1 h2;rw[h1] at gx;rw[h2] at gy;simp only[VR] at gx gy;rw[gx,gy];cases op<;>simp[eqGuard]
  ·rename_i h1 h2;rw[h1] at gx;rw[h2] at gy;simp only[VR] at gx gy;obtain⟨_,e1,_⟩:=gx;obtain⟨_,e2,_⟩:=gy;rw[e1,e2];cases op<;>simp[eqGuard]
  ·cases hr
 have plain:c=.bin op x' y'->∃v',(do eqGuard op t x y (e x) (e y);binOp op t (e x) (e y):Sem Value).run P w=.ok v' w/\VR ρ v v':=by
  intro hce;subst hce;simp only[bD] at h;obtain⟨v',h1,h2⟩:=ju0 (P:=P) w t h gx gy;exact⟨v',by simp only[cQ,nog _ h,cJ,h1],h2⟩
 have flatK:∀agg ks,c=.eqf (oE op) agg ks x' y'->flat P 20 t=some ks->(op=.eql\/op=.neq)->(P.eqGuardType P.depth t=false/\agg=true/\(∃d,P.underlying t=some d/\lI d=true)\/P.underlying t=some .bool/\agg=false)->
   ∃v',(do eqGuard op t x y (e x) (e y);binOp op t (e x) (e y):Sem Value).run P w=.ok v' w/\VR ρ v v':=by
  intro agg ks hce hf hop hgt;subst hce;simp only[bD] at h;split at h
  ·rename_i b hb;cases h;obtain⟨i,dd,k1,k2,k3⟩:=Dt hf;have hlen:=jjx 20 t ks i hf k1;rcases hgt with⟨hgt,rfl,d,hd,hda⟩ | ⟨hub,rfl⟩
   ·rw[k2] at hd;cases hd;simp only[jV,aB] at hb;split at hb
    ·rename_i l m h1 h2;rw[h1] at gx;rw[h2] at gy;simp only[VR] at gx gy;obtain⟨cs,e1,va⟩:=gx;obtain⟨ds,e2,vb⟩:=gy;rw[e1,e2] at *;cases hll:(l.length.beq ks.length&&m.length.beq ks.length)
     ·simp[hll] at hb
     ·simp only[hll,aB] at hb;simp only[aN,aL,aH] at hll;have h3:=jjz 20 t 10000 i dd ks l m cs.toList ds.toList b w hf (by omega) k1 k2 va vb (by omega) (by omega) hb;simp only[mW,hda,bR] at h3;refine⟨.bool (oE op ^^ b),?_,by simp[VR]⟩;simp only[cQ,run_eqGuard_agg w op t x y cs ds hgt,cJ];exact jc5 w hop h3 (by simp) (by simp) (by simp) (by simp)
    ·cases hb
   ·rw[k2] at hub;cases hub;simp only[jV,aF] at hb;have h1:=k3 rfl;have hks:∃k,ks=[k]:=qff.1 (by omega);obtain⟨k,rfl⟩:=hks;have hk:k=0:=by
     unfold flat at hf;simp only[k1,k2,h1] at hf;simpa using hf.symm
    subst hk;have h4:∃p q,g x'=.bool p/\g y'=.bool q/\b=(p==q):=by
     cases hx1:g x'<;>cases hy1:g y'<;>simp[fJ,kP,hx1,hy1] at hb
     rename_i p q;refine⟨p,q,rfl,rfl,?_⟩;cases p<;>cases q<;>simp at hb ⊢<;>exact hb
    obtain⟨p,q,e1,e2,rfl⟩:=h4;rw[e1] at gx;rw[e2] at gy;simp only[VR] at gx gy;rw[gx,gy];refine⟨.bool (oE op ^^ (p==q)),?_,by simp[VR]⟩;have:(eqGuard op t x y (.bool p) (.bool q)).run P w=.ok () w:=by cases op<;>simp[eqGuard]
    simp only[cQ,this,cJ];exact jc5 w hop (run_equalIn_bool w 9999 t p q k2) (by simp) (by simp) (by simp) (by simp)
  ·cases h
 have eqn:∀kd,c=.eqn (oE op) kd x' y'->Kf P t x y kd->(op=.eql\/op=.neq)->
   ∃v',(do eqGuard op t x y (e x) (e y);binOp op t (e x) (e y):Sem Value).run P w=.ok v' w/\VR ρ v v':=by
  intro kd hce hk hop;subst hce;simp only[bD] at h;split at h
  ·rename_i b hb;cases h;exact⟨_,ju5 w hb gx gy hk hop,by simp[VR]⟩
  ·cases h
 have eqs:(op=.eql\/op=.neq)->pC P op t x y x' y'=some c->∃v',(do eqGuard op t x y (e x) (e y);binOp op t (e x) (e y):Sem Value).run P w=.ok v' w/\VR ρ v v':=by
  intro hop hc;unfold pC at hc;split at hc
  ·cases hc;exact plain rfl
  ·cases hc;exact plain rfl
  ·rename_i hu;split at hc
   ·rename_i ks hf;cases hc;exact flatK false ks rfl hf hop (.inr ⟨hu,rfl⟩)
   ·cases hc
  ·rename_i hu;split at hc
   ·cases hc
   ·rename_i hgt;split at hc
    ·rename_i ks hf;cases hc;exact flatK true ks rfl hf hop (.inl ⟨by simpa using hgt,rfl,_,hu,rfl⟩)
    ·cases hc
  ·rename_i hu;split at hc
   ·cases hc
   ·rename_i hgt;split at hc
    ·rename_i ks hf;cases hc;exact flatK true ks rfl hf hop (.inl ⟨by simpa using hgt,rfl,_,hu,rfl⟩)
    ·cases hc
  ·rename_i ms hu;split at hc
   ·rename_i hm;cases hc;exact eqn 0 rfl ⟨⟨ms,hu⟩,hm⟩ hop
   ·cases hc
  ·rename_i n hu;cases hc;exact eqn 1 rfl ⟨n,hu⟩ hop
  ·rename_i n hu;cases hc;exact eqn 2 rfl ⟨n,hu⟩ hop
  ·rename_i p q n hu;cases hc;exact eqn 3 rfl ⟨p,q,n,hu⟩ hop
  ·cases hc
 have ari:Yh P op t x' y'=some c->∃v',(do eqGuard op t x y (e x) (e y);binOp op t (e x) (e y):Sem Value).run P w=.ok v' w/\VR ρ v v':=by
  intro hc;unfold Yh at hc;split at hc
  ·cases hc;exact plain rfl
  ·cases hc;exact plain rfl
  ·cases hc
 cases op
 case eql=>exact eqs (.inl rfl) hc
 case neq=>exact eqs (.inr rfl) hc
 all_goals exact ari hc
def j47 {o:Oper} {c:I} {v:AV} (w:World) (hg:∀x y,bT gl x=some y->VR ρ (g y) (e x)) (hc:iF P gl o.op=some c) (h:bD g c=some v):
  ∃v',(execOp e o).run P w=.ok (.value v') w/\VR ρ v v':=by
 obtain⟨dst,op,ty,pos,after,guard⟩:=o;simp only at hc;cases op
 case move x=>
  simp only[iF,cX] at hc;obtain⟨x',hx,rfl⟩:=hc;simp only[bD,aG] at h;subst h;exact⟨e x,rfl,hg _ _ hx⟩
 case assign x=>
  simp only[iF,cX] at hc;obtain⟨x',hx,rfl⟩:=hc;simp only[bD,aG] at h;subst h;exact⟨e x,rfl,hg _ _ hx⟩
 case pick c a b=>
  simp only[iF,fS,dN,aG] at hc;obtain⟨c',h1,a',h2,b',h3,rfl⟩:=hc;have k1:=hg _ _ h1;simp only[bD] at h;split at h
  ·rename_i hq;rw[hq] at k1;simp only[VR] at k1;cases h;exact⟨e a,by simp[execOp,k1,asBool],hg _ _ h2⟩
  ·rename_i hq;rw[hq] at k1;simp only[VR] at k1;cases h;exact⟨e b,by simp[execOp,k1,asBool],hg _ _ h3⟩
  ·cases h
 case build t ps=>
  obtain⟨l,rfl⟩:∃l,ps=l.toArray:=⟨ps.toList,by simp⟩
  exact pX (jvp w hg hc h)
 case nilCheck x=>
  simp only[iF,cX] at hc;obtain⟨x',hx,rfl⟩:=hc;have k:=hg _ _ hx;simp only[bD] at h;refine⟨e x,?_,?_⟩
  ·simp only[execOp]
   cases hq:g x'<;>rw[hq] at k h<;>simp only[VR] at k<;>first
    | (cases h;done)
    | (rw[k];rfl)
    | (obtain⟨_,k,_⟩:=k;rw[k];rfl)
    | (obtain⟨_,_,k⟩:=k;rw[k];rfl)
    | (obtain⟨_,_,_,_,k,_⟩:=k;rw[k];rfl)
    | skip
   case fn f a b=>
    obtain⟨xs,ys,k,_⟩:=k;rw[k];cases f<;>first | (cases h;done) | rfl
  ·cases hq:g x'<;>rw[hq] at h k<;>first
    | (cases h;done)
    | (simp only[aG] at h;subst h;exact k)
    | skip
   case fn f a b=>cases f<;>first | (cases h;done) | (simp only[aG] at h;subst h;exact k)
 case binOp op t x y yt=>exact pX (jvh w hg hc h)
 case unOp op t x=>
  cases op
  case neg=>
   simp only[iF,cX] at hc;obtain⟨x',hx,rfl⟩:=hc;have k:=hg _ _ hx;simp only[bD] at h;split at h
   ·rename_i kd n hq;rw[hq] at k;simp only[VR] at k;cases h;refine⟨_,by simp[execOp,k,Op.unary,Op.intArith];rfl,by simp[VR,pY]⟩
   ·cases h
  case xor=>
   simp only[iF,cX] at hc;obtain⟨x',hx,rfl⟩:=hc;have k:=hg _ _ hx;simp only[bD] at h;split at h
   ·rename_i kd n hq;rw[hq] at k;simp only[VR] at k;cases h;refine⟨_,by simp only[execOp,k,Op.unary,Op.intBits,cQ,dI,cJ];rfl,by simp[VR]⟩
   ·cases h
  case not=>
   simp only[iF,cX] at hc;obtain⟨x',hx,rfl⟩:=hc;have k:=hg _ _ hx;simp only[bD] at h;split at h
   ·rename_i b hq;rw[hq] at k;simp only[VR] at k;cases h;refine⟨_,by simp[execOp,k,Op.unary];rfl,by simp[VR]⟩
   ·cases h
  case plus=>simp[iF] at hc
 case convert s t x=>
  simp only[iF] at hc;split at hc
  ·rename_i k1 k2 hs ht;simp only[cX] at hc;obtain⟨x',hx,rfl⟩:=hc;have k:=hg _ _ hx;simp only[bD] at h;split at h
   ·rename_i kd n hq;rw[hq] at k;simp only[VR] at k;cases h;refine⟨_,by simp[execOp,k,convert,run_underlying hs,run_underlying ht,Conv.intToInt];rfl,by simp[VR,pY]⟩
   ·cases h
  ·rename_i hs ht;simp only[cX] at hc;obtain⟨x',hx,rfl⟩:=hc;have k:=hg _ _ hx;simp only[bD] at h;split at h
   ·rename_i s' hq;rw[hq] at k;simp only[VR] at k;obtain⟨bs,k,rfl⟩:=k;cases h;refine⟨_,by simp[execOp,k,convert,run_underlying hs,run_underlying ht];rfl,by simp[VR]⟩
   ·rename_i k0 n hq;rw[hq] at k;simp only[VR] at k;cases hn:n.ble 127 with
    | false=>rw[hn] at h;cases h
    | true=>
      rw[hn] at h;cases h;exact⟨.string (Utf8.encode (n:Int)),by simp[execOp,k,convert,run_underlying hs,run_underlying ht,Conv.intToString],by simp only[VR];exact⟨_,rfl,ji7 (pT hn)⟩⟩
   ·cases h
  ·rename_i k1 hs ht;simp only[cX] at hc;obtain⟨x',hx,rfl⟩:=hc;have k:=hg _ _ hx;simp only[bD] at h;split at h
   ·rename_i s' hq;rw[hq] at k;simp only[VR] at k;obtain⟨bs,k,rfl⟩:=k;cases h;exact⟨_,by simp[execOp,k,convert,run_underlying hs,run_underlying ht];rfl,by simp[VR]⟩
   ·rename_i k0 n hq;rw[hq] at k;simp only[VR] at k;cases hn:n.ble 127 with
    | false=>rw[hn] at h;cases h
    | true=>
      rw[hn] at h;cases h;exact⟨.string (Utf8.encode (n:Int)),by simp[execOp,k,convert,run_underlying hs,run_underlying ht,Conv.intToString],by simp only[VR];exact⟨_,rfl,ji7 (pT hn)⟩⟩
   ·cases h
  ·cases hc
 case makeInterface t x=>
  simp only[iF] at hc;split at hc
  ·cases hc
  ·rename_i d hni hu;simp only[cX] at hc;obtain⟨x',hx,rfl⟩:=hc;have k:=hg _ _ hx;simp only[bD,aG] at h;subst h;refine pX ⟨.iface t (e x),?_,by simp only[VR];exact⟨_,rfl,k⟩⟩;simp only[Instr.makeInterface,cQ,run_underlying hu,cJ];cases d<;>first | rfl | (exact absurd rfl (hni _))
  ·cases hc
 case makeFunc f a b=>
  simp only[iF,fS,dN,aG] at hc;obtain⟨a',h1,b',h2,rfl⟩:=hc;simp only[bD,aG] at h;subst h;have k1:=yB hg _ _ h1;have k2:=yB hg _ _ h2;refine pX ⟨.func f (a.map e) (b.map e),rfl,?_⟩;simp only[VR];exact⟨_,_,rfl,by simpa using k1,by simpa using k2⟩
 case fieldAddr t x i=>
  simp only[iF] at hc;split at hc
  ·rename_i fs hu;split at hc
   ·rename_i off s hs;simp only[cX] at hc;obtain⟨x',hx,rfl⟩:=hc;have k:=hg _ _ hx;simp only[bD] at h;split at h
    ·rename_i b o hq;rw[hq] at k;simp only[VR] at k;obtain⟨l,k1,k2⟩:=k;cases h;unfold Na at hs;split at hs
     ·rename_i f hf;split at hs
      ·rename_i j hj;simp only[aG,aM] at hs;obtain⟨rfl,hs⟩:=hs;refine pX ⟨.pointer (some ⟨l.blk,l.base+ (o+f.offset),none⟩),?_,by simp only[VR];exact⟨l,k1,rfl⟩⟩;have hne:¬j.size=0:=by omega
       simp only[Instr.fieldAt,cQ,run_underlying hu,cJ,hf,k2,Instr.sureAddr,dI,fieldPlace,iM hj,hne,cO,nZ,kG]
      ·cases hs
     ·cases hs
    ·cases h
   ·cases hc
  ·cases hc
 case field t x i=>
  simp only[iF] at hc;split at hc
  ·rename_i fs hu;split at hc
   ·rename_i f hf;simp only[fS,dN,cX] at hc;obtain⟨s,hs,x',hx,rfl⟩:=hc;have k:=hg _ _ hx;simp only[bD] at h;split at h
    ·rename_i l hq;rw[hq] at k;simp only[VR] at k;obtain⟨cs,k1,k2⟩:=k;rw[aP] at h;by_cases hb:f.offset+s.1<=l.length
     ·simp only[hb,bA,aB] at h;obtain⟨v',h1,h2⟩:=jn0 w hs k2 hb h;refine pX ⟨v',?_,h2⟩;simp only[Instr.field,cQ,run_underlying hu,cJ,hf,k1,asAgg,dI,h1]
     ·simp only[hb,bM,aF,reduceCtorEq] at h
    ·cases h
   ·cases hc
  ·cases hc
 case indexAddr t x i=>
  simp only[iF] at hc;split at hc
  ·rename_i n el hu;simp only[fS,dN,aG] at hc;obtain⟨s,hs,x',hx,i',hi,rfl⟩:=hc;obtain⟨j,d,k1,k2,rfl⟩:=qV hs;have kx:=hg _ _ hx;have ki:=hg _ _ hi;simp only[bD] at h;split at h
   ·rename_i b o kd i0 hq hqi;rw[hq] at kx;rw[hqi] at ki;have ki:=Ec ki;simp only[VR] at kx;obtain⟨l,k3,k4⟩:=kx;rw[aP] at h;by_cases hn:n<=i0
    ·simp[hn] at h
    ·simp only[hn,bM,aF,aG] at h;subst h;refine pX ⟨.pointer (some ⟨l.blk,l.base+ (o+i0*j.size),none⟩),?_,by simp only[VR];exact⟨l,k3,rfl⟩⟩;have hc0:(0:Int)<=(i0:Int)/\(i0:Int)< (n:Int):=by omega
     simp only[Instr.indexAt,cQ,ki,asIntOf,dI,cJ,run_underlying hu,k4,Instr.sureAddr,hc0,Bo,bR,iM k1,nZ,fF,kG]
   ·cases h
  ·rename_i el hu;simp only[fS,dN,aG] at hc;obtain⟨s,hs,x',hx,i',hi,rfl⟩:=hc;obtain⟨j,d,k1,k2,rfl⟩:=qV hs;have kx:=hg _ _ hx;have ki:=hg _ _ hi;simp only[bD] at h;split at h
   ·rename_i b o len cap z' kd i0 hq hqi;rw[hq] at kx;rw[hqi] at ki;have ki:=Ec ki;simp only[VR] at kx;obtain⟨l,c,off,k3,k4,k5,k6,k7,k8⟩:=kx;rw[aL,aP] at h;by_cases hn:z'=j.size/\¬len<=i0
    ·simp only[hn.1,hn.2,bA,bM,fC,Tw,aF,aG] at h;subst h;have hoff:off=l.base+o:=by omega
     subst hoff;refine pX ⟨.pointer (some ⟨l.blk,l.base+ (o+i0*j.size),none⟩),?_,by simp only[VR];exact⟨l,k3,rfl⟩⟩;have hc0:(0:Int)<=(i0:Int)/\(i0:Int)< (len:Int):=by omega
     simp only[Instr.indexAt,cQ,ki,asIntOf,dI,cJ,run_underlying hu,k4,hc0,Bo,bR,iM k1,nZ,fF,kG]
    ·have:(!decide (z'=j.size)||decide (len<=i0))=true:=by
      simp only[kD,fB,eH,aH];omega
     simp[this] at h
   ·cases h
  ·cases hc
 case index t x i=>
  simp only[iF] at hc;split at hc
  ·rename_i n el hu;simp only[fS,dN,aG] at hc;obtain⟨s,hs,x',hx,i',hi,rfl⟩:=hc;have kx:=hg _ _ hx;have ki:=hg _ _ hi;simp only[bD] at h;split at h
   ·rename_i l kd i0 hq hqi;rw[hq] at kx;rw[hqi] at ki;have ki:=Ec ki;simp only[VR] at kx;obtain⟨cs,k3,k4⟩:=kx;rw[aP,aP] at h;by_cases hn:¬n<=i0/\i0*s.1+s.1<=l.length
    ·simp only[hn.1,hn.2,bA,bM,fC,Tw,aF] at h;obtain⟨v',h1,h2⟩:=jn0 w hs k4 hn.2 h;obtain⟨j,d,k1,k2,rfl⟩:=qV hs;refine pX ⟨v',?_,h2⟩;have hc0:(0:Int)<=(i0:Int)/\(i0:Int)< (n:Int):=by omega
     simp only[Instr.index,cQ,ki,asIntOf,dI,cJ,run_underlying hu,k3,hc0,Bo,bR,iM k1,fF,h1]
    ·have:(decide (n<=i0)|| !decide (i0*s.1+s.1<=l.length))=true:=by
      simp only[kD,fB,eH,aH];omega
     simp[this] at h
   ·cases h
  ·rename_i hu;simp only[fS,dN,aG] at hc;obtain⟨x',hx,i',hi,rfl⟩:=hc;have kx:=hg _ _ hx;have ki:=hg _ _ hi;simp only[bD] at h;split at h
   ·rename_i s kd i0 hq hqi;rw[hq] at kx;rw[hqi] at ki;have ki:=Ec ki;simp only[VR] at kx;obtain⟨bs,k3,k4⟩:=kx;split at h
    ·rename_i c0 hc0;cases h;subst k4;obtain⟨b,h1,h2⟩:=jqa hc0;refine pX ⟨.int .u8 (b.toNat:Int),?_,by simp[VR,h2]⟩;simp[Instr.index,ki,asIntOf,run_underlying hu,k3,h1]
    ·cases h
   ·cases h
  ·cases hc
 case slice t x lo hi mx=>
  simp only[iF] at hc;split at hc
  ·rename_i el hu;simp only[fS,dN,aG] at hc;obtain⟨s,hs,x',hx,lo',h1,hi',h2,mx',h3,rfl⟩:=hc;obtain⟨j,d,k1,k2,rfl⟩:=qV hs;simp only[bD] at h;exact pX (j7o w hu k1 (hg _ _ hx) (yA hg h1) (yA hg h2) (yA hg h3) h)
  ·rename_i hu;split at hc
   ·rename_i hmx;simp only[fS,dN,aG] at hc;obtain⟨x',hx,lo',h1,hi',h2,rfl⟩:=hc;have kx:=hg _ _ hx;simp only[bD] at h;split at h
    ·rename_i s hq;rw[hq] at kx;simp only[VR] at kx;obtain⟨bs,k3,rfl⟩:=kx;split at h
     ·rename_i l0 h0 m0 hb;cases h;have hlen:(bs.data.toList.map UInt8.toNat).length=bs.size:=by simp
      rw[hlen] at hb;obtain⟨k1,k2,k4,k6,k5⟩:=Iu (P:=P) (ρ:=ρ) (cap':=bs.size) (mx':=none) false w hb (yA hg h1) (yA hg h2) True.intro (aU _) (aU _);refine pX ⟨.string (bs.extract l0 h0),?_,?_⟩
      ·simp only[tX,fX,cO] at k5;simp only[Instr.sliceAt,cQ,run_underlying hu,cJ,Instr.slice,k3,kE,tX,fX,cO,Gc,dI,k5]
      ·simp only[VR];refine⟨_,rfl,?_⟩;rw[Lib.extract_data,Lp,List.map_drop]
     ·cases h
    ·cases h
   ·cases hc
  ·cases hc
 case extract x n=>
  simp only[iF,cX] at hc;obtain⟨x',hx,rfl⟩:=hc;have k:=hg _ _ hx;simp only[bD] at h;split at h
  ·rename_i l hq;rw[hq] at k;simp only[VR] at k;obtain⟨cs,k1,k2⟩:=k;obtain⟨v',h1,h2⟩:=k2.get h;refine pX ⟨v',?_,h2⟩;have h3:cs[n]?=some v':=by simpa using h1
   simp[Instr.extract,k1,h3]
  ·cases h
 case call cl=>
  obtain⟨callee,args,argTypes⟩:=cl
  have go:∀(b:Builtin) (F:Array TypeId->TypeId->Array Value->Sem Value),(∀T cs a,builtin b argTypes T cs a=(do pure (.value (<-F argTypes T a)):Sem Next))->callee=.builtin b->
    (∃v',(F argTypes ty (args.map e)).run P w=.ok v' w/\VR ρ v v')->∃v',(execOp e ⟨dst,.call ⟨callee,args,argTypes⟩,ty,pos,after,guard⟩).run P w=.ok (.value v') w/\VR ρ v v':=by
   rintro b F hF rfl ⟨v',h1,h2⟩;refine⟨v',?_,h2⟩;simp only[execOp,resolve,cQ,dI,cJ,invoke,hF,h1]
  unfold iF at hc;split at hc<;>try (rename_i heq;cases heq;done)
  all_goals try (cases hc;done)
  ·rename_i a0 t0 heq;cases heq;split at hc
   ·rename_i x t ts ha ht;refine go .len Builtin.len_ (λ_ _ _=>rfl) rfl ?_;have e1:(args.map e)[0]?=some (e x):=by
     rw[qgc,<-lZ,ha];rfl
    have e2:argTypes[0]?=some t:=by
     rw[<-lZ,ht];rfl
    split at hc
    ·rename_i hu;simp only[cX] at hc;obtain⟨x',hx,rfl⟩:=hc;have k:=hg _ _ hx;simp only[bD] at h;split at h
     ·rename_i s hq;rw[hq] at k;simp only[VR] at k;obtain⟨bs,k1,rfl⟩:=k;cases h;exact⟨goInt bs.size,by simp[Builtin.len_,e1,e2,run_underlying hu,k1],by simp[VR,goInt]⟩
     ·cases h
    ·rename_i el hu;simp only[cX] at hc;obtain⟨x',hx,rfl⟩:=hc;have k:=hg _ _ hx;simp only[bD] at h;split at h
     ·rename_i b o len cap z hq;rw[hq] at k;simp only[VR] at k;obtain⟨l,c,off,k1,k2,_⟩:=k;cases h;exact⟨goInt len,by simp[Builtin.len_,e1,e2,run_underlying hu,k2],by simp[VR,goInt]⟩
     ·rename_i hq;rw[hq] at k;simp only[VR] at k;cases h;exact⟨goInt (0:Nat),by simp[Builtin.len_,e1,e2,run_underlying hu,k],by simp[VR,goInt]⟩
     ·cases h
    ·rename_i n el hu;cases hc;simp only[bD,aG] at h;subst h;exact⟨goInt n,by simp[Builtin.len_,e1,e2,run_underlying hu],by simp[VR,goInt]⟩
    ·rename_i el hu;split at hc
     ·rename_i n el2 hu2;cases hc;simp only[bD,aG] at h;subst h;exact⟨goInt n,by simp[Builtin.len_,e1,e2,run_underlying hu,run_underlying hu2],by simp[VR,goInt]⟩
     ·cases hc
    ·cases hc
   ·cases hc
  ·rename_i a0 t0 heq;cases heq;split at hc
   ·rename_i x t ts ha ht;refine go .cap Builtin.cap_ (λ_ _ _=>rfl) rfl ?_;have e1:(args.map e)[0]?=some (e x):=by
     rw[qgc,<-lZ,ha];rfl
    have e2:argTypes[0]?=some t:=by
     rw[<-lZ,ht];rfl
    split at hc
    ·rename_i el hu;simp only[cX] at hc;obtain⟨x',hx,rfl⟩:=hc;have k:=hg _ _ hx;simp only[bD] at h;split at h
     ·rename_i b o len c z hq;rw[hq] at k;simp only[VR] at k;obtain⟨l,c',off,k1,k2,_,_,_,k3⟩:=k;have hcc:c=c':=by
       rcases k3 with⟨k3,_⟩ | ⟨k3,_⟩
       ·exact kF k3
       ·cases k3
      subst hcc;cases h;exact⟨goInt c,by simp[Builtin.cap_,e1,e2,run_underlying hu,k2],by simp[VR,goInt]⟩
     ·rename_i hq;rw[hq] at k;simp only[VR] at k;cases h;exact⟨goInt (0:Nat),by simp[Builtin.cap_,e1,e2,run_underlying hu,k],by simp[VR,goInt]⟩
     ·cases h
    ·cases hc
   ·cases hc
  ·rename_i a0 t0 heq;cases heq;split at hc
   ·rename_i x xs ha;simp only[fS,dN,aG] at hc;obtain⟨x',hx,xs',hxs,rfl⟩:=hc;refine go .min Builtin.min_ (λ_ _ _=>rfl) rfl ?_;simp only[bD] at h;obtain⟨u,h1,h2⟩:=jgx (P:=P) (ρ:=ρ) _ _ _ _ (e x) w h (hg _ _ hx) (yB hg xs xs' hxs);refine⟨u,?_,h2⟩;simp only[Builtin.min_,Array.toList_map,ha,dA,h1]
   ·cases hc
  ·rename_i a0 t0 heq;cases heq;split at hc
   ·rename_i x xs ha;simp only[fS,dN,aG] at hc;obtain⟨x',hx,xs',hxs,rfl⟩:=hc;refine go .max Builtin.max_ (λ_ _ _=>rfl) rfl ?_;simp only[bD] at h;obtain⟨u,h1,h2⟩:=jgv (P:=P) (ρ:=ρ) _ _ _ _ (e x) w h (hg _ _ hx) (yB hg xs xs' hxs);refine⟨u,?_,h2⟩;simp only[Builtin.max_,Array.toList_map,ha,dA,h1]
   ·cases hc
 all_goals (simp[iF] at hc)
end
end Go.Vm
