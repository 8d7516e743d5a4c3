/- Parts of the proof. -/
import Derived.Test.YtccefhabickfiaaGreatDoorQ7
import Derived.Test.YtccefhabickfiaaGreatDoorSM
set_option linter.unusedSimpArgs false
set_option linter.defProp false
set_option linter.unusedVariables false
namespace Go.Proofs.YtccefhabickfiaaGreatDoor
namespace Vm
open Go Go.Vm Go.Vm.W Go.Vm.X
noncomputable section
set_option maxRecDepth 100000
def eO (mx:Int):GRel (BB mx) vG GG:=jj5 (B:=BB mx) (es:=ex mx++es) (Xc mx).symm (l:=GM) (by kernel_rfl) (by kernel_rfl)
def oC {B:Base} {memo:dX} {prog:Tr CFn} {m n:Nat} {t:TE} {T:List TE} (h:cE B memo prog n [t]) (h':cE B memo prog m T) (hm:n.ble m=true:=by rfl):cE B memo prog m (t::T):=wN (wO h (pT hm)) h'
abbrev OK (mx:Int) (l:Nat) (t:TE):Prop:=cE (BB mx) (told mx) prog l [t]
abbrev CK (mx:Int) (x:FuncId×Fx):Prop:=(∀vs,told mx x.1 vs=none)/\prog.get x.1=some x.2.cfn
def cG {mx:Int} {T:List TE} {C:List (FuncId×Fx)} {m d:Nat} (hT:cE (BB mx) (told mx) prog m T) (hC:rP (told mx) prog C) {f:FuncId} {x:Fx} (hx:(∀vs,told mx f vs=none)/\prog.get f=some x.cfn) {ins outs:List Rep} {run:eE ins->Option (eE outs)} (hr:∀a,lP fuel (hnd fuel T C d) GG x ins outs a=run a):cE (BB mx) (told mx) prog (m+d+1) [⟨f,ins,outs,run⟩]:=fQ hT hC (eO mx) hx hr
def bK {mx:Int} {x:FuncId×Fx} (h1:∀vs,told mx x.1 vs=none:=by exact λ_=>rfl) (h2:prog.get x.1=some x.2.cfn:=by kernel_rfl):CK mx x:=⟨h1,h2⟩
variable (mx:Int)
def jvz:CK mx jsb:=bK
def jwy:CK mx jtg:=bK
def jv1:CK mx jsd:=bK
def jwx:CK mx jtf:=bK
def jv0:CK mx jsc:=bK
def jv2:CK mx jse:=bK
def jvs:CK mx jrx:=bK
def jvy:CK mx jsa:=bK
def jwv:CK mx jtd:=bK
def jws:CK mx jta:=bK
def jww:CK mx jte:=bK
def jvt:CK mx jry:=bK
def jwk:CK mx js2:=bK
def jv5:CK mx jsn:=bK
def jv3:CK mx jsf:=bK
def jwj:CK mx js1:=bK
def jvu:CK mx jrz:=bK
def Pq:CK mx Od:=bK
def jw0:CK mx jtj:=bK
def jhs:CK mx jth:=bK
def jh5:CK mx jt0:=bK
def jht:CK mx jtk:=bK
def jhf:CK mx jr0:=bK
def jwm:CK mx js4:=bK
def jwp:CK mx js7:=bK
def jv8:CK mx jsq:=bK
def jw6:CK mx jt1:=bK
def jvv:CK mx jr1:=bK
def jwz:CK mx jti:=bK
def jwq:CK mx js8:=bK
def jwi:CK mx js0:=bK
def jw7:CK mx jt2:=bK
def jw1:CK mx jtn:=bK
def jw2:CK mx jtp:=bK
def jw5:CK mx jtw:=bK
def jhn:CK mx jsh:=bK
def jhu:CK mx jtl:=bK
def jh1:CK mx jtx:=bK
def jhh:CK mx jr5:=bK
def jhv:CK mx jtm:=bK
def jhm:CK mx jsg:=bK
def jwn:CK mx js5:=bK
def jwo:CK mx js6:=bK
def jwu:CK mx jtc:=bK
def jvw:CK mx jr2:=bK
def jwt:CK mx jtb:=bK
def jwl:CK mx js3:=bK
def jwh:CK mx jsz:=bK
def jw4:CK mx jtu:=bK
def jh2:CK mx jff:=bK
def jh3:CK mx jty:=bK
def jho:CK mx jsi:=bK
def jhq:CK mx jsk:=bK
def jhz:CK mx jts:=bK
def jhp:CK mx jsj:=bK
def jhr:CK mx jsl:=bK
def jhy:CK mx jtr:=bK
def jhx:CK mx jtq:=bK
def jhw:CK mx jto:=bK
def jhg:CK mx jr4:=bK
def Po:CK mx jfe:=bK
def jwe:CK mx jsw:=bK
def jwb:CK mx jst:=bK
def jwf:CK mx jsx:=bK
def jwr:CK mx js9:=bK
def jvx:CK mx jr3:=bK
def jv9:CK mx jsr:=bK
def jwg:CK mx jsy:=bK
def jwc:CK mx jsu:=bK
def jw3:CK mx jtt:=bK
def jh4:CK mx jtz:=bK
def Ps:CK mx Og:=bK
def jh0:CK mx jtv:=bK
def jhe:CK mx jrw:=bK
def jhd:CK mx jrv:=bK
def jhl:CK mx jr9:=bK
def jhk:CK mx jr8:=bK
def jhj:CK mx jr7:=bK
def jwa:CK mx jss:=bK
def jv4:CK mx jsm:=bK
def jv7:CK mx jsp:=bK
def jwd:CK mx jsv:=bK
def Yo:CK mx Oe:=bK
def Pp:CK mx Oc:=bK
def Pn:CK mx Ob:=bK
def Pr:CK mx Of:=bK
def Df:CK mx Hp:=bK
def rZ:CK mx wJ:=bK
def jhi:CK mx jr6:=bK
def jv6:CK mx jso:=bK
def Pt:CK mx Oh:=bK
def qX:OK mx 1 (lR fuel):=cG (m:=0) (d:=0) bH bG (Pq mx) (Vb fuel)
def jcb:OK mx 3 (wC fuel):=cG (m:=1) (d:=1) (oC (qX mx) bH) (dJ (Df mx) (dJ (Pt mx) bG)) (Pp mx) (Va fuel)
def jcc:OK mx 3 (wD fuel):=cG (m:=1) (d:=1) (oC (qX mx) bH) (dJ (rZ mx) bG) (Pr mx) (Vc fuel)
def jb6:OK mx 2 (wB fuel):=cG (m:=0) (d:=1) bH (dJ (rZ mx) bG) (Pn mx) (Px fuel)
def jcd:OK mx 4 (wE fuel):=cG (m:=3) (d:=0) (oC (jcb mx) (oC (jb6 mx) (oC (jcc mx) bH))) bG (Ps mx) (Vd fuel)
def jni:OK mx 5 (Nr fuel):=cG (m:=4) (d:=0) (oC (jcd mx) bH) bG (jhz mx) (jpw fuel)
def jnh:OK mx 2 (Ck fuel):=cG (m:=1) (d:=0) (oC (qX mx) bH) bG (Yo mx) (jdj fuel)
def jnj:OK mx 7 (Ns fuel):=cG (m:=5) (d:=1) (oC (qX mx) (oC (jni mx) bH)) (dJ (Df mx) bG) (jh0 mx) (jpx fuel)
def j26:OK mx 2 (Vq fuel):=cG (m:=0) (d:=1) bH (dJ (Po mx) (dJ (rZ mx) bG)) (jhe mx) (jie fuel)
def j25:OK mx 2 (Vp fuel):=cG (m:=0) (d:=1) bH (dJ (rZ mx) bG) (jhd mx) (jic fuel)
def j39:OK mx 8 (Wn fuel):=cG (m:=7) (d:=0) (oC (jnj mx) (oC (j26 mx) bH)) bG (jhy mx) (jpv fuel)
def j38:OK mx 8 (Wm fuel):=cG (m:=7) (d:=0) (oC (jnj mx) (oC (j25 mx) bH)) bG (jhx mx) (jpt fuel)
def j4a:OK mx 3 (jev fuel):=cG (m:=1) (d:=1) (oC (qX mx) bH) (dJ (jh2 mx) (dJ (jw3 mx) bG)) (jw4 mx) (j7l fuel)
def j37:OK mx 1 (Wl fuel):=cG (m:=0) (d:=0) bH bG (jhw mx) (jpm fuel)
def jnf:OK mx 9 (Np fuel):=cG (m:=8) (d:=0) (oC (j39 mx) (oC (j38 mx) (oC (j37 mx) bH))) bG (jhu mx) (jpk fuel)
def j36:OK mx 10 (jeu fuel):=cG (m:=9) (d:=0) (oC (jnf mx) (oC (j4a mx) bH)) bG (jw1 mx) (j7h fuel)
def jm4:OK mx 1 (Nk fuel):=cG (m:=0) (d:=0) bH bG (Po mx) (jlq fuel)
def jng:OK mx 2 (Nq fuel):=cG (m:=1) (d:=0) (oC (jm4 mx) bH) bG (jhv mx) (jpl fuel)
def j4c:OK mx 3 (Wp fuel):=cG (m:=0) (d:=2) bH (dJ (jho mx) (dJ (jhq mx) bG)) (jh4 mx) (jp0 fuel)
def j4b:OK mx 4 (Wo fuel):=cG (m:=3) (d:=0) (oC (j4c mx) bH) bG (jh3 mx) (jpz fuel)
def j3l:OK mx 1 (Vy fuel):=cG (m:=0) (d:=0) bH bG (jhr mx) (jn4 fuel)
def j3k:OK mx 7 (Vx fuel):=cG (m:=5) (d:=1) (oC (qX mx) (oC (j4b mx) (oC (jni mx) (oC (j3l mx) bH)))) (dJ (jhp mx) bG) (jhn mx) (jn3 fuel)
def j4e:qA (BB mx) (told mx) prog 1 [⟨59,2,[(.row kL),(.v (.fn 60))],[],Gs fuel⟩]:=jd4 (t:=Ch) rfl (λL=>(sZ jW L).length_eq) (λL h=>jdy rfl L h) (λaz g h=>pJ h)
def j4d:qA (BB mx) (told mx) prog 1 [⟨53,2,[(.row wG),(.v (.fn 54))],[],Vg fuel⟩]:=jd4 (t:=Vn) rfl (λL=>(sZ lE L).length_eq) (λL h=>jdy rfl L h) (λaz g h=>cS rfl (pJ h))
def j33:OK mx 11 (No fuel):=jag (m:=9) (d:=1) (oC (j3k mx) (oC (jnf mx) bH)) (Xh (Xj (j4e mx) (pT rfl)) Xi) (dJ (jh1 mx) bG) (eO mx) (jhs mx) (jpi fuel)
def j34:OK mx 13 (Wj fuel):=jag (m:=10) (d:=2) (oC (qX mx) (oC (j36 mx) (oC (jng mx) bH))) (Xh (Xj (j4d mx) (pT rfl)) Xi) (dJ (jw2 mx) (dJ (jw5 mx) (dJ (jh2 mx) bG))) (eO mx) (jw0 mx) (j7g fuel)
def j3u:OK mx 1 (jel fuel):=cG (m:=0) (d:=0) bH bG (jwj mx) (j56 fuel)
def j3r:OK mx 1 (jei fuel):=cG (m:=0) (d:=0) bH bG (jwe mx) (j51 fuel)
def j3t:OK mx 1 (jek fuel):=cG (m:=0) (d:=0) bH bG (jwg mx) (j53 fuel)
def jb9:OK mx 1 (Nl fuel):=cG (m:=0) (d:=0) bH bG (jv4 mx) (j5r fuel)
def j3m:OK mx 2 (jed fuel):=cG (m:=1) (d:=0) (oC (jb9 mx) bH) bG (jv6 mx) (j5t fuel)
def j3n:OK mx 3 (jee fuel):=cG (m:=2) (d:=0) (oC (jb9 mx) (oC (j3m mx) bH)) bG (jv7 mx) (j5u fuel)
def j3p:OK mx 1 (jeg fuel):=cG (m:=0) (d:=0) bH bG (jv9 mx) (j5w fuel)
def Sh:OK mx 1 (Hd fuel):=cG (m:=0) (d:=0) bH bG (jwa mx) (j5x fuel)
def j3q:OK mx 2 (jeh fuel):=cG (m:=1) (d:=0) (oC (Sh mx) bH) bG (jwd mx) (j50 fuel)
def jm5:OK mx 2 (Vz fuel):=cG (m:=1) (d:=0) (oC (Sh mx) (oC (jb9 mx) bH)) bG (jwb mx) (j5y fuel)
def jm6:OK mx 4 (Wa fuel):=cG (m:=3) (d:=0) (oC (jm5 mx) (oC (Sh mx) (oC (j3n mx) (oC (j3q mx) bH)))) bG (jwc mx) (j5z fuel)
def jm7:OK mx 5 (Wb fuel):=cG (m:=4) (d:=0) (oC (j3t mx) (oC (jm6 mx) bH)) bG (jwh mx) (j54 fuel)
def Si:OK mx 6 (He fuel):=cG (m:=5) (d:=0) (oC (jm7 mx) bH) bG (jwi mx) (j55 fuel)
def j3s:OK mx 5 (jej fuel):=cG (m:=4) (d:=0) (oC (jm6 mx) (oC (Sh mx) bH)) bG (jwf mx) (j52 fuel)
def jm8:OK mx 7 (Wc fuel):=cG (m:=6) (d:=0) (oC (Si mx) bH) bG (jwm mx) (j59 fuel)
def j3w:OK mx 7 (jen fuel):=cG (m:=6) (d:=0) (oC (Si mx) (oC (jm7 mx) bH)) bG (jwl mx) (j58 fuel)
def j3v:OK mx 1 (jem fuel):=cG (m:=0) (d:=0) bH bG (jwk mx) (j57 fuel)
def j3y:OK mx 1 (jep fuel):=cG (m:=0) (d:=0) bH bG (jwr mx) (j6e fuel)
def jm9:OK mx 7 (Wd fuel):=cG (m:=6) (d:=0) (oC (Si mx) (oC (j3r mx) (oC (jm5 mx) (oC (j3s mx) (oC (j3y mx) bH))))) bG (jwn mx) (j6a fuel)
def jna:OK mx 1 (We fuel):=cG (m:=0) (d:=0) bH bG (jwo mx) (j6b fuel)
def j30:OK mx 8 (jer fuel):=cG (m:=7) (d:=0) (oC (jm9 mx) (oC (jna mx) (oC (j3p mx) bH))) bG (jwt mx) (j6g fuel)
def j31:OK mx 1 (jes fuel):=cG (m:=0) (d:=0) bH bG (jwu mx) (j6h fuel)
def jnb:OK mx 8 (Wf fuel):=cG (m:=7) (d:=0) (oC (jm9 mx) (oC (jna mx) (oC (j31 mx) bH))) bG (jwp mx) (j6c fuel)
def j3x:OK mx 9 (jeo fuel):=cG (m:=8) (d:=0) (oC (jm8 mx) (oC (Si mx) (oC (j30 mx) (oC (j3w mx) bH)))) bG (jwq mx) (j6d fuel)
def Sf (mx:Int):cE (BB mx) fV prog 1 [lR fuel]:=fQ (m:=0) (d:=0) bH bG (eO mx) ⟨λ_=>rfl,(Pq mx).2⟩ (Vb fuel)
def j2x (mx:Int):cE (BB mx) fV prog 3 [wC fuel]:=fQ (m:=1) (d:=1) (oC (Sf mx) bH) (dJ ⟨λ_=>rfl,(Df mx).2⟩ (dJ ⟨λ_=>rfl,(Pt mx).2⟩ bG)) (eO mx) ⟨λ_=>rfl,(Pp mx).2⟩ (Va fuel)
def j2z (mx:Int):cE (BB mx) fV prog 3 [wD fuel]:=fQ (m:=1) (d:=1) (oC (Sf mx) bH) (dJ ⟨λ_=>rfl,(rZ mx).2⟩ bG) (eO mx) ⟨λ_=>rfl,(Pr mx).2⟩ (Vc fuel)
def j2k (mx:Int):cE (BB mx) fV prog 2 [wB fuel]:=fQ (m:=0) (d:=1) bH (dJ ⟨λ_=>rfl,(rZ mx).2⟩ bG) (eO mx) ⟨λ_=>rfl,(Pn mx).2⟩ (Px fuel)
def j21 (mx:Int):cE (BB mx) fV prog 4 [wE fuel]:=fQ (m:=3) (d:=0) (oC (j2x mx) (oC (j2k mx) (oC (j2z mx) bH))) bG (eO mx) ⟨λ_=>rfl,(Ps mx).2⟩ (Vd fuel)
def jmz (mx:Int):cE (BB mx) fV prog 5 [Nr fuel]:=fQ (m:=4) (d:=0) (oC (j21 mx) bH) bG (eO mx) ⟨λ_=>rfl,(jhz mx).2⟩ (jpw fuel)
def jm0 (mx:Int):cE (BB mx) fV prog 7 [Ns fuel]:=fQ (m:=5) (d:=1) (oC (Sf mx) (oC (jmz mx) bH)) (dJ ⟨λ_=>rfl,(Df mx).2⟩ bG) (eO mx) ⟨λ_=>rfl,(jh0 mx).2⟩ (jpx fuel)
def j2j (mx:Int):cE (BB mx) fV prog 2 [Vq fuel]:=fQ (m:=0) (d:=1) bH (dJ ⟨λ_=>rfl,(Po mx).2⟩ (dJ ⟨λ_=>rfl,(rZ mx).2⟩ bG)) (eO mx) ⟨λ_=>rfl,(jhe mx).2⟩ (jie fuel)
def j2i (mx:Int):cE (BB mx) fV prog 2 [Vp fuel]:=fQ (m:=0) (d:=1) bH (dJ ⟨λ_=>rfl,(rZ mx).2⟩ bG) (eO mx) ⟨λ_=>rfl,(jhd mx).2⟩ (jic fuel)
def j20 (mx:Int):cE (BB mx) fV prog 8 [Wn fuel]:=fQ (m:=7) (d:=0) (oC (jm0 mx) (oC (j2j mx) bH)) bG (eO mx) ⟨λ_=>rfl,(jhy mx).2⟩ (jpv fuel)
def j2y (mx:Int):cE (BB mx) fV prog 8 [Wm fuel]:=fQ (m:=7) (d:=0) (oC (jm0 mx) (oC (j2i mx) bH)) bG (eO mx) ⟨λ_=>rfl,(jhx mx).2⟩ (jpt fuel)
def j2w (mx:Int):cE (BB mx) fV prog 1 [Wl fuel]:=fQ (m:=0) (d:=0) bH bG (eO mx) ⟨λ_=>rfl,(jhw mx).2⟩ (jpm fuel)
def j2u (mx:Int):cE (BB mx) fV prog 9 [Np fuel]:=fQ (m:=8) (d:=0) (oC (j20 mx) (oC (j2y mx) (oC (j2w mx) bH))) bG (eO mx) ⟨λ_=>rfl,(jhu mx).2⟩ (jpk fuel)
def jmx (mx:Int):cE (BB mx) fV prog 1 [Nk fuel]:=fQ (m:=0) (d:=0) bH bG (eO mx) ⟨λ_=>rfl,(Po mx).2⟩ (jlq fuel)
def j2v (mx:Int):cE (BB mx) fV prog 2 [Nq fuel]:=fQ (m:=1) (d:=0) (oC (jmx mx) bH) bG (eO mx) ⟨λ_=>rfl,(jhv mx).2⟩ (jpl fuel)
def j23 (mx:Int):cE (BB mx) fV prog 3 [Wp fuel]:=fQ (m:=0) (d:=2) bH (dJ ⟨λ_=>rfl,(jho mx).2⟩ (dJ ⟨λ_=>rfl,(jhq mx).2⟩ bG)) (eO mx) ⟨λ_=>rfl,(jh4 mx).2⟩ (jp0 fuel)
def j22 (mx:Int):cE (BB mx) fV prog 4 [Wo fuel]:=fQ (m:=3) (d:=0) (oC (j23 mx) bH) bG (eO mx) ⟨λ_=>rfl,(jh3 mx).2⟩ (jpz fuel)
def j2r (mx:Int):cE (BB mx) fV prog 1 [Vy fuel]:=fQ (m:=0) (d:=0) bH bG (eO mx) ⟨λ_=>rfl,(jhr mx).2⟩ (jn4 fuel)
def j2q (mx:Int):cE (BB mx) fV prog 7 [Vx fuel]:=fQ (m:=5) (d:=1) (oC (Sf mx) (oC (j22 mx) (oC (jmz mx) (oC (j2r mx) bH)))) (dJ ⟨λ_=>rfl,(jhp mx).2⟩ bG) (eO mx) ⟨λ_=>rfl,(jhn mx).2⟩ (jn3 fuel)
def j24 (mx:Int):qA (BB mx) fV prog 1 [⟨59,2,[(.row kL),(.v (.fn 60))],[],Gs fuel⟩]:=jd4 (t:=Ch) rfl (λL=>(sZ jW L).length_eq) (λL h=>jdy rfl L h) (λaz g h=>pJ h)
def j2s (mx:Int):cE (BB mx) fV prog 11 [No fuel]:=jag (m:=9) (d:=1) (oC (j2q mx) (oC (j2u mx) bH)) (Xh (Xj (j24 mx) (pT rfl)) Xi) (dJ ⟨λ_=>rfl,(jh1 mx).2⟩ bG) (eO mx) ⟨λ_=>rfl,(jhs mx).2⟩ (jpi fuel)
def j2p (mx:Int):cE (BB mx) fV prog 1 [jec fuel]:=jqi (λaz g h=>cS rfl (pJ h))
def j2n (mx:Int):cE (BB mx) fV prog 1 [jd8 fuel]:=jql (λaz g h=>cS rfl (cS rfl (pJ h)))
def j2o (mx:Int):cE (BB mx) fV prog 3 [Vt fuel]:=fQ (m:=1) (d:=1) (oC (j2p mx) (oC (j2n mx) bH)) (dJ ⟨λ_=>rfl,(jhi mx).2⟩ bG) (eO mx) ⟨λ_=>rfl,(jhk mx).2⟩ (jk1 fuel)
def Sg (mx:Int):cE (BB mx) fV prog 7 [Cl fuel]:=fQ (m:=3) (d:=3) (oC (j2o mx) bH) (dJ ⟨λ_=>rfl,(jhh mx).2⟩ (dJ ⟨λ_=>rfl,(jhg mx).2⟩ (dJ ⟨λ_=>rfl,(jhl mx).2⟩ (dJ ⟨λ_=>rfl,(jhj mx).2⟩ bG)))) (eO mx) ⟨λ_=>rfl,(jh5 mx).2⟩ (jqb fuel)
def jmy (mx:Int):cE (BB mx) fV prog 8 [Vw fuel]:=fQ (m:=7) (d:=0) (oC (Sg mx) (oC (jmx mx) bH)) bG (eO mx) ⟨λ_=>rfl,(jhm mx).2⟩ (jls fuel)
def j2t (mx:Int):cE (BB mx) fV prog 9 [Wk fuel]:=fQ (m:=8) (d:=0) (oC (Sg mx) (oC (j2v mx) (oC (jmy mx) bH))) bG (eO mx) ⟨λ_=>rfl,(jht mx).2⟩ (jpj fuel)
def j2l (mx:Int):cE (BB mx) fV prog 1 [Nj fuel]:=jqp (λaz g h=>cS rfl (cS rfl (cS rfl h)))
def j2m (mx:Int):cE (BB mx) fV prog 8 [Vr fuel]:=fQ (m:=7) (d:=0) (oC (j2l mx) (oC (Sg mx) bH)) bG (eO mx) ⟨λ_=>rfl,(jhf mx).2⟩ (jjn fuel)
def j3j:cE (BB mx) (told mx) prog 1 [jec fuel]:=jqi (λaz g h=>cS rfl (cS rfl (pJ h)))
def j3b:cE (BB mx) (told mx) prog 1 [jd8 fuel]:=jql (λaz g h=>cS rfl (cS rfl (cS rfl (pJ h))))
def j3c:OK mx 3 (Vt fuel):=cG (m:=1) (d:=1) (oC (j3j mx) (oC (j3b mx) bH)) (dJ (jhi mx) bG) (jhk mx) (jk1 fuel)
def Sj:OK mx 7 (Cl fuel):=cG (m:=3) (d:=3) (oC (j3c mx) bH) (dJ (jhh mx) (dJ (jhg mx) (dJ (jhl mx) (dJ (jhj mx) bG)))) (jh5 mx) (jqb fuel)
def j3i:OK mx 8 (Vw fuel):=cG (m:=7) (d:=0) (oC (Sj mx) (oC (jm4 mx) bH)) bG (jhm mx) (jls fuel)
def j35:OK mx 9 (Wk fuel):=cG (m:=8) (d:=0) (oC (Sj mx) (oC (jng mx) (oC (j3i mx) bH))) bG (jht mx) (jpj fuel)
def jnr (mx:Int):∀n,cE (BB mx) (told mx) prog (0+n*1) [⟨27,[aV],[dO],Lv fuel n⟩]
 | 0=>λt ht n hn=>by
   rw[bF.1 ht];intro a r hr;cases hr
 | n+1=>wO (fQ (m:=0+n*1) (d:=0) (wN (jnr mx n) bH) bG (eO mx) (jv5 mx) (λa=>j5s fuel _ a)) (by omega)
def Fc:OK mx 22 (Cj fuel):=jnr mx 22
def j3o:OK mx 23 (jef fuel):=cG (m:=22) (d:=0) (oC (Fc mx) bH) bG (jv8 mx) (j5v fuel)
def j3z:OK mx 24 (jeq fuel):=cG (m:=23) (d:=0) (oC (Fc mx) (oC (j3o mx) bH)) bG (jws mx) (j6f fuel)
def jnm:cE (BB mx) (told mx) prog 1 [jex fuel]:=j8r (λaz g h=>cS rfl (cS rfl (cS rfl (cS rfl (pJ h)))))
def jnk:cE (BB mx) (told mx) prog 1 [jew fuel]:=j8f (λaz g h=>cS rfl (cS rfl (cS rfl (cS rfl (cS rfl (pJ h))))))
def j4f:cE (BB mx) (told mx) prog 1 [jqt fuel]:=j8j (λaz g h=>cS rfl (cS rfl (cS rfl (cS rfl (cS rfl (cS rfl (pJ h)))))))
def j3h:cE (BB mx) (told mx) prog 1 [jqs fuel]:=j8l (jmy mx _ (bF.2 rfl) 8 (by decide)) (λaz g h=>cS rfl (cS rfl (cS rfl (cS rfl (cS rfl (cS rfl (cS rfl (pJ h))))))))
def jne:OK mx 10 (Wi fuel):=cG (m:=9) (d:=0) (oC (j35 mx) (oC (jnm mx) (oC (jnk mx) (oC (j3h mx) (oC (j4f mx) bH))))) bG (jwz mx) (j7f fuel)
def jb8:cE (BB mx) (told mx) prog 1 [Nj fuel]:=jqp (λaz g h=>cS rfl (cS rfl (cS rfl (cS rfl (cS rfl (cS rfl (cS rfl (cS rfl (pJ h)))))))))
def j4g:cE (BB mx) (told mx) prog 1 [jqu fuel]:=j8n (λaz g h=>cS rfl (cS rfl (cS rfl (cS rfl (cS rfl (cS rfl (cS rfl (cS rfl (cS rfl (pJ h))))))))))
def j3a:OK mx 8 (Vr fuel):=cG (m:=7) (d:=0) (oC (jb8 mx) (oC (Sj mx) bH)) bG (jhf mx) (jjn fuel)
def j27:cE (BB mx) (told mx) prog 1 [jqq fuel]:=j8h (j2s mx _ (bF.2 rfl) 24 (by decide)) (j2t mx _ (bF.2 rfl) 24 (by decide)) (Sg mx _ (bF.2 rfl) 24 (by decide)) (j2m mx _ (bF.2 rfl) 24 (by decide)) (λaz g h=>cS rfl (cS rfl (cS rfl (cS rfl (cS rfl (cS rfl (cS rfl (cS rfl (cS rfl (cS rfl (h)))))))))))
def jnl:OK mx 3 (Wq fuel):=cG (m:=0) (d:=2) bH (dJ (jvw mx) (dJ (jvx mx) bG)) (jw6 mx) (j77 fuel)
def jm1:OK mx 8 (Vs fuel):=cG (m:=7) (d:=0) (oC (Sj mx) (oC (jnm mx) (oC (jnk mx) bH))) bG (jvv mx) (jyw fuel)
def j29:OK mx 12 (jd7 fuel):=cG (m:=10) (d:=1) (oC (jnl mx) (oC (jm1 mx) (oC (jne mx) bH))) (dJ (jw7 mx) bG) (jvu mx) (jyv fuel)
def jb7:OK mx 14 (Ni fuel):=cG (m:=13) (d:=0) (oC (jb8 mx) (oC (j29 mx) (oC (qX mx) (oC (j34 mx) (oC (j33 mx) bH))))) bG (jvs mx) (jyt fuel)
def j28:OK mx 15 (jd6 fuel):=cG (m:=14) (d:=0) (oC (jb7 mx) (oC (j3a mx) (oC (jnl mx) (oC (j4g mx) (oC (jm1 mx) bH))))) bG (jvt mx) (jyu fuel)
def jnd:OK mx 1 (Wh fuel):=cG (m:=0) (d:=0) bH bG (jwy mx) (j6l fuel)
def jca:OK mx 23 (Nn fuel):=cG (m:=22) (d:=0) (oC (jnd mx) (oC (Fc mx) bH)) bG (jwx mx) (j6k fuel)
def jnc:OK mx 25 (Wg fuel):=cG (m:=24) (d:=0) (oC (j3z mx) (oC (Fc mx) (oC (jnb mx) bH))) bG (jwv mx) (j6i fuel)
def j32:OK mx 26 (jet fuel):=cG (m:=25) (d:=0) (oC (jca mx) (oC (jnc mx) bH)) bG (jww mx) (j6j fuel)
def j3d:OK mx 8 (jd9 fuel):=cG (m:=7) (d:=0) (oC (jm8 mx) bH) bG (jvy mx) (j0d fuel)
def jm3:OK mx 23 (Vv fuel):=cG (m:=22) (d:=0) (oC (Fc mx) bH) bG (jv2 mx) (j0h fuel)
def jm2:OK mx 1 (Vu fuel):=cG (m:=0) (d:=0) bH bG (jv0 mx) (j0f fuel)
def j3g:OK mx 24 (jeb fuel):=cG (m:=23) (d:=0) (oC (jnd mx) (oC (jm2 mx) (oC (jm3 mx) (oC (j3u mx) (oC (jnb mx) (oC (jne mx) (oC (j3x mx) bH))))))) bG (jv3 mx) (j0i fuel)
def j3f:OK mx 24 (jea fuel):=cG (m:=23) (d:=0) (oC (jb8 mx) (oC (jca mx) (oC (jb7 mx) (oC (j27 mx) (oC (j3v mx) bH))))) bG (jv1 mx) (j0g fuel)
def j3e:OK mx 27 (jqr fuel):=cG (m:=26) (d:=0) (oC (j3f mx) (oC (jca mx) (oC (jm2 mx) (oC (jm3 mx) (oC (jb7 mx) (oC (j3d mx) (oC (jnc mx) (oC (j32 mx) (oC (j28 mx) (oC (Fc mx) (oC (j3g mx) bH))))))))))) bG (jvz mx) (j0e fuel)
end
end Vm
end Go.Proofs.YtccefhabickfiaaGreatDoor
