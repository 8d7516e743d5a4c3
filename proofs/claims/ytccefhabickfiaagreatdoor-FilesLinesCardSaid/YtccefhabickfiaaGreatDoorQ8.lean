/- The contracts of the program's functions, one after another. (Printed by a program.) -/
import Derived.Test.YtccefhabickfiaaGreatDoorQ7
import Derived.Test.YtccefhabickfiaaGreatDoorSM
set_option linter.unusedSimpArgs false
set_option linter.unusedVariables false
namespace Go.Proofs.YtccefhabickfiaaGreatDoor
namespace Vm
open Go Go.Vm Go.Vm.W Go.Vm.X
noncomputable section
set_option maxRecDepth 100000
theorem cP (mx:Int):GRel (BB mx) O2 GG:=jz7 (B:=BB mx) (es:=ex mx++es) (jqw mx).symm (l:=GM) (by kernel_rfl) (by kernel_rfl)
theorem oC {B:Base} {memo:iP} {prog:Tr CFn} {m n:Nat} {t:TE} {T:List TE} (h:eG B memo prog n [t]) (h':eG B memo prog m T) (hm:n.ble m=true:=by rfl):eG B memo prog m (t::T):=T1 (T3 h (xM hm)) h'
abbrev OK (mx:Int) (l:Nat) (t:TE):Prop:=eG (BB mx) (told mx) prog l [t]
abbrev CK (mx:Int) (x:FuncId×Fx):Prop:=(∀vs,told mx x.1 vs=none)/\prog.get x.1=some x.2.cfn
theorem dH {mx:Int} {x:FuncId×Fx} (h1:∀vs,told mx x.1 vs=none:=by exact λ_=>rfl) (h2:prog.get x.1=some x.2.cfn:=by kernel_rfl):CK mx x:=⟨h1,h2⟩
variable (mx:Int)
theorem kbk:CK mx j76:=dH
theorem kan:CK mx j63:=dH
theorem kbj:CK mx j75:=dH
theorem kam:CK mx j62:=dH
theorem kao:CK mx j64:=dH
theorem kal:CK mx j61:=dH
theorem j99:CK mx j6i:=dH
theorem kaf:CK mx j6v:=dH
theorem kbh:CK mx j73:=dH
theorem kbe:CK mx j70:=dH
theorem kbi:CK mx j74:=dH
theorem ka6:CK mx j7s:=dH
theorem kar:CK mx j7d:=dH
theorem kap:CK mx j65:=dH
theorem ka5:CK mx j7r:=dH
theorem kab:CK mx j6k:=dH
theorem jlg:CK mx jkj:=dH
theorem kbm:CK mx j79:=dH
theorem jye:CK mx j77:=dH
theorem jyr:CK mx j8q:=dH
theorem jyf:CK mx j8a:=dH
theorem jx1:CK mx j6l:=dH
theorem ka8:CK mx j7u:=dH
theorem kbb:CK mx j7x:=dH
theorem kau:CK mx j7g:=dH
theorem kbs:CK mx j8r:=dH
theorem kac:CK mx j6m:=dH
theorem kbl:CK mx j78:=dH
theorem kbc:CK mx j7y:=dH
theorem ka4:CK mx j7q:=dH
theorem kbt:CK mx j8s:=dH
theorem kbn:CK mx j8d:=dH
theorem kbo:CK mx j8f:=dH
theorem kbr:CK mx j8m:=dH
theorem jx9:CK mx j67:=dH
theorem jyg:CK mx j8b:=dH
theorem jyn:CK mx j8n:=dH
theorem jx3:CK mx j6q:=dH
theorem jyh:CK mx j8c:=dH
theorem jx8:CK mx j66:=dH
theorem ka9:CK mx j7v:=dH
theorem kba:CK mx j7w:=dH
theorem kbg:CK mx j72:=dH
theorem kad:CK mx j6n:=dH
theorem kbf:CK mx j71:=dH
theorem ka7:CK mx j7t:=dH
theorem ka3:CK mx j7p:=dH
theorem kbq:CK mx j8k:=dH
theorem jyo:CK mx jwi:=dH
theorem jyp:CK mx j8o:=dH
theorem jya:CK mx j68:=dH
theorem jyc:CK mx j7a:=dH
theorem jyl:CK mx j8i:=dH
theorem jyb:CK mx j69:=dH
theorem jyd:CK mx j7b:=dH
theorem jyk:CK mx j8h:=dH
theorem jyj:CK mx j8g:=dH
theorem jyi:CK mx j8e:=dH
theorem jx2:CK mx j6p:=dH
theorem jle:CK mx jwh:=dH
theorem ka0:CK mx j7m:=dH
theorem kax:CK mx j7j:=dH
theorem ka1:CK mx j7n:=dH
theorem kbd:CK mx j7z:=dH
theorem kae:CK mx j6o:=dH
theorem kav:CK mx j7h:=dH
theorem ka2:CK mx j7o:=dH
theorem kay:CK mx j7k:=dH
theorem kbp:CK mx j8j:=dH
theorem jyq:CK mx j8p:=dH
theorem jli:CK mx jkm:=dH
theorem jym:CK mx j8l:=dH
theorem jx0:CK mx j6h:=dH
theorem jxz:CK mx j6g:=dH
theorem jx7:CK mx j6u:=dH
theorem jx6:CK mx j6t:=dH
theorem jx5:CK mx j6s:=dH
theorem kaw:CK mx j7i:=dH
theorem kaq:CK mx j7c:=dH
theorem kat:CK mx j7f:=dH
theorem kaz:CK mx j7l:=dH
theorem jrw:CK mx jkk:=dH
theorem jlf:CK mx jki:=dH
theorem jld:CK mx jkh:=dH
theorem jlh:CK mx jkl:=dH
theorem jd4:CK mx jf5:=dH
theorem c7:CK mx S6:=dH
theorem jx4:CK mx j6r:=dH
theorem kas:CK mx j7e:=dH
theorem jlj:CK mx jkn:=dH
theorem yV:OK mx 1 (rJ fuel):=cW (m:=0) (d:=0) cR cQ (cP mx) (jlg mx) (λa=>jo3 fuel a)
theorem jt5:OK mx 3 (J7 fuel):=cW (m:=1) (d:=1) (oC (yV mx) cR) (gR (jd4 mx) (gR (jlj mx) cQ)) (cP mx) (jlf mx) (λa=>jo2 fuel a)
theorem jt6:OK mx 3 (J8 fuel):=cW (m:=1) (d:=1) (oC (yV mx) cR) (gR (c7 mx) cQ) (cP mx) (jlh mx) (λa=>jo4 fuel a)
theorem jty:OK mx 2 (J6 fuel):=cW (m:=0) (d:=1) cR (gR (c7 mx) cQ) (cP mx) (jld mx) (λa=>jlo fuel a)
theorem jt7:OK mx 4 (R5 fuel):=cW (m:=3) (d:=0) (oC (jt5 mx) (oC (jty mx) (oC (jt6 mx) cR))) cQ (cP mx) (jli mx) (λa=>jo5 fuel a)
theorem j2p:OK mx 5 (jj4 fuel):=cW (m:=4) (d:=0) (oC (jt7 mx) cR) cQ (cP mx) (jyl mx) (λa=>j4g fuel a)
theorem j2o:OK mx 2 (jdd fuel):=cW (m:=1) (d:=0) (oC (yV mx) cR) cQ (cP mx) (jrw mx) (λa=>ju4 fuel a)
theorem j2q:OK mx 7 (jf2 fuel):=cW (m:=5) (d:=1) (oC (yV mx) (oC (j2p mx) cR)) (gR (jd4 mx) cQ) (cP mx) (jym mx) (λa=>j4h fuel a)
theorem ki6:OK mx 2 (jjr fuel):=cW (m:=0) (d:=1) cR (gR (jle mx) (gR (c7 mx) cQ)) (cP mx) (jx0 mx) (λa=>jyy fuel a)
theorem ki5:OK mx 2 (jjq fuel):=cW (m:=0) (d:=1) cR (gR (c7 mx) cQ) (cP mx) (jxz mx) (λa=>jyx fuel a)
theorem kj6:OK mx 8 (jp0 fuel):=cW (m:=7) (d:=0) (oC (j2q mx) (oC (ki6 mx) cR)) cQ (cP mx) (jyk mx) (λa=>j4f fuel a)
theorem kj5:OK mx 8 (jpz fuel):=cW (m:=7) (d:=0) (oC (j2q mx) (oC (ki5 mx) cR)) cQ (cP mx) (jyj mx) (λa=>j4d fuel a)
theorem kj7:OK mx 3 (jp1 fuel):=cW (m:=1) (d:=1) (oC (yV mx) cR) (gR (jyo mx) (gR (kbp mx) cQ)) (cP mx) (kbq mx) (λa=>km1 fuel a)
theorem kj4:OK mx 1 (jpy fuel):=cW (m:=0) (d:=0) cR cQ (cP mx) (jyi mx) (λa=>j36 fuel a)
theorem j2m:OK mx 9 (jj2 fuel):=cW (m:=8) (d:=0) (oC (kj6 mx) (oC (kj5 mx) (oC (kj4 mx) cR))) cQ (cP mx) (jyg mx) (λa=>j34 fuel a)
theorem kj3:OK mx 10 (jv6 fuel):=cW (m:=9) (d:=0) (oC (j2m mx) (oC (kj7 mx) cR)) cQ (cP mx) (kbn mx) (λa=>kmx fuel a)
theorem j19:OK mx 1 (jjx fuel):=cW (m:=0) (d:=0) cR cQ (cP mx) (jle mx) (λa=>j06 fuel a)
theorem j2n:OK mx 2 (jj3 fuel):=cW (m:=1) (d:=0) (oC (j19 mx) cR) cQ (cP mx) (jyh mx) (λa=>j35 fuel a)
theorem kj9:OK mx 3 (jj5 fuel):=cW (m:=0) (d:=2) cR (gR (jya mx) (gR (jyc mx) cQ)) (cP mx) (jyq mx) (λa=>j4k fuel a)
theorem kj8:OK mx 4 (jp2 fuel):=cW (m:=3) (d:=0) (oC (kj9 mx) cR) cQ (cP mx) (jyp mx) (λa=>j4j fuel a)
theorem kjl:OK mx 1 (jpj fuel):=cW (m:=0) (d:=0) cR cQ (cP mx) (jyd mx) (λa=>j23 fuel a)
theorem kjk:OK mx 7 (jjy fuel):=cW (m:=5) (d:=1) (oC (yV mx) (oC (kj8 mx) (oC (j2p mx) (oC (kjl mx) cR)))) (gR (jyb mx) cQ) (cP mx) (jx9 mx) (λa=>j22 fuel a)
theorem kkb:xX (BB mx) (told mx) prog 1 [⟨59,2,[(.row pU),(.v (.fn 60))],[],zH fuel⟩]:=jvl (t:=jc9) rfl (λL=>(tG jO L).length_eq) (λL h=>jvh rfl L h) (λaz g h=>xE h)
theorem kka:xX (BB mx) (told mx) prog 1 [⟨53,2,[(.row R7),(.v (.fn 54))],[],jfp fuel⟩]:=jvl (t:=jpc) rfl (λL=>(tG kG L).length_eq) (λL h=>jvh rfl L h) (λaz g h=>fF rfl (xE h))
theorem kj0:OK mx 11 (jj1 fuel):=jsz (m:=9) (d:=1) (oC (kjk mx) (oC (j2m mx) cR)) (jq2 (jq4 (kkb mx) (xM rfl)) jq3) (gR (jyn mx) cQ) (cP mx) (jye mx) (λa=>j32 fuel a)
theorem kj1:OK mx 13 (jpw fuel):=jsz (m:=10) (d:=2) (oC (yV mx) (oC (kj3 mx) (oC (j2n mx) cR))) (jq2 (jq4 (kka mx) (xM rfl)) jq3) (gR (kbo mx) (gR (kbr mx) (gR (jyo mx) cQ))) (cP mx) (kbm mx) (λa=>kmw fuel a)
theorem kju:OK mx 1 (jv0 fuel):=cW (m:=0) (d:=0) cR cQ (cP mx) (ka5 mx) (λa=>kl0 fuel a)
theorem kjr:OK mx 1 (jvx fuel):=cW (m:=0) (d:=0) cR cQ (cP mx) (ka0 mx) (λa=>klv fuel a)
theorem kjt:OK mx 1 (jvz fuel):=cW (m:=0) (d:=0) cR cQ (cP mx) (ka2 mx) (λa=>klx fuel a)
theorem jt3:OK mx 1 (jjz fuel):=cW (m:=0) (d:=0) cR cQ (cP mx) (kaq mx) (λa=>kll fuel a)
theorem kjm:OK mx 2 (jvs fuel):=cW (m:=1) (d:=0) (oC (jt3 mx) cR) cQ (cP mx) (kas mx) (λa=>kln fuel a)
theorem kjn:OK mx 3 (jvt fuel):=cW (m:=2) (d:=0) (oC (jt3 mx) (oC (kjm mx) cR)) cQ (cP mx) (kat mx) (λa=>klo fuel a)
theorem kjp:OK mx 1 (jvv fuel):=cW (m:=0) (d:=0) cR cQ (cP mx) (kav mx) (λa=>klq fuel a)
theorem joi:OK mx 1 (jf0 fuel):=cW (m:=0) (d:=0) cR cQ (cP mx) (kaw mx) (λa=>klr fuel a)
theorem kjq:OK mx 2 (jvw fuel):=cW (m:=1) (d:=0) (oC (joi mx) cR) cQ (cP mx) (kaz mx) (λa=>klu fuel a)
theorem j2a:OK mx 2 (jpk fuel):=cW (m:=1) (d:=0) (oC (joi mx) (oC (jt3 mx) cR)) cQ (cP mx) (kax mx) (λa=>kls fuel a)
theorem j2b:OK mx 4 (jpl fuel):=cW (m:=3) (d:=0) (oC (j2a mx) (oC (joi mx) (oC (kjn mx) (oC (kjq mx) cR)))) cQ (cP mx) (kay mx) (λa=>klt fuel a)
theorem j2c:OK mx 5 (jpm fuel):=cW (m:=4) (d:=0) (oC (kjt mx) (oC (j2b mx) cR)) cQ (cP mx) (ka3 mx) (λa=>kly fuel a)
theorem joj:OK mx 6 (jf1 fuel):=cW (m:=5) (d:=0) (oC (j2c mx) cR) cQ (cP mx) (ka4 mx) (λa=>klz fuel a)
theorem kjs:OK mx 5 (jvy fuel):=cW (m:=4) (d:=0) (oC (j2b mx) (oC (joi mx) cR)) cQ (cP mx) (ka1 mx) (λa=>klw fuel a)
theorem j2e:OK mx 7 (jpo fuel):=cW (m:=6) (d:=0) (oC (joj mx) cR) cQ (cP mx) (ka8 mx) (λa=>kl3 fuel a)
theorem kjv:OK mx 7 (jv1 fuel):=cW (m:=6) (d:=0) (oC (joj mx) (oC (j2c mx) cR)) cQ (cP mx) (ka7 mx) (λa=>kl2 fuel a)
theorem j2d:OK mx 1 (jpn fuel):=cW (m:=0) (d:=0) cR cQ (cP mx) (ka6 mx) (λa=>kl1 fuel a)
theorem kjx:OK mx 1 (jv3 fuel):=cW (m:=0) (d:=0) cR cQ (cP mx) (kbd mx) (λa=>kl8 fuel a)
theorem j2f:OK mx 7 (jpp fuel):=cW (m:=6) (d:=0) (oC (joj mx) (oC (kjr mx) (oC (j2a mx) (oC (kjs mx) (oC (kjx mx) cR))))) cQ (cP mx) (ka9 mx) (λa=>kl4 fuel a)
theorem j2g:OK mx 1 (jpq fuel):=cW (m:=0) (d:=0) cR cQ (cP mx) (kba mx) (λa=>kl5 fuel a)
theorem kjy:OK mx 8 (jv4 fuel):=cW (m:=7) (d:=0) (oC (j2f mx) (oC (j2g mx) (oC (kjp mx) cR))) cQ (cP mx) (kbf mx) (λa=>kma fuel a)
theorem kjz:OK mx 1 (jv5 fuel):=cW (m:=0) (d:=0) cR cQ (cP mx) (kbg mx) (λa=>kmb fuel a)
theorem j2h:OK mx 8 (jpr fuel):=cW (m:=7) (d:=0) (oC (j2f mx) (oC (j2g mx) (oC (kjz mx) cR))) cQ (cP mx) (kbb mx) (λa=>kl6 fuel a)
theorem kjw:OK mx 9 (jv2 fuel):=cW (m:=8) (d:=0) (oC (j2e mx) (oC (joj mx) (oC (kjy mx) (oC (kjv mx) cR)))) cQ (cP mx) (kbc mx) (λa=>kl7 fuel a)
theorem joe (mx:Int):eG (BB mx) kU prog 1 [rJ fuel]:=cW (m:=0) (d:=0) cR cQ (cP mx) ⟨λ_=>rfl,(jlg mx).2⟩ (λa=>jo3 fuel a)
theorem kiw (mx:Int):eG (BB mx) kU prog 3 [J7 fuel]:=cW (m:=1) (d:=1) (oC (joe mx) cR) (gR ⟨λ_=>rfl,(jd4 mx).2⟩ (gR ⟨λ_=>rfl,(jlj mx).2⟩ cQ)) (cP mx) ⟨λ_=>rfl,(jlf mx).2⟩ (λa=>jo2 fuel a)
theorem kiz (mx:Int):eG (BB mx) kU prog 3 [J8 fuel]:=cW (m:=1) (d:=1) (oC (joe mx) cR) (gR ⟨λ_=>rfl,(c7 mx).2⟩ cQ) (cP mx) ⟨λ_=>rfl,(jlh mx).2⟩ (λa=>jo4 fuel a)
theorem kij (mx:Int):eG (BB mx) kU prog 2 [J6 fuel]:=cW (m:=0) (d:=1) cR (gR ⟨λ_=>rfl,(c7 mx).2⟩ cQ) (cP mx) ⟨λ_=>rfl,(jld mx).2⟩ (λa=>jlo fuel a)
theorem ki1 (mx:Int):eG (BB mx) kU prog 4 [R5 fuel]:=cW (m:=3) (d:=0) (oC (kiw mx) (oC (kij mx) (oC (kiz mx) cR))) cQ (cP mx) ⟨λ_=>rfl,(jli mx).2⟩ (λa=>jo5 fuel a)
theorem j14 (mx:Int):eG (BB mx) kU prog 5 [jj4 fuel]:=cW (m:=4) (d:=0) (oC (ki1 mx) cR) cQ (cP mx) ⟨λ_=>rfl,(jyl mx).2⟩ (λa=>j4g fuel a)
theorem j15 (mx:Int):eG (BB mx) kU prog 7 [jf2 fuel]:=cW (m:=5) (d:=1) (oC (joe mx) (oC (j14 mx) cR)) (gR ⟨λ_=>rfl,(jd4 mx).2⟩ cQ) (cP mx) ⟨λ_=>rfl,(jym mx).2⟩ (λa=>j4h fuel a)
theorem kii (mx:Int):eG (BB mx) kU prog 2 [jjr fuel]:=cW (m:=0) (d:=1) cR (gR ⟨λ_=>rfl,(jle mx).2⟩ (gR ⟨λ_=>rfl,(c7 mx).2⟩ cQ)) (cP mx) ⟨λ_=>rfl,(jx0 mx).2⟩ (λa=>jyy fuel a)
theorem kih (mx:Int):eG (BB mx) kU prog 2 [jjq fuel]:=cW (m:=0) (d:=1) cR (gR ⟨λ_=>rfl,(c7 mx).2⟩ cQ) (cP mx) ⟨λ_=>rfl,(jxz mx).2⟩ (λa=>jyx fuel a)
theorem ki0 (mx:Int):eG (BB mx) kU prog 8 [jp0 fuel]:=cW (m:=7) (d:=0) (oC (j15 mx) (oC (kii mx) cR)) cQ (cP mx) ⟨λ_=>rfl,(jyk mx).2⟩ (λa=>j4f fuel a)
theorem kiy (mx:Int):eG (BB mx) kU prog 8 [jpz fuel]:=cW (m:=7) (d:=0) (oC (j15 mx) (oC (kih mx) cR)) cQ (cP mx) ⟨λ_=>rfl,(jyj mx).2⟩ (λa=>j4d fuel a)
theorem kiv (mx:Int):eG (BB mx) kU prog 1 [jpy fuel]:=cW (m:=0) (d:=0) cR cQ (cP mx) ⟨λ_=>rfl,(jyi mx).2⟩ (λa=>j36 fuel a)
theorem kit (mx:Int):eG (BB mx) kU prog 9 [jj2 fuel]:=cW (m:=8) (d:=0) (oC (ki0 mx) (oC (kiy mx) (oC (kiv mx) cR))) cQ (cP mx) ⟨λ_=>rfl,(jyg mx).2⟩ (λa=>j34 fuel a)
theorem j1z (mx:Int):eG (BB mx) kU prog 1 [jjx fuel]:=cW (m:=0) (d:=0) cR cQ (cP mx) ⟨λ_=>rfl,(jle mx).2⟩ (λa=>j06 fuel a)
theorem kiu (mx:Int):eG (BB mx) kU prog 2 [jj3 fuel]:=cW (m:=1) (d:=0) (oC (j1z mx) cR) cQ (cP mx) ⟨λ_=>rfl,(jyh mx).2⟩ (λa=>j35 fuel a)
theorem ki3 (mx:Int):eG (BB mx) kU prog 3 [jj5 fuel]:=cW (m:=0) (d:=2) cR (gR ⟨λ_=>rfl,(jya mx).2⟩ (gR ⟨λ_=>rfl,(jyc mx).2⟩ cQ)) (cP mx) ⟨λ_=>rfl,(jyq mx).2⟩ (λa=>j4k fuel a)
theorem ki2 (mx:Int):eG (BB mx) kU prog 4 [jp2 fuel]:=cW (m:=3) (d:=0) (oC (ki3 mx) cR) cQ (cP mx) ⟨λ_=>rfl,(jyp mx).2⟩ (λa=>j4j fuel a)
theorem kiq (mx:Int):eG (BB mx) kU prog 1 [jpj fuel]:=cW (m:=0) (d:=0) cR cQ (cP mx) ⟨λ_=>rfl,(jyd mx).2⟩ (λa=>j23 fuel a)
theorem kip (mx:Int):eG (BB mx) kU prog 7 [jjy fuel]:=cW (m:=5) (d:=1) (oC (joe mx) (oC (ki2 mx) (oC (j14 mx) (oC (kiq mx) cR)))) (gR ⟨λ_=>rfl,(jyb mx).2⟩ cQ) (cP mx) ⟨λ_=>rfl,(jx9 mx).2⟩ (λa=>j22 fuel a)
theorem ki4 (mx:Int):xX (BB mx) kU prog 1 [⟨59,2,[(.row pU),(.v (.fn 60))],[],zH fuel⟩]:=jvl (t:=jc9) rfl (λL=>(tG jO L).length_eq) (λL h=>jvh rfl L h) (λaz g h=>xE h)
theorem kir (mx:Int):eG (BB mx) kU prog 11 [jj1 fuel]:=jsz (m:=9) (d:=1) (oC (kip mx) (oC (kit mx) cR)) (jq2 (jq4 (ki4 mx) (xM rfl)) jq3) (gR ⟨λ_=>rfl,(jyn mx).2⟩ cQ) (cP mx) ⟨λ_=>rfl,(jye mx).2⟩ (λa=>j32 fuel a)
theorem kio (mx:Int):eG (BB mx) kU prog 1 [jvr fuel]:=j4y (λaz g h=>fF rfl (xE h))
theorem kim (mx:Int):eG (BB mx) kU prog 1 [jvp fuel]:=j41 (λaz g h=>fF rfl (fF rfl (xE h)))
theorem kin (mx:Int):eG (BB mx) kU prog 3 [jjt fuel]:=cW (m:=1) (d:=1) (oC (kio mx) (oC (kim mx) cR)) (gR ⟨λ_=>rfl,(jx4 mx).2⟩ cQ) (cP mx) ⟨λ_=>rfl,(jx6 mx).2⟩ (λa=>j0x fuel a)
theorem jof (mx:Int):eG (BB mx) kU prog 7 [jal fuel]:=cW (m:=3) (d:=3) (oC (kin mx) cR) (gR ⟨λ_=>rfl,(jx3 mx).2⟩ (gR ⟨λ_=>rfl,(jx2 mx).2⟩ (gR ⟨λ_=>rfl,(jx7 mx).2⟩ (gR ⟨λ_=>rfl,(jx5 mx).2⟩ cQ)))) (cP mx) ⟨λ_=>rfl,(jyr mx).2⟩ (λa=>j4q fuel a)
theorem j13 (mx:Int):eG (BB mx) kU prog 8 [jpi fuel]:=cW (m:=7) (d:=0) (oC (jof mx) (oC (j1z mx) cR)) cQ (cP mx) ⟨λ_=>rfl,(jx8 mx).2⟩ (λa=>j07 fuel a)
theorem kis (mx:Int):eG (BB mx) kU prog 9 [jpx fuel]:=cW (m:=8) (d:=0) (oC (jof mx) (oC (kiu mx) (oC (j13 mx) cR))) cQ (cP mx) ⟨λ_=>rfl,(jyf mx).2⟩ (λa=>j33 fuel a)
theorem kik (mx:Int):eG (BB mx) kU prog 1 [jjs fuel]:=j45 (λaz g h=>fF rfl (fF rfl (fF rfl h)))
theorem kil (mx:Int):eG (BB mx) kU prog 8 [jpf fuel]:=cW (m:=7) (d:=0) (oC (kik mx) (oC (jof mx) cR)) cQ (cP mx) ⟨λ_=>rfl,(jx1 mx).2⟩ (λa=>jzt fuel a)
theorem kjj:eG (BB mx) (told mx) prog 1 [jvr fuel]:=j4y (λaz g h=>fF rfl (fF rfl (xE h)))
theorem kja:eG (BB mx) (told mx) prog 1 [jvp fuel]:=j41 (λaz g h=>fF rfl (fF rfl (fF rfl (xE h))))
theorem kjb:OK mx 3 (jjt fuel):=cW (m:=1) (d:=1) (oC (kjj mx) (oC (kja mx) cR)) (gR (jx4 mx) cQ) (cP mx) (jx6 mx) (λa=>j0x fuel a)
theorem jok:OK mx 7 (jal fuel):=cW (m:=3) (d:=3) (oC (kjb mx) cR) (gR (jx3 mx) (gR (jx2 mx) (gR (jx7 mx) (gR (jx5 mx) cQ)))) (cP mx) (jyr mx) (λa=>j4q fuel a)
theorem kji:OK mx 8 (jpi fuel):=cW (m:=7) (d:=0) (oC (jok mx) (oC (j19 mx) cR)) cQ (cP mx) (jx8 mx) (λa=>j07 fuel a)
theorem kj2:OK mx 9 (jpx fuel):=cW (m:=8) (d:=0) (oC (jok mx) (oC (j2n mx) (oC (kji mx) cR))) cQ (cP mx) (jyf mx) (λa=>j33 fuel a)
theorem j2x (mx:Int):∀n,eG (BB mx) (told mx) prog (0+n*1) [⟨27,[bZ],[iL],z7 fuel n⟩]
 | 0=>λt ht n hn=>by
   rw[bW.1 ht];intro a r hr;cases hr
 | n+1=>T3 (cW (m:=0+n*1) (d:=0) (T1 (j2x mx n) cR) cQ (cP mx) (kar mx) (λa=>klm fuel _ a)) (by omega)
theorem je7:OK mx 22 (jdb fuel):=j2x mx 22
theorem kjo:OK mx 23 (jvu fuel):=cW (m:=22) (d:=0) (oC (je7 mx) cR) cQ (cP mx) (kau mx) (λa=>klp fuel a)
theorem j2i:OK mx 24 (jps fuel):=cW (m:=23) (d:=0) (oC (je7 mx) (oC (kjo mx) cR)) cQ (cP mx) (kbe mx) (λa=>kl9 fuel a)
theorem j2t:eG (BB mx) (told mx) prog 1 [jv8 fuel]:=kn0 (λaz g h=>fF rfl (fF rfl (fF rfl (fF rfl (xE h)))))
theorem j2r:eG (BB mx) (told mx) prog 1 [jv7 fuel]:=kno (λaz g h=>fF rfl (fF rfl (fF rfl (fF rfl (fF rfl (xE h))))))
theorem kkc:eG (BB mx) (told mx) prog 1 [j5b fuel]:=kns (λaz g h=>fF rfl (fF rfl (fF rfl (fF rfl (fF rfl (fF rfl (xE h)))))))
theorem kjh:eG (BB mx) (told mx) prog 1 [j5a fuel]:=knu (j13 mx _ (bW.2 rfl) 8 (by decide)) (λaz g h=>fF rfl (fF rfl (fF rfl (fF rfl (fF rfl (fF rfl (fF rfl (xE h))))))))
theorem j2l:OK mx 10 (jpv fuel):=cW (m:=9) (d:=0) (oC (kj2 mx) (oC (j2t mx) (oC (j2r mx) (oC (kjh mx) (oC (kkc mx) cR))))) cQ (cP mx) (kbl mx) (λa=>kmv fuel a)
theorem jtz:eG (BB mx) (told mx) prog 1 [jjs fuel]:=j45 (λaz g h=>fF rfl (fF rfl (fF rfl (fF rfl (fF rfl (fF rfl (fF rfl (fF rfl (xE h)))))))))
theorem j16:eG (BB mx) (told mx) prog 1 [jvn fuel]:=knq (kir mx _ (bW.2 rfl) 24 (by decide)) (kis mx _ (bW.2 rfl) 24 (by decide)) (jof mx _ (bW.2 rfl) 24 (by decide)) (kil mx _ (bW.2 rfl) 24 (by decide)) (λaz g h=>fF rfl (fF rfl (fF rfl (fF rfl (fF rfl (fF rfl (fF rfl (fF rfl (fF rfl (fF rfl (h)))))))))))
theorem j2s:OK mx 3 (jj6 fuel):=cW (m:=0) (d:=2) cR (gR (kad mx) (gR (kae mx) cQ)) (cP mx) (kbs mx) (λa=>knh fuel a)
theorem j17:OK mx 8 (jpg fuel):=cW (m:=7) (d:=0) (oC (jok mx) (oC (j2t mx) (oC (j2r mx) cR))) cQ (cP mx) (kac mx) (λa=>kdj fuel a)
theorem ki8:OK mx 12 (jpe fuel):=cW (m:=10) (d:=1) (oC (j2s mx) (oC (j17 mx) (oC (j2l mx) cR))) (gR (kbt mx) cQ) (cP mx) (kab mx) (λa=>kdi fuel a)
theorem je6:OK mx 14 (jak fuel):=cW (m:=13) (d:=0) (oC (jtz mx) (oC (ki8 mx) (oC (yV mx) (oC (kj1 mx) (oC (kj0 mx) cR))))) cQ (cP mx) (j99 mx) (λa=>kdg fuel a)
theorem j2k:OK mx 1 (jpu fuel):=cW (m:=0) (d:=0) cR cQ (cP mx) (kbk mx) (λa=>kmf fuel a)
theorem jil:OK mx 23 (jdc fuel):=cW (m:=22) (d:=0) (oC (j2k mx) (oC (je7 mx) cR)) cQ (cP mx) (kbj mx) (λa=>kme fuel a)
theorem jt4:OK mx 25 (jj0 fuel):=cW (m:=24) (d:=0) (oC (j2i mx) (oC (je7 mx) (oC (j2h mx) cR))) cQ (cP mx) (kbh mx) (λa=>kmc fuel a)
theorem j2j:OK mx 26 (jpt fuel):=cW (m:=25) (d:=0) (oC (jil mx) (oC (jt4 mx) cR)) cQ (cP mx) (kbi mx) (λa=>kmd fuel a)
theorem jt0:OK mx 8 (jju fuel):=cW (m:=7) (d:=0) (oC (j2e mx) cR) cQ (cP mx) (kaf mx) (λa=>khg fuel a)
theorem jt2:OK mx 23 (jjw fuel):=cW (m:=22) (d:=0) (oC (je7 mx) cR) cQ (cP mx) (kao mx) (λa=>khp fuel a)
theorem jog:OK mx 1 (jfy fuel):=cW (m:=0) (d:=0) cR cQ (cP mx) (kam mx) (λa=>khn fuel a)
theorem j18:OK mx 24 (jph fuel):=cW (m:=23) (d:=0) (oC (j2k mx) (oC (jog mx) (oC (jt2 mx) (oC (kju mx) (oC (j2h mx) (oC (j2l mx) (oC (kjw mx) cR))))))) cQ (cP mx) (kap mx) (λa=>khq fuel a)
theorem jt1:OK mx 25 (jjv fuel):=cW (m:=24) (d:=0) (oC (je6 mx) (oC (j2d mx) (oC (j18 mx) cR))) cQ (cP mx) (kal mx) (λa=>khm fuel a)
theorem joh:OK mx 24 (jfz fuel):=cW (m:=23) (d:=0) (oC (jtz mx) (oC (jil mx) (oC (je6 mx) (oC (j16 mx) (oC (j2d mx) cR))))) cQ (cP mx) (kan mx) (λa=>kho fuel a)
end
end Vm
end Go.Proofs.YtccefhabickfiaaGreatDoor
