/-
  The contracts of the program's functions, one after another. (Printed by a program.)
-/
import Derived.Test.YtccefhabickfiaaGreatDoorQ7
import Derived.Test.YtccefhabickfiaaGreatDoorSM
set_option linter.unusedSimpArgs false
set_option linter.unusedVariables false
set_option linter.unusedSectionVars false
set_option linter.unnecessarySimpa false
namespace Go.Proofs.YtccefhabickfiaaGreatDoor
namespace Vm
open Go Go.Vm Go.Vm.W Go.Vm.X
noncomputable section
set_option maxRecDepth 100000
theorem dH (mx:Int):GRel (BB mx) nu0 GG:=j02 (B:=BB mx) (es:=ex mx++es) (jrq mx).symm (l:=GM) (by kernel_rfl) (by kernel_rfl)
abbrev OK (mx:Int) (l:Nat) (t:TE):Prop:=fU (BB mx) (told mx) prog l [t]
abbrev CK (mx:Int) (x:FuncId×Fx):Prop:=(∀vs,told mx x.1 vs=none)/\prog.get x.1=some x.2.cfn
theorem kbt (mx:Int):CK mx j8a:=⟨λ_=>rfl,by kernel_rfl⟩
theorem kav (mx:Int):CK mx j66:=⟨λ_=>rfl,by kernel_rfl⟩
theorem kbs (mx:Int):CK mx j79:=⟨λ_=>rfl,by kernel_rfl⟩
theorem kaf (mx:Int):CK mx j6k:=⟨λ_=>rfl,by kernel_rfl⟩
theorem kal (mx:Int):CK mx j6x:=⟨λ_=>rfl,by kernel_rfl⟩
theorem kbq (mx:Int):CK mx j77:=⟨λ_=>rfl,by kernel_rfl⟩
theorem kbn (mx:Int):CK mx j74:=⟨λ_=>rfl,by kernel_rfl⟩
theorem kbr (mx:Int):CK mx j78:=⟨λ_=>rfl,by kernel_rfl⟩
theorem kag (mx:Int):CK mx j6l:=⟨λ_=>rfl,by kernel_rfl⟩
theorem kbf (mx:Int):CK mx j7w:=⟨λ_=>rfl,by kernel_rfl⟩
theorem kaz (mx:Int):CK mx j7g:=⟨λ_=>rfl,by kernel_rfl⟩
theorem kbd (mx:Int):CK mx j7u:=⟨λ_=>rfl,by kernel_rfl⟩
theorem kah (mx:Int):CK mx j6m:=⟨λ_=>rfl,by kernel_rfl⟩
theorem jn8 (mx:Int):CK mx jnb:=⟨λ_=>rfl,by kernel_rfl⟩
theorem kbv (mx:Int):CK mx j8d:=⟨λ_=>rfl,by kernel_rfl⟩
theorem jy9 (mx:Int):CK mx j8b:=⟨λ_=>rfl,by kernel_rfl⟩
theorem jzm (mx:Int):CK mx j8u:=⟨λ_=>rfl,by kernel_rfl⟩
theorem jza (mx:Int):CK mx j8e:=⟨λ_=>rfl,by kernel_rfl⟩
theorem jyw (mx:Int):CK mx j6n:=⟨λ_=>rfl,by kernel_rfl⟩
theorem kbh (mx:Int):CK mx j7y:=⟨λ_=>rfl,by kernel_rfl⟩
theorem kbk (mx:Int):CK mx j71:=⟨λ_=>rfl,by kernel_rfl⟩
theorem ka2 (mx:Int):CK mx j7j:=⟨λ_=>rfl,by kernel_rfl⟩
theorem kb1 (mx:Int):CK mx j8v:=⟨λ_=>rfl,by kernel_rfl⟩
theorem kai (mx:Int):CK mx j6o:=⟨λ_=>rfl,by kernel_rfl⟩
theorem kbu (mx:Int):CK mx j8c:=⟨λ_=>rfl,by kernel_rfl⟩
theorem kbc (mx:Int):CK mx j7t:=⟨λ_=>rfl,by kernel_rfl⟩
theorem kb2 (mx:Int):CK mx j8w:=⟨λ_=>rfl,by kernel_rfl⟩
theorem kbw (mx:Int):CK mx j8h:=⟨λ_=>rfl,by kernel_rfl⟩
theorem kbx (mx:Int):CK mx j8j:=⟨λ_=>rfl,by kernel_rfl⟩
theorem kb0 (mx:Int):CK mx j8q:=⟨λ_=>rfl,by kernel_rfl⟩
theorem jy4 (mx:Int):CK mx j7a:=⟨λ_=>rfl,by kernel_rfl⟩
theorem jzb (mx:Int):CK mx j8f:=⟨λ_=>rfl,by kernel_rfl⟩
theorem jzi (mx:Int):CK mx j8r:=⟨λ_=>rfl,by kernel_rfl⟩
theorem jyy (mx:Int):CK mx j6s:=⟨λ_=>rfl,by kernel_rfl⟩
theorem jzc (mx:Int):CK mx j8g:=⟨λ_=>rfl,by kernel_rfl⟩
theorem jy3 (mx:Int):CK mx j69:=⟨λ_=>rfl,by kernel_rfl⟩
theorem kbi (mx:Int):CK mx j7z:=⟨λ_=>rfl,by kernel_rfl⟩
theorem kbj (mx:Int):CK mx j70:=⟨λ_=>rfl,by kernel_rfl⟩
theorem kbp (mx:Int):CK mx j76:=⟨λ_=>rfl,by kernel_rfl⟩
theorem kaj (mx:Int):CK mx j6p:=⟨λ_=>rfl,by kernel_rfl⟩
theorem kbb (mx:Int):CK mx j7s:=⟨λ_=>rfl,by kernel_rfl⟩
theorem kbz (mx:Int):CK mx j8o:=⟨λ_=>rfl,by kernel_rfl⟩
theorem jzj (mx:Int):CK mx jxd:=⟨λ_=>rfl,by kernel_rfl⟩
theorem jzk (mx:Int):CK mx j8s:=⟨λ_=>rfl,by kernel_rfl⟩
theorem jy5 (mx:Int):CK mx j7b:=⟨λ_=>rfl,by kernel_rfl⟩
theorem jy7 (mx:Int):CK mx j7d:=⟨λ_=>rfl,by kernel_rfl⟩
theorem jzg (mx:Int):CK mx j8m:=⟨λ_=>rfl,by kernel_rfl⟩
theorem jy6 (mx:Int):CK mx j7c:=⟨λ_=>rfl,by kernel_rfl⟩
theorem jy8 (mx:Int):CK mx j7e:=⟨λ_=>rfl,by kernel_rfl⟩
theorem jzf (mx:Int):CK mx j8l:=⟨λ_=>rfl,by kernel_rfl⟩
theorem jze (mx:Int):CK mx j8k:=⟨λ_=>rfl,by kernel_rfl⟩
theorem jzd (mx:Int):CK mx j8i:=⟨λ_=>rfl,by kernel_rfl⟩
theorem jyx (mx:Int):CK mx j6r:=⟨λ_=>rfl,by kernel_rfl⟩
theorem jn6 (mx:Int):CK mx jxc:=⟨λ_=>rfl,by kernel_rfl⟩
theorem ka8 (mx:Int):CK mx j7p:=⟨λ_=>rfl,by kernel_rfl⟩
theorem ka5 (mx:Int):CK mx j7m:=⟨λ_=>rfl,by kernel_rfl⟩
theorem ka9 (mx:Int):CK mx j7q:=⟨λ_=>rfl,by kernel_rfl⟩
theorem kbm (mx:Int):CK mx j73:=⟨λ_=>rfl,by kernel_rfl⟩
theorem kak (mx:Int):CK mx j6q:=⟨λ_=>rfl,by kernel_rfl⟩
theorem kba (mx:Int):CK mx j7r:=⟨λ_=>rfl,by kernel_rfl⟩
theorem ka6 (mx:Int):CK mx j7n:=⟨λ_=>rfl,by kernel_rfl⟩
theorem kby (mx:Int):CK mx j8n:=⟨λ_=>rfl,by kernel_rfl⟩
theorem jzl (mx:Int):CK mx j8t:=⟨λ_=>rfl,by kernel_rfl⟩
theorem joa (mx:Int):CK mx jne:=⟨λ_=>rfl,by kernel_rfl⟩
theorem jzh (mx:Int):CK mx j8p:=⟨λ_=>rfl,by kernel_rfl⟩
theorem jyv (mx:Int):CK mx j6j:=⟨λ_=>rfl,by kernel_rfl⟩
theorem jyu (mx:Int):CK mx j6i:=⟨λ_=>rfl,by kernel_rfl⟩
theorem jy2 (mx:Int):CK mx j6w:=⟨λ_=>rfl,by kernel_rfl⟩
theorem jy1 (mx:Int):CK mx j6v:=⟨λ_=>rfl,by kernel_rfl⟩
theorem jy0 (mx:Int):CK mx j6u:=⟨λ_=>rfl,by kernel_rfl⟩
theorem ka4 (mx:Int):CK mx j7l:=⟨λ_=>rfl,by kernel_rfl⟩
theorem kay (mx:Int):CK mx j7f:=⟨λ_=>rfl,by kernel_rfl⟩
theorem ka1 (mx:Int):CK mx j7i:=⟨λ_=>rfl,by kernel_rfl⟩
theorem ka7 (mx:Int):CK mx j7o:=⟨λ_=>rfl,by kernel_rfl⟩
theorem jsq (mx:Int):CK mx jnc:=⟨λ_=>rfl,by kernel_rfl⟩
theorem jn7 (mx:Int):CK mx jna:=⟨λ_=>rfl,by kernel_rfl⟩
theorem jn5 (mx:Int):CK mx jm9:=⟨λ_=>rfl,by kernel_rfl⟩
theorem jn9 (mx:Int):CK mx jnd:=⟨λ_=>rfl,by kernel_rfl⟩
theorem je1 (mx:Int):CK mx jio:=⟨λ_=>rfl,by kernel_rfl⟩
theorem I8 (mx:Int):CK mx ja4:=⟨λ_=>rfl,by kernel_rfl⟩
theorem jyz (mx:Int):CK mx j6t:=⟨λ_=>rfl,by kernel_rfl⟩
theorem ka0 (mx:Int):CK mx j7h:=⟨λ_=>rfl,by kernel_rfl⟩
theorem job (mx:Int):CK mx jnf:=⟨λ_=>rfl,by kernel_rfl⟩
theorem D7 (mx:Int):OK mx 1 (tT fuel):=dP (m:=0) (d:=0) dK dJ (dH mx) (jn8 mx) (λa=>jqp fuel a)
theorem ju3 (mx:Int):OK mx 3 (Y4 fuel):=dP (m:=1) (d:=1) (bR (bS (D7 mx) (bN rfl)) dK) (jG (je1 mx) (jG (job mx) dJ)) (dH mx) (jn7 mx) (λa=>jqo fuel a)
theorem ju4 (mx:Int):OK mx 3 (Y5 fuel):=dP (m:=1) (d:=1) (bR (bS (D7 mx) (bN rfl)) dK) (jG (I8 mx) dJ) (dH mx) (jn9 mx) (λa=>jqq fuel a)
theorem jut (mx:Int):OK mx 2 (Y2 fuel):=dP (m:=0) (d:=1) dK (jG (I8 mx) dJ) (dH mx) (jn5 mx) (λa=>jof fuel a)
theorem ju5 (mx:Int):OK mx 4 (Y6 fuel):=dP (m:=3) (d:=0) (bR (bS (ju3 mx) (bN rfl)) (bR (bS (jut mx) (bN rfl)) (bR (bS (ju4 mx) (bN rfl)) dK))) dJ (dH mx) (joa mx) (λa=>jqr fuel a)
theorem j3e (mx:Int):OK mx 5 (jh1 fuel):=dP (m:=4) (d:=0) (bR (bS (ju5 mx) (bN rfl)) dK) dJ (dH mx) (jzg mx) (λa=>j4u fuel a)
theorem j3d (mx:Int):OK mx 2 (jcg fuel):=dP (m:=1) (d:=0) (bR (bS (D7 mx) (bN rfl)) dK) dJ (dH mx) (jsq mx) (λa=>jv3 fuel a)
theorem j3f (mx:Int):OK mx 7 (jh2 fuel):=dP (m:=5) (d:=1) (bR (bS (D7 mx) (bN rfl)) (bR (bS (j3e mx) (bN rfl)) dK)) (jG (je1 mx) dJ) (dH mx) (jzh mx) (λa=>j4v fuel a)
theorem kj0 (mx:Int):OK mx 2 (jl8 fuel):=dP (m:=0) (d:=1) dK (jG (jn6 mx) (jG (I8 mx) dJ)) (dH mx) (jyv mx) (λa=>jzt fuel a)
theorem kjz (mx:Int):OK mx 2 (jl7 fuel):=dP (m:=0) (d:=1) dK (jG (I8 mx) dJ) (dH mx) (jyu mx) (λa=>jzs fuel a)
theorem kk1 (mx:Int):OK mx 8 (jmx fuel):=dP (m:=7) (d:=0) (bR (bS (j3f mx) (bN rfl)) (bR (bS (kj0 mx) (bN rfl)) dK)) dJ (dH mx) (jzf mx) (λa=>j4t fuel a)
theorem kk0 (mx:Int):OK mx 8 (jmw fuel):=dP (m:=7) (d:=0) (bR (bS (j3f mx) (bN rfl)) (bR (bS (kjz mx) (bN rfl)) dK)) dJ (dH mx) (jze mx) (λa=>j4s fuel a)
theorem kk2 (mx:Int):OK mx 3 (jre fuel):=dP (m:=1) (d:=1) (bR (bS (D7 mx) (bN rfl)) dK) (jG (jzj mx) (jG (kby mx) dJ)) (dH mx) (kbz mx) (λa=>kny fuel a)
theorem kkz (mx:Int):OK mx 1 (jmv fuel):=dP (m:=0) (d:=0) dK dJ (dH mx) (jzd mx) (λa=>j4n fuel a)
theorem j3b (mx:Int):OK mx 9 (jhz fuel):=dP (m:=8) (d:=0) (bR (bS (kk1 mx) (bN rfl)) (bR (bS (kk0 mx) (bN rfl)) (bR (bS (kkz mx) (bN rfl)) dK))) dJ (dH mx) (jzb mx) (λa=>j4l fuel a)
theorem kky (mx:Int):OK mx 10 (jrd fuel):=dP (m:=9) (d:=0) (bR (bS (j3b mx) (bN rfl)) (bR (bS (kk2 mx) (bN rfl)) dK)) dJ (dH mx) (kbw mx) (λa=>knu fuel a)
theorem j20 (mx:Int):OK mx 1 (jhu fuel):=dP (m:=0) (d:=0) dK dJ (dH mx) (jn6 mx) (λa=>j1z fuel a)
theorem j3c (mx:Int):OK mx 2 (jh0 fuel):=dP (m:=1) (d:=0) (bR (bS (j20 mx) (bN rfl)) dK) dJ (dH mx) (jzc mx) (λa=>j4m fuel a)
theorem kk4 (mx:Int):OK mx 3 (jmz fuel):=dP (m:=0) (d:=2) dK (jG (jy5 mx) (jG (jy7 mx) dJ)) (dH mx) (jzl mx) (λa=>j4z fuel a)
theorem kk3 (mx:Int):OK mx 4 (jmy fuel):=dP (m:=3) (d:=0) (bR (bS (kk4 mx) (bN rfl)) dK) dJ (dH mx) (jzk mx) (λa=>j4y fuel a)
theorem kkg (mx:Int):OK mx 1 (jmh fuel):=dP (m:=0) (d:=0) dK dJ (dH mx) (jy8 mx) (λa=>j3t fuel a)
theorem kkf (mx:Int):OK mx 7 (jmg fuel):=dP (m:=5) (d:=1) (bR (bS (D7 mx) (bN rfl)) (bR (bS (kk3 mx) (bN rfl)) (bR (bS (j3e mx) (bN rfl)) (bR (bS (kkg mx) (bN rfl)) dK)))) (jG (jy6 mx) dJ) (dH mx) (jy4 mx) (λa=>j3s fuel a)
theorem kk6 (mx:Int):B4 (BB mx) (told mx) prog 1 [⟨59,2,[(.row sU),(.v (.fn 60))],[],xO fuel⟩]:=jwk (t:=jee) rfl (λL=>(sT jJ L).length_eq) (λL h=>jwg rfl L h) (λaz g h=>u9 h)
theorem kk5 (mx:Int):B4 (BB mx) (told mx) prog 1 [⟨53,2,[(.row tqj),(.v (.fn 54))],[],jcb fuel⟩]:=jwk (t:=jqv) rfl (λL=>(sT jP L).length_eq) (λL h=>jwg rfl L h) (λaz g h=>gO rfl (u9 h))
theorem kkv (mx:Int):OK mx 11 (jms fuel):=jtv (m:=9) (d:=1) (bR (bS (kkf mx) (bN rfl)) (bR (bS (j3b mx) (bN rfl)) dK)) (jrw (jry (kk6 mx) (bN rfl)) jrx) (jG (jzi mx) dJ) (dH mx) (jy9 mx) (λa=>j4j fuel a)
theorem kkw (mx:Int):OK mx 13 (jrc fuel):=jtv (m:=10) (d:=2) (bR (bS (D7 mx) (bN rfl)) (bR (bS (kky mx) (bN rfl)) (bR (bS (j3c mx) (bN rfl)) dK))) (jrw (jry (kk5 mx) (bN rfl)) jrx) (jG (kbx mx) (jG (kb0 mx) (jG (jzj mx) dJ))) (dH mx) (kbv mx) (λa=>knt fuel a)
theorem juz (mx:Int):OK mx 1 (jel fuel):=dP (m:=0) (d:=0) dK dJ (dH mx) (kbd mx) (λa=>kmv fuel a)
theorem kkm (mx:Int):OK mx 1 (jq4 fuel):=dP (m:=0) (d:=0) dK dJ (dH mx) (ka8 mx) (λa=>kmq fuel a)
theorem kko (mx:Int):OK mx 1 (jq6 fuel):=dP (m:=0) (d:=0) dK dJ (dH mx) (kba mx) (λa=>kms fuel a)
theorem juy (mx:Int):OK mx 1 (jhv fuel):=dP (m:=0) (d:=0) dK dJ (dH mx) (kay mx) (λa=>kmg fuel a)
theorem kkh (mx:Int):OK mx 2 (jqz fuel):=dP (m:=1) (d:=0) (bR (bS (juy mx) (bN rfl)) dK) dJ (dH mx) (ka0 mx) (λa=>kmi fuel a)
theorem kki (mx:Int):OK mx 3 (jq0 fuel):=dP (m:=2) (d:=0) (bR (bS (juy mx) (bN rfl)) (bR (bS (kkh mx) (bN rfl)) dK)) dJ (dH mx) (ka1 mx) (λa=>kmj fuel a)
theorem jp5 (mx:Int):OK mx 1 (jek fuel):=dP (m:=0) (d:=0) dK dJ (dH mx) (ka4 mx) (λa=>kmm fuel a)
theorem kkl (mx:Int):OK mx 2 (jq3 fuel):=dP (m:=1) (d:=0) (bR (bS (jp5 mx) (bN rfl)) dK) dJ (dH mx) (ka7 mx) (λa=>kmp fuel a)
theorem j21 (mx:Int):OK mx 2 (jmi fuel):=dP (m:=1) (d:=0) (bR (bS (jp5 mx) (bN rfl)) (bR (bS (juy mx) (bN rfl)) dK)) dJ (dH mx) (ka5 mx) (λa=>kmn fuel a)
theorem j22 (mx:Int):OK mx 4 (jmj fuel):=dP (m:=3) (d:=0) (bR (bS (j21 mx) (bN rfl)) (bR (bS (jp5 mx) (bN rfl)) (bR (bS (kki mx) (bN rfl)) (bR (bS (kkl mx) (bN rfl)) dK)))) dJ (dH mx) (ka6 mx) (λa=>kmo fuel a)
theorem j23 (mx:Int):OK mx 5 (jmk fuel):=dP (m:=4) (d:=0) (bR (bS (kko mx) (bN rfl)) (bR (bS (j22 mx) (bN rfl)) dK)) dJ (dH mx) (kbb mx) (λa=>kmt fuel a)
theorem jk3 (mx:Int):OK mx 6 (jce fuel):=dP (m:=5) (d:=0) (bR (bS (j23 mx) (bN rfl)) dK) dJ (dH mx) (kbc mx) (λa=>kmu fuel a)
theorem kkn (mx:Int):OK mx 5 (jq5 fuel):=dP (m:=4) (d:=0) (bR (bS (j22 mx) (bN rfl)) (bR (bS (jp5 mx) (bN rfl)) dK)) dJ (dH mx) (ka9 mx) (λa=>kmr fuel a)
theorem j24 (mx:Int):OK mx 7 (jmm fuel):=dP (m:=6) (d:=0) (bR (bS (jk3 mx) (bN rfl)) dK) dJ (dH mx) (kbh mx) (λa=>kmz fuel a)
theorem ju0 (mx:Int):OK mx 1 (jhw fuel):=dP (m:=0) (d:=0) dK dJ (dH mx) (kbf mx) (λa=>kmx fuel a)
theorem kks (mx:Int):OK mx 1 (jq9 fuel):=dP (m:=0) (d:=0) dK dJ (dH mx) (kbm mx) (λa=>km4 fuel a)
theorem j25 (mx:Int):OK mx 7 (jmn fuel):=dP (m:=6) (d:=0) (bR (bS (jk3 mx) (bN rfl)) (bR (bS (kkm mx) (bN rfl)) (bR (bS (j21 mx) (bN rfl)) (bR (bS (kkn mx) (bN rfl)) (bR (bS (kks mx) (bN rfl)) dK))))) dJ (dH mx) (kbi mx) (λa=>km0 fuel a)
theorem j26 (mx:Int):OK mx 1 (jmo fuel):=dP (m:=0) (d:=0) dK dJ (dH mx) (kbj mx) (λa=>km1 fuel a)
theorem kku (mx:Int):OK mx 1 (jrb fuel):=dP (m:=0) (d:=0) dK dJ (dH mx) (kbp mx) (λa=>km7 fuel a)
theorem j27 (mx:Int):OK mx 8 (jmp fuel):=dP (m:=7) (d:=0) (bR (bS (j25 mx) (bN rfl)) (bR (bS (j26 mx) (bN rfl)) (bR (bS (kku mx) (bN rfl)) dK))) dJ (dH mx) (kbk mx) (λa=>km2 fuel a)
theorem jp0 (mx:Int):fU (BB mx) mT prog 1 [tT fuel]:=dP (m:=0) (d:=0) dK dJ (dH mx) ⟨λ_=>rfl,(jn8 mx).2⟩ (λa=>jqp fuel a)
theorem kjr (mx:Int):fU (BB mx) mT prog 3 [Y4 fuel]:=dP (m:=1) (d:=1) (bR (bS (jp0 mx) (bN rfl)) dK) (jG ⟨λ_=>rfl,(je1 mx).2⟩ (jG ⟨λ_=>rfl,(job mx).2⟩ dJ)) (dH mx) ⟨λ_=>rfl,(jn7 mx).2⟩ (λa=>jqo fuel a)
theorem kjt (mx:Int):fU (BB mx) mT prog 3 [Y5 fuel]:=dP (m:=1) (d:=1) (bR (bS (jp0 mx) (bN rfl)) dK) (jG ⟨λ_=>rfl,(I8 mx).2⟩ dJ) (dH mx) ⟨λ_=>rfl,(jn9 mx).2⟩ (λa=>jqq fuel a)
theorem kje (mx:Int):fU (BB mx) mT prog 2 [Y2 fuel]:=dP (m:=0) (d:=1) dK (jG ⟨λ_=>rfl,(I8 mx).2⟩ dJ) (dH mx) ⟨λ_=>rfl,(jn5 mx).2⟩ (λa=>jof fuel a)
theorem kjv (mx:Int):fU (BB mx) mT prog 4 [Y6 fuel]:=dP (m:=3) (d:=0) (bR (bS (kjr mx) (bN rfl)) (bR (bS (kje mx) (bN rfl)) (bR (bS (kjt mx) (bN rfl)) dK))) dJ (dH mx) ⟨λ_=>rfl,(joa mx).2⟩ (λa=>jqr fuel a)
theorem j2w (mx:Int):fU (BB mx) mT prog 5 [jh1 fuel]:=dP (m:=4) (d:=0) (bR (bS (kjv mx) (bN rfl)) dK) dJ (dH mx) ⟨λ_=>rfl,(jzg mx).2⟩ (λa=>j4u fuel a)
theorem j2x (mx:Int):fU (BB mx) mT prog 7 [jh2 fuel]:=dP (m:=5) (d:=1) (bR (bS (jp0 mx) (bN rfl)) (bR (bS (j2w mx) (bN rfl)) dK)) (jG ⟨λ_=>rfl,(je1 mx).2⟩ dJ) (dH mx) ⟨λ_=>rfl,(jzh mx).2⟩ (λa=>j4v fuel a)
theorem kjd (mx:Int):fU (BB mx) mT prog 2 [jl8 fuel]:=dP (m:=0) (d:=1) dK (jG ⟨λ_=>rfl,(jn6 mx).2⟩ (jG ⟨λ_=>rfl,(I8 mx).2⟩ dJ)) (dH mx) ⟨λ_=>rfl,(jyv mx).2⟩ (λa=>jzt fuel a)
theorem kjc (mx:Int):fU (BB mx) mT prog 2 [jl7 fuel]:=dP (m:=0) (d:=1) dK (jG ⟨λ_=>rfl,(I8 mx).2⟩ dJ) (dH mx) ⟨λ_=>rfl,(jyu mx).2⟩ (λa=>jzs fuel a)
theorem kju (mx:Int):fU (BB mx) mT prog 8 [jmx fuel]:=dP (m:=7) (d:=0) (bR (bS (j2x mx) (bN rfl)) (bR (bS (kjd mx) (bN rfl)) dK)) dJ (dH mx) ⟨λ_=>rfl,(jzf mx).2⟩ (λa=>j4t fuel a)
theorem kjs (mx:Int):fU (BB mx) mT prog 8 [jmw fuel]:=dP (m:=7) (d:=0) (bR (bS (j2x mx) (bN rfl)) (bR (bS (kjc mx) (bN rfl)) dK)) dJ (dH mx) ⟨λ_=>rfl,(jze mx).2⟩ (λa=>j4s fuel a)
theorem kjq (mx:Int):fU (BB mx) mT prog 1 [jmv fuel]:=dP (m:=0) (d:=0) dK dJ (dH mx) ⟨λ_=>rfl,(jzd mx).2⟩ (λa=>j4n fuel a)
theorem kjo (mx:Int):fU (BB mx) mT prog 9 [jhz fuel]:=dP (m:=8) (d:=0) (bR (bS (kju mx) (bN rfl)) (bR (bS (kjs mx) (bN rfl)) (bR (bS (kjq mx) (bN rfl)) dK))) dJ (dH mx) ⟨λ_=>rfl,(jzb mx).2⟩ (λa=>j4l fuel a)
theorem j2u (mx:Int):fU (BB mx) mT prog 1 [jhu fuel]:=dP (m:=0) (d:=0) dK dJ (dH mx) ⟨λ_=>rfl,(jn6 mx).2⟩ (λa=>j1z fuel a)
theorem kjp (mx:Int):fU (BB mx) mT prog 2 [jh0 fuel]:=dP (m:=1) (d:=0) (bR (bS (j2u mx) (bN rfl)) dK) dJ (dH mx) ⟨λ_=>rfl,(jzc mx).2⟩ (λa=>j4m fuel a)
theorem kjx (mx:Int):fU (BB mx) mT prog 3 [jmz fuel]:=dP (m:=0) (d:=2) dK (jG ⟨λ_=>rfl,(jy5 mx).2⟩ (jG ⟨λ_=>rfl,(jy7 mx).2⟩ dJ)) (dH mx) ⟨λ_=>rfl,(jzl mx).2⟩ (λa=>j4z fuel a)
theorem kjw (mx:Int):fU (BB mx) mT prog 4 [jmy fuel]:=dP (m:=3) (d:=0) (bR (bS (kjx mx) (bN rfl)) dK) dJ (dH mx) ⟨λ_=>rfl,(jzk mx).2⟩ (λa=>j4y fuel a)
theorem kjl (mx:Int):fU (BB mx) mT prog 1 [jmh fuel]:=dP (m:=0) (d:=0) dK dJ (dH mx) ⟨λ_=>rfl,(jy8 mx).2⟩ (λa=>j3t fuel a)
theorem kjk (mx:Int):fU (BB mx) mT prog 7 [jmg fuel]:=dP (m:=5) (d:=1) (bR (bS (jp0 mx) (bN rfl)) (bR (bS (kjw mx) (bN rfl)) (bR (bS (j2w mx) (bN rfl)) (bR (bS (kjl mx) (bN rfl)) dK)))) (jG ⟨λ_=>rfl,(jy6 mx).2⟩ dJ) (dH mx) ⟨λ_=>rfl,(jy4 mx).2⟩ (λa=>j3s fuel a)
theorem kjy (mx:Int):B4 (BB mx) mT prog 1 [⟨59,2,[(.row sU),(.v (.fn 60))],[],xO fuel⟩]:=jwk (t:=jee) rfl (λL=>(sT jJ L).length_eq) (λL h=>jwg rfl L h) (λaz g h=>u9 h)
theorem kjm (mx:Int):fU (BB mx) mT prog 11 [jms fuel]:=jtv (m:=9) (d:=1) (bR (bS (kjk mx) (bN rfl)) (bR (bS (kjo mx) (bN rfl)) dK)) (jrw (jry (kjy mx) (bN rfl)) jrx) (jG ⟨λ_=>rfl,(jzi mx).2⟩ dJ) (dH mx) ⟨λ_=>rfl,(jy9 mx).2⟩ (λa=>j4j fuel a)
theorem kjj (mx:Int):fU (BB mx) mT prog 1 [jws fuel]:=j5d (λaz g h=>gO rfl (u9 h))
theorem kjh (mx:Int):fU (BB mx) mT prog 1 [jwm fuel]:=j5g (λaz g h=>gO rfl (gO rfl (u9 h)))
theorem kji (mx:Int):fU (BB mx) mT prog 3 [jmc fuel]:=dP (m:=1) (d:=1) (bR (bS (kjj mx) (bN rfl)) (bR (bS (kjh mx) (bN rfl)) dK)) (jG ⟨λ_=>rfl,(jyz mx).2⟩ dJ) (dH mx) ⟨λ_=>rfl,(jy1 mx).2⟩ (λa=>j1r fuel a)
theorem jp1 (mx:Int):fU (BB mx) mT prog 7 [jch fuel]:=dP (m:=3) (d:=3) (bR (bS (kji mx) (bN rfl)) dK) (jG ⟨λ_=>rfl,(jyy mx).2⟩ (jG ⟨λ_=>rfl,(jyx mx).2⟩ (jG ⟨λ_=>rfl,(jy2 mx).2⟩ (jG ⟨λ_=>rfl,(jy0 mx).2⟩ dJ)))) (dH mx) ⟨λ_=>rfl,(jzm mx).2⟩ (λa=>j44 fuel a)
theorem j2v (mx:Int):fU (BB mx) mT prog 8 [jmf fuel]:=dP (m:=7) (d:=0) (bR (bS (jp1 mx) (bN rfl)) (bR (bS (j2u mx) (bN rfl)) dK)) dJ (dH mx) ⟨λ_=>rfl,(jy3 mx).2⟩ (λa=>j13 fuel a)
theorem kjn (mx:Int):fU (BB mx) mT prog 9 [jmu fuel]:=dP (m:=8) (d:=0) (bR (bS (jp1 mx) (bN rfl)) (bR (bS (kjp mx) (bN rfl)) (bR (bS (j2v mx) (bN rfl)) dK))) dJ (dH mx) ⟨λ_=>rfl,(jza mx).2⟩ (λa=>j4k fuel a)
theorem kjf (mx:Int):fU (BB mx) mT prog 1 [jl9 fuel]:=j5k (λaz g h=>gO rfl (gO rfl (gO rfl h)))
theorem kjg (mx:Int):fU (BB mx) mT prog 8 [jma fuel]:=dP (m:=7) (d:=0) (bR (bS (kjf mx) (bN rfl)) (bR (bS (jp1 mx) (bN rfl)) dK)) dJ (dH mx) ⟨λ_=>rfl,(jyw mx).2⟩ (λa=>j0o fuel a)
theorem kke (mx:Int):fU (BB mx) (told mx) prog 1 [jws fuel]:=j5d (λaz g h=>gO rfl (gO rfl (u9 h)))
theorem kj3 (mx:Int):fU (BB mx) (told mx) prog 1 [jwm fuel]:=j5g (λaz g h=>gO rfl (gO rfl (gO rfl (u9 h))))
theorem kj4 (mx:Int):OK mx 3 (jmc fuel):=dP (m:=1) (d:=1) (bR (bS (kke mx) (bN rfl)) (bR (bS (kj3 mx) (bN rfl)) dK)) (jG (jyz mx) dJ) (dH mx) (jy1 mx) (λa=>j1r fuel a)
theorem jp6 (mx:Int):OK mx 7 (jch fuel):=dP (m:=3) (d:=3) (bR (bS (kj4 mx) (bN rfl)) dK) (jG (jyy mx) (jG (jyx mx) (jG (jy2 mx) (jG (jy0 mx) dJ)))) (dH mx) (jzm mx) (λa=>j44 fuel a)
theorem kkd (mx:Int):OK mx 8 (jmf fuel):=dP (m:=7) (d:=0) (bR (bS (jp6 mx) (bN rfl)) (bR (bS (j20 mx) (bN rfl)) dK)) dJ (dH mx) (jy3 mx) (λa=>j13 fuel a)
theorem kkx (mx:Int):OK mx 9 (jmu fuel):=dP (m:=8) (d:=0) (bR (bS (jp6 mx) (bN rfl)) (bR (bS (j3c mx) (bN rfl)) (bR (bS (kkd mx) (bN rfl)) dK))) dJ (dH mx) (jza mx) (λa=>j4k fuel a)
theorem j3n (mx:Int):∀n,fU (BB mx) (told mx) prog (0+n*1) [⟨27,[cQ],[jI],yV fuel n⟩]
 | 0=>λt ht n hn=>by
   rw[cD.1 ht];intro a r hr;cases hr
 | n+1=>bS (dP (m:=0+n*1) (d:=0) (bR (j3n mx n) dK) dJ (dH mx) (kaz mx) (λa=>kmh fuel _ a)) (by omega)
theorem jgy (mx:Int):OK mx 22 (jej fuel):=j3n mx 22
theorem kkj (mx:Int):OK mx 23 (jq1 fuel):=dP (m:=22) (d:=0) (bR (bS (jgy mx) (bN rfl)) dK) dJ (dH mx) (ka2 mx) (λa=>kmk fuel a)
theorem j28 (mx:Int):OK mx 24 (jmq fuel):=dP (m:=23) (d:=0) (bR (bS (jgy mx) (bN rfl)) (bR (bS (kkj mx) (bN rfl)) dK)) dJ (dH mx) (kbn mx) (λa=>km5 fuel a)
theorem j3i (mx:Int):fU (BB mx) (told mx) prog 1 [jwu fuel]:=koy (λaz g h=>gO rfl (gO rfl (gO rfl (gO rfl (u9 h)))))
theorem j3g (mx:Int):fU (BB mx) (told mx) prog 1 [jwt fuel]:=kom (λaz g h=>gO rfl (gO rfl (gO rfl (gO rfl (gO rfl (u9 h))))))
theorem kk7 (mx:Int):fU (BB mx) (told mx) prog 1 [j5m fuel]:=koq (λaz g h=>gO rfl (gO rfl (gO rfl (gO rfl (gO rfl (gO rfl (u9 h)))))))
theorem kkc (mx:Int):fU (BB mx) (told mx) prog 1 [j5l fuel]:=kos (j2v mx _ (cD.2 rfl) 8 (by decide)) (λaz g h=>gO rfl (gO rfl (gO rfl (gO rfl (gO rfl (gO rfl (gO rfl (u9 h))))))))
theorem j3a (mx:Int):OK mx 10 (jmt fuel):=dP (m:=9) (d:=0) (bR (bS (kkx mx) (bN rfl)) (bR (bS (j3i mx) (bN rfl)) (bR (bS (j3g mx) (bN rfl)) (bR (bS (kkc mx) (bN rfl)) (bR (bS (kk7 mx) (bN rfl)) dK))))) dJ (dH mx) (kbu mx) (λa=>kns fuel a)
theorem juv (mx:Int):fU (BB mx) (told mx) prog 1 [jl9 fuel]:=j5k (λaz g h=>gO rfl (gO rfl (gO rfl (gO rfl (gO rfl (gO rfl (gO rfl (gO rfl (u9 h)))))))))
theorem kk8 (mx:Int):fU (BB mx) (told mx) prog 1 [j5n fuel]:=kou (λaz g h=>gO rfl (gO rfl (gO rfl (gO rfl (gO rfl (gO rfl (gO rfl (gO rfl (gO rfl (u9 h))))))))))
theorem kj2 (mx:Int):OK mx 8 (jma fuel):=dP (m:=7) (d:=0) (bR (bS (juv mx) (bN rfl)) (bR (bS (jp6 mx) (bN rfl)) dK)) dJ (dH mx) (jyw mx) (λa=>j0o fuel a)
theorem jp2 (mx:Int):fU (BB mx) (told mx) prog 1 [jhr fuel]:=koo (kjm mx _ (cD.2 rfl) 24 (by decide)) (kjn mx _ (cD.2 rfl) 24 (by decide)) (jp1 mx _ (cD.2 rfl) 24 (by decide)) (kjg mx _ (cD.2 rfl) 24 (by decide)) (λaz g h=>gO rfl (gO rfl (gO rfl (gO rfl (gO rfl (gO rfl (gO rfl (gO rfl (gO rfl (gO rfl (h)))))))))))
theorem j3h (mx:Int):OK mx 3 (jm0 fuel):=dP (m:=0) (d:=2) dK (jG (kaj mx) (jG (kak mx) dJ)) (dH mx) (kb1 mx) (λa=>koe fuel a)
theorem j2y (mx:Int):OK mx 8 (jmb fuel):=dP (m:=7) (d:=0) (bR (bS (jp6 mx) (bN rfl)) (bR (bS (j3i mx) (bN rfl)) (bR (bS (j3g mx) (bN rfl)) dK))) dJ (dH mx) (kai mx) (λa=>kd5 fuel a)
theorem kj1 (mx:Int):OK mx 12 (jqx fuel):=dP (m:=10) (d:=1) (bR (bS (j3h mx) (bN rfl)) (bR (bS (j2y mx) (bN rfl)) (bR (bS (j3a mx) (bN rfl)) dK))) (jG (kb2 mx) dJ) (dH mx) (kah mx) (λa=>kd4 fuel a)
theorem jby (mx:Int):OK mx 14 (G6 fuel):=dP (m:=13) (d:=0) (bR (bS (juv mx) (bN rfl)) (bR (bS (kj1 mx) (bN rfl)) (bR (bS (D7 mx) (bN rfl)) (bR (bS (kkw mx) (bN rfl)) (bR (bS (kkv mx) (bN rfl)) dK))))) dJ (dH mx) (kaf mx) (λa=>kd0 fuel a)
theorem juu (mx:Int):OK mx 15 (jeg fuel):=dP (m:=14) (d:=0) (bR (bS (jby mx) (bN rfl)) (bR (bS (kj2 mx) (bN rfl)) (bR (bS (j3h mx) (bN rfl)) (bR (bS (kk8 mx) (bN rfl)) (bR (bS (j2y mx) (bN rfl)) dK))))) dJ (dH mx) (kag mx) (λa=>kd3 fuel a)
theorem j29 (mx:Int):OK mx 1 (jmr fuel):=dP (m:=0) (d:=0) dK dJ (dH mx) (kbt mx) (λa=>knb fuel a)
theorem jk4 (mx:Int):OK mx 23 (jcf fuel):=dP (m:=22) (d:=0) (bR (bS (j29 mx) (bN rfl)) (bR (bS (jgy mx) (bN rfl)) dK)) dJ (dH mx) (kbs mx) (λa=>kna fuel a)
theorem ju1 (mx:Int):OK mx 25 (jhx fuel):=dP (m:=24) (d:=0) (bR (bS (j28 mx) (bN rfl)) (bR (bS (jgy mx) (bN rfl)) (bR (bS (j27 mx) (bN rfl)) dK))) dJ (dH mx) (kbq mx) (λa=>km8 fuel a)
theorem ju2 (mx:Int):OK mx 26 (jhy fuel):=dP (m:=25) (d:=0) (bR (bS (jk4 mx) (bN rfl)) (bR (bS (ju1 mx) (bN rfl)) dK)) dJ (dH mx) (kbr mx) (λa=>km9 fuel a)
theorem jp3 (mx:Int):OK mx 8 (jeh fuel):=dP (m:=7) (d:=0) (bR (bS (j24 mx) (bN rfl)) dK) dJ (dH mx) (kal mx) (λa=>kh2 fuel a)
theorem jgx (mx:Int):OK mx 24 (Y3 fuel):=dP (m:=23) (d:=0) (bR (bS (juv mx) (bN rfl)) (bR (bS (jk4 mx) (bN rfl)) (bR (bS (jby mx) (bN rfl)) (bR (bS (jp2 mx) (bN rfl)) (bR (bS (ju0 mx) (bN rfl)) dK))))) dJ (dH mx) (kav mx) (λa=>kic fuel a)
end
end Vm
end Go.Proofs.YtccefhabickfiaaGreatDoor
