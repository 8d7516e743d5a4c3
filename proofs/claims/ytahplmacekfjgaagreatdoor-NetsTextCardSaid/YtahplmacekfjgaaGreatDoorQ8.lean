/-
  The contracts of the program's functions, one after another. (Printed by a program.)
-/
import Derived.Test.YtahplmacekfjgaaGreatDoorQ7
import Derived.Test.YtahplmacekfjgaaGreatDoorSM
set_option linter.unusedSimpArgs false
set_option linter.unusedVariables false
set_option linter.unusedSectionVars false
set_option linter.unnecessarySimpa false
namespace Go.Proofs.YtahplmacekfjgaaGreatDoor
namespace Vm
open Go Go.Vm Go.Vm.W Go.Vm.X
noncomputable section
set_option maxRecDepth 100000
theorem gok (mx:Int):GRel (BB mx) nu0 GG:=khf (B:=BB mx) (es:=ex mx++es) (kdr mx).symm (l:=GM) (by kernel_rfl) (by kernel_rfl)
abbrev OK (mx:Int) (l:Nat) (t:TE):Prop:=OKs (BB mx) (jkm mx) prog l [t]
abbrev CK (mx:Int) (x:FuncId×Fx):Prop:=(∀vs,jkm mx x.1 vs=none)∧prog.get x.1=some x.2.cfn
theorem jrc (mx:Int):CK mx jkk:=⟨fun _=>rfl,by kernel_rfl⟩
theorem jwk (mx:Int):CK mx jn8:=⟨fun _=>rfl,by kernel_rfl⟩
theorem jyv (mx:Int):CK mx jql:=⟨fun _=>rfl,by kernel_rfl⟩
theorem jys (mx:Int):CK mx jqh:=⟨fun _=>rfl,by kernel_rfl⟩
theorem jyr (mx:Int):CK mx jqg:=⟨fun _=>rfl,by kernel_rfl⟩
theorem jwj (mx:Int):CK mx jn7:=⟨fun _=>rfl,by kernel_rfl⟩
theorem jqw (mx:Int):CK mx jqj:=⟨fun _=>rfl,by kernel_rfl⟩
theorem jm7 (mx:Int):CK mx jmw:=⟨fun _=>rfl,by kernel_rfl⟩
theorem jyt (mx:Int):CK mx jqi:=⟨fun _=>rfl,by kernel_rfl⟩
theorem jyu (mx:Int):CK mx jqk:=⟨fun _=>rfl,by kernel_rfl⟩
theorem jtz (mx:Int):CK mx jm1:=⟨fun _=>rfl,by kernel_rfl⟩
theorem j0x (mx:Int):CK mx jrs:=⟨fun _=>rfl,by kernel_rfl⟩
theorem jty (mx:Int):CK mx jm0:=⟨fun _=>rfl,by kernel_rfl⟩
theorem jtx (mx:Int):CK mx jmz:=⟨fun _=>rfl,by kernel_rfl⟩
theorem jj5 (mx:Int):CK mx jji:=⟨fun _=>rfl,by kernel_rfl⟩
theorem jgj (mx:Int):CK mx jf9:=⟨fun _=>rfl,by kernel_rfl⟩
theorem jqx (mx:Int):CK mx jqm:=⟨fun _=>rfl,by kernel_rfl⟩
theorem jiy (mx:Int):CK mx jij:=⟨fun _=>rfl,by kernel_rfl⟩
theorem jkt (mx:Int):CK mx jkj:=⟨fun _=>rfl,by kernel_rfl⟩
theorem jks (mx:Int):CK mx jki:=⟨fun _=>rfl,by kernel_rfl⟩
theorem jiz (mx:Int):CK mx jik:=⟨fun _=>rfl,by kernel_rfl⟩
theorem jqb (mx:Int):CK mx jjg:=⟨fun _=>rfl,by kernel_rfl⟩
theorem jqc (mx:Int):CK mx jjh:=⟨fun _=>rfl,by kernel_rfl⟩
theorem jqa (mx:Int):CK mx jjf:=⟨fun _=>rfl,by kernel_rfl⟩
theorem jh7 (mx:Int):CK mx jdr:=⟨fun _=>rfl,by kernel_rfl⟩
theorem jp9 (mx:Int):CK mx jjd:=⟨fun _=>rfl,by kernel_rfl⟩
theorem jj4 (mx:Int):CK mx jje:=⟨fun _=>rfl,by kernel_rfl⟩
theorem jpc (mx:Int):CK mx jil:=⟨fun _=>rfl,by kernel_rfl⟩
theorem jlz (mx:Int):CK mx jk0:=⟨fun _=>rfl,by kernel_rfl⟩
theorem jms (mx:Int):CK mx jgu:=⟨fun _=>rfl,by kernel_rfl⟩
theorem jjb (mx:Int):CK mx jei:=⟨fun _=>rfl,by kernel_rfl⟩
theorem jj3 (mx:Int):CK mx jev:=⟨fun _=>rfl,by kernel_rfl⟩
theorem jtw (mx:Int):CK mx jmy:=⟨fun _=>rfl,by kernel_rfl⟩
theorem jl0 (mx:Int):CK mx jk1:=⟨fun _=>rfl,by kernel_rfl⟩
theorem jb1 (mx:Int):CK mx jbz:=⟨fun _=>rfl,by kernel_rfl⟩
theorem jta (mx:Int):CK mx jkz:=⟨fun _=>rfl,by kernel_rfl⟩
theorem j0w (mx:Int):CK mx jrr:=⟨fun _=>rfl,by kernel_rfl⟩
theorem jj2 (mx:Int):CK mx jeu:=⟨fun _=>rfl,by kernel_rfl⟩
theorem jmt (mx:Int):CK mx jgv:=⟨fun _=>rfl,by kernel_rfl⟩
theorem jmu (mx:Int):CK mx jgw:=⟨fun _=>rfl,by kernel_rfl⟩
theorem jtv (mx:Int):CK mx jmx:=⟨fun _=>rfl,by kernel_rfl⟩
theorem jgi (mx:Int):CK mx jf7:=⟨fun _=>rfl,by kernel_rfl⟩
theorem jrb (mx:Int):CK mx jkh:=⟨fun _=>rfl,by kernel_rfl⟩
theorem jg5 (mx:Int):CK mx jgz:=⟨fun _=>rfl,by kernel_rfl⟩
theorem jfj (mx:Int):CK mx jcg:=⟨fun _=>rfl,by kernel_rfl⟩
theorem jke (mx:Int):CK mx je5:=⟨fun _=>rfl,by kernel_rfl⟩
theorem jo8 (mx:Int):CK mx jif:=⟨fun _=>rfl,by kernel_rfl⟩
theorem jly (mx:Int):CK mx jf8:=⟨fun _=>rfl,by kernel_rfl⟩
theorem jpa (mx:Int):CK mx jih:=⟨fun _=>rfl,by kernel_rfl⟩
theorem jn1 (mx:Int):CK mx jhp:=⟨fun _=>rfl,by kernel_rfl⟩
theorem jo9 (mx:Int):CK mx jig:=⟨fun _=>rfl,by kernel_rfl⟩
theorem jpb (mx:Int):CK mx jii:=⟨fun _=>rfl,by kernel_rfl⟩
theorem jn3 (mx:Int):CK mx jhr:=⟨fun _=>rfl,by kernel_rfl⟩
theorem jn2 (mx:Int):CK mx jhq:=⟨fun _=>rfl,by kernel_rfl⟩
theorem jix (mx:Int):CK mx jie:=⟨fun _=>rfl,by kernel_rfl⟩
theorem jku (mx:Int):CK mx jkl:=⟨fun _=>rfl,by kernel_rfl⟩
theorem jg3 (mx:Int):CK mx jgx:=⟨fun _=>rfl,by kernel_rfl⟩
theorem jfi (mx:Int):CK mx je6:=⟨fun _=>rfl,by kernel_rfl⟩
theorem jfp (mx:Int):CK mx jcs:=⟨fun _=>rfl,by kernel_rfl⟩
theorem jg4 (mx:Int):CK mx jgy:=⟨fun _=>rfl,by kernel_rfl⟩
theorem jsg (mx:Int):OK mx 1 (jdt fuel):=jbf (m:=0) (d:=0) jal jae (gok mx) (jl0 mx) (fun a=>jkp fuel a)
theorem jjm (mx:Int):OK mx 2 (jb4 fuel):=jbf (m:=1) (d:=0) (jad (jak (jsg mx) (Nat.le_of_ble_eq_true rfl)) jal) jae (gok mx) (jj5 mx) (fun a=>jiw fuel a)
theorem jqr (mx:Int):OK mx 1 (jew fuel):=jbf (m:=0) (d:=0) jal jae (gok mx) (jqx mx) (fun a=>jo7 fuel a)
theorem jcm (mx:Int):OK mx 3 (jay fuel):=jbf (m:=2) (d:=0) (jad (jak (jjm mx) (Nat.le_of_ble_eq_true rfl)) (jad (jak (jqr mx) (Nat.le_of_ble_eq_true rfl)) jal)) jae (gok mx) (jgj mx) (fun a=>jfr fuel a)
theorem jq5 (mx:Int):OK mx 1 (jdb fuel):=jbf (m:=0) (d:=0) jal jae (gok mx) (jkt mx) (fun a=>jjs fuel a)
theorem joo (mx:Int):OK mx 4 (jcj fuel):=jbf (m:=3) (d:=0) (jad (jak (jjm mx) (Nat.le_of_ble_eq_true rfl)) (jad (jak (jcm mx) (Nat.le_of_ble_eq_true rfl)) (jad (jak (jqr mx) (Nat.le_of_ble_eq_true rfl)) (jad (jak (jq5 mx) (Nat.le_of_ble_eq_true rfl)) jal)))) jae (gok mx) (jiy mx) (fun a=>jh0 fuel a)
theorem jdo (mx:Int):OK mx 1 (ja9 fuel):=jbf (m:=0) (d:=0) jal jae (gok mx) (jiz mx) (fun a=>jh1 fuel a)
theorem jeh (mx:Int):OK mx 4 (jap fuel):=jbf (m:=3) (d:=0) (jad (jak (jcm mx) (Nat.le_of_ble_eq_true rfl)) jal) jae (gok mx) (jb1 mx) (fun a=>jbu fuel a)
theorem jgr (mx:Int):OK mx 5 (jbx fuel):=jbf (m:=4) (d:=0) (jad (jak (jeh mx) (Nat.le_of_ble_eq_true rfl)) jal) jae (gok mx) (jks mx) (fun a=>jjr fuel a)
theorem joj (mx:Int):OK mx 1 (jch fuel):=jbf (m:=0) (d:=0) jal jae (gok mx) (jix mx) (fun a=>jhv fuel a)
theorem jlh (mx:Int):OK mx 2 (jbr fuel):=jbf (m:=1) (d:=0) (jad (jak (joj mx) (Nat.le_of_ble_eq_true rfl)) jal) jae (gok mx) (jgi mx) (fun a=>jfq fuel a)
theorem jpr (mx:Int):OK mx 6 (jcy fuel):=jbf (m:=5) (d:=0) (jad (jak (jgr mx) (Nat.le_of_ble_eq_true rfl)) (jad (jak (jdo mx) (Nat.le_of_ble_eq_true rfl)) (jad (jak (jlh mx) (Nat.le_of_ble_eq_true rfl)) jal))) jae (gok mx) (jj4 mx) (fun a=>jit fuel a)
theorem jlj (mx:Int):OK mx 7 (jds fuel):=jbf (m:=6) (d:=0) (jad (jak (jcm mx) (Nat.le_of_ble_eq_true rfl)) (jad (jak (joo mx) (Nat.le_of_ble_eq_true rfl)) (jad (jak (jgr mx) (Nat.le_of_ble_eq_true rfl)) (jad (jak (jdo mx) (Nat.le_of_ble_eq_true rfl)) (jad (jak (jpr mx) (Nat.le_of_ble_eq_true rfl)) jal))))) jae (gok mx) (jqw mx) (fun a=>joz fuel a)
theorem jhx (mx:Int):OK mx 1 (jcx fuel):=jbf (m:=0) (d:=0) jal jae (gok mx) (jta mx) (fun a=>jq8 fuel a)
theorem jq4 (mx:Int):OK mx 1 (jel fuel):=jbf (m:=0) (d:=0) jal jae (gok mx) (jrb mx) (fun a=>jpx fuel a)
theorem jir (mx:Int):OK mx 2 (jck fuel):=jbf (m:=1) (d:=0) (jad (jak (jq4 mx) (Nat.le_of_ble_eq_true rfl)) jal) jae (gok mx) (jpc mx) (fun a=>jns fuel a)
theorem jse (mx:Int):OK mx 2 (jht fuel):=jbf (m:=1) (d:=0) (jad (jak (jhx mx) (Nat.le_of_ble_eq_true rfl)) jal) jae (gok mx) (j0w mx) (fun a=>jxu fuel a)
theorem jpt (mx:Int):OK mx 3 (jd4 fuel):=jbf (m:=2) (d:=0) (jad (jak (jir mx) (Nat.le_of_ble_eq_true rfl)) (jad (jak (jhx mx) (Nat.le_of_ble_eq_true rfl)) (jad (jak (jse mx) (Nat.le_of_ble_eq_true rfl)) jal))) jae (gok mx) (jqb mx) (fun a=>jox fuel a)
theorem jpu (mx:Int):OK mx 3 (jd5 fuel):=jbf (m:=2) (d:=0) (jad (jak (jir mx) (Nat.le_of_ble_eq_true rfl)) (jad (jak (jhx mx) (Nat.le_of_ble_eq_true rfl)) (jad (jak (jse mx) (Nat.le_of_ble_eq_true rfl)) jal))) jae (gok mx) (jqc mx) (fun a=>joy fuel a)
theorem jqq (mx:Int):OK mx 8 (jgb fuel):=jbf (m:=7) (d:=0) (jad (jak (jlj mx) (Nat.le_of_ble_eq_true rfl)) (jad (jak (jgr mx) (Nat.le_of_ble_eq_true rfl)) (jad (jak (jdo mx) (Nat.le_of_ble_eq_true rfl)) (jad (jak (jpt mx) (Nat.le_of_ble_eq_true rfl)) (jad (jak (jpu mx) (Nat.le_of_ble_eq_true rfl)) jal))))) jae (gok mx) (jys mx) (fun a=>jvq fuel a)
theorem jps (mx:Int):OK mx 1 (jd3 fuel):=jbf (m:=0) (d:=0) jal jae (gok mx) (jqa mx) (fun a=>jow fuel a)
theorem jjl (mx:Int):OK mx 1 (jbt fuel):=jbf (m:=0) (d:=0) jal jae (gok mx) (jj2 mx) (fun a=>ji4 fuel a)
theorem jhw (mx:Int):OK mx 2 (jbi fuel):=jbf (m:=1) (d:=0) (jad (jak (jjl mx) (Nat.le_of_ble_eq_true rfl)) jal) jae (gok mx) (jh7 mx) (fun a=>jg8 fuel a)
theorem jxq (mx:Int):OK mx 9 (jim fuel):=jbf (m:=8) (d:=0) (jad (jak (jqq mx) (Nat.le_of_ble_eq_true rfl)) (jad (jak (jps mx) (Nat.le_of_ble_eq_true rfl)) (jad (jak (jhw mx) (Nat.le_of_ble_eq_true rfl)) jal))) jae (gok mx) (jyr mx) (fun a=>jvp fuel a)
theorem jgq (mx:Int):j8b (BB mx) (jkm mx) prog 1 [⟨72,2,[(.row tqb),(.v (.fn 31))],[],jb5 fuel⟩]:=jw8 (t:=tSQ) rfl (fun L=>(jey cfS L).length_eq) (fun L h=>j5i rfl L h) (fun az g h=>jau rfl (jau rfl (jha h)))
theorem jg9 (mx:Int):j8b (BB mx) (jkm mx) prog 1 [⟨73,2,[(.row tqg),(.v (.fn 35))],[],jcc fuel⟩]:=jw8 (t:=tHG) rfl (fun L=>(jey cfH L).length_eq) (fun L h=>j5i rfl L h) (fun az g h=>jau rfl (jau rfl (jau rfl (jha h))))
theorem jok (mx:Int):OK mx 1 (jdj fuel):=jbf (m:=0) (d:=0) jal jae (gok mx) (jo8 mx) (fun a=>jno fuel a)
theorem jli (mx:Int):OK mx 1 (jci fuel):=jbf (m:=0) (d:=0) jal jae (gok mx) (jly mx) (fun a=>jkx fuel a)
theorem jom (mx:Int):OK mx 1 (jdl fuel):=jbf (m:=0) (d:=0) jal jae (gok mx) (jpa mx) (fun a=>jnq fuel a)
theorem jni (mx:Int):OK mx 1 (jc3 fuel):=jbf (m:=0) (d:=0) jal jae (gok mx) (jn1 mx) (fun a=>jmm fuel a)
theorem jol (mx:Int):OK mx 1 (jdk fuel):=jbf (m:=0) (d:=0) jal jae (gok mx) (jo9 mx) (fun a=>jnp fuel a)
theorem jon (mx:Int):OK mx 1 (jdm fuel):=jbf (m:=0) (d:=0) jal jae (gok mx) (jpb mx) (fun a=>jnr fuel a)
theorem jnk (mx:Int):OK mx 1 (jc5 fuel):=jbf (m:=0) (d:=0) jal jae (gok mx) (jn3 mx) (fun a=>jmo fuel a)
theorem jnj (mx:Int):OK mx 1 (jc4 fuel):=jbf (m:=0) (d:=0) jal jae (gok mx) (jn2 mx) (fun a=>jmn fuel a)
theorem jmj (mx:Int):OK mx 3 (jcu fuel):=jbf (m:=1) (d:=1) (jad (jak (jok mx) (Nat.le_of_ble_eq_true rfl)) (jad (jak (jli mx) (Nat.le_of_ble_eq_true rfl)) (jad (jak (jom mx) (Nat.le_of_ble_eq_true rfl)) (jad (jak (jni mx) (Nat.le_of_ble_eq_true rfl)) (jad (jak (jol mx) (Nat.le_of_ble_eq_true rfl)) (jad (jak (jon mx) (Nat.le_of_ble_eq_true rfl)) (jad (jak (jnk mx) (Nat.le_of_ble_eq_true rfl)) (jad (jak (jnj mx) (Nat.le_of_ble_eq_true rfl)) jal)))))))) (ja8 (jke mx) jae) (gok mx) (jmt mx) (fun a=>jlp fuel a)
theorem jtp (mx:Int):OK mx 4 (jf1 fuel):=jbf (m:=3) (d:=0) (jad (jak (jcm mx) (Nat.le_of_ble_eq_true rfl)) jal) jae (gok mx) (jtv mx) (fun a=>jsl fuel a)
theorem jpq (mx:Int):OK mx 6 (jd2 fuel):=khg (m:=4) (d:=1) (jad (jak (jdo mx) (Nat.le_of_ble_eq_true rfl)) (jad (jak (jmj mx) (Nat.le_of_ble_eq_true rfl)) (jad (jak (jtp mx) (Nat.le_of_ble_eq_true rfl)) jal))) (jzb (j8a (jgq mx) (Nat.le_of_ble_eq_true rfl)) (jzb (j8a (jg9 mx) (Nat.le_of_ble_eq_true rfl)) j95)) (ja8 (jmu mx) jae) (gok mx) (jp9 mx) (fun a=>jov fuel a)
theorem jvk (mx:Int):OK mx 8 (jg6 fuel):=jbf (m:=7) (d:=0) (jad (jak (jlj mx) (Nat.le_of_ble_eq_true rfl)) (jad (jak (jpq mx) (Nat.le_of_ble_eq_true rfl)) jal)) jae (gok mx) (jwj mx) (fun a=>jtq fuel a)
theorem jq7 (mx:Int):OKs (BB mx) mm0 prog 1 [jdt fuel]:=jbf (m:=0) (d:=0) jal jae (gok mx) ⟨fun _=>rfl,(jl0 mx).2⟩ (fun a=>jkp fuel a)
theorem jis (mx:Int):OKs (BB mx) mm0 prog 2 [jb4 fuel]:=jbf (m:=1) (d:=0) (jad (jak (jq7 mx) (Nat.le_of_ble_eq_true rfl)) jal) jae (gok mx) ⟨fun _=>rfl,(jj5 mx).2⟩ (fun a=>jiw fuel a)
theorem jos (mx:Int):OKs (BB mx) mm0 prog 1 [jew fuel]:=jbf (m:=0) (d:=0) jal jae (gok mx) ⟨fun _=>rfl,(jqx mx).2⟩ (fun a=>jo7 fuel a)
theorem jdi (mx:Int):OKs (BB mx) mm0 prog 3 [jay fuel]:=jbf (m:=2) (d:=0) (jad (jak (jis mx) (Nat.le_of_ble_eq_true rfl)) (jad (jak (jos mx) (Nat.le_of_ble_eq_true rfl)) jal)) jae (gok mx) ⟨fun _=>rfl,(jgj mx).2⟩ (fun a=>jfr fuel a)
theorem jpw (mx:Int):OKs (BB mx) mm0 prog 1 [jdb fuel]:=jbf (m:=0) (d:=0) jal jae (gok mx) ⟨fun _=>rfl,(jkt mx).2⟩ (fun a=>jjs fuel a)
theorem jnm (mx:Int):OKs (BB mx) mm0 prog 4 [jcj fuel]:=jbf (m:=3) (d:=0) (jad (jak (jis mx) (Nat.le_of_ble_eq_true rfl)) (jad (jak (jdi mx) (Nat.le_of_ble_eq_true rfl)) (jad (jak (jos mx) (Nat.le_of_ble_eq_true rfl)) (jad (jak (jpw mx) (Nat.le_of_ble_eq_true rfl)) jal)))) jae (gok mx) ⟨fun _=>rfl,(jiy mx).2⟩ (fun a=>jh0 fuel a)
theorem jhy (mx:Int):OKs (BB mx) mm0 prog 1 [ja9 fuel]:=jbf (m:=0) (d:=0) jal jae (gok mx) ⟨fun _=>rfl,(jiz mx).2⟩ (fun a=>jh1 fuel a)
theorem jd8 (mx:Int):OKs (BB mx) mm0 prog 4 [jap fuel]:=jbf (m:=3) (d:=0) (jad (jak (jdi mx) (Nat.le_of_ble_eq_true rfl)) jal) jae (gok mx) ⟨fun _=>rfl,(jb1 mx).2⟩ (fun a=>jbu fuel a)
theorem jjo (mx:Int):OKs (BB mx) mm0 prog 5 [jbx fuel]:=jbf (m:=4) (d:=0) (jad (jak (jd8 mx) (Nat.le_of_ble_eq_true rfl)) jal) jae (gok mx) ⟨fun _=>rfl,(jks mx).2⟩ (fun a=>jjr fuel a)
theorem jnl (mx:Int):OKs (BB mx) mm0 prog 1 [jch fuel]:=jbf (m:=0) (d:=0) jal jae (gok mx) ⟨fun _=>rfl,(jix mx).2⟩ (fun a=>jhv fuel a)
theorem jkw (mx:Int):OKs (BB mx) mm0 prog 2 [jbr fuel]:=jbf (m:=1) (d:=0) (jad (jak (jnl mx) (Nat.le_of_ble_eq_true rfl)) jal) jae (gok mx) ⟨fun _=>rfl,(jgi mx).2⟩ (fun a=>jfq fuel a)
theorem joq (mx:Int):OKs (BB mx) mm0 prog 6 [jcy fuel]:=jbf (m:=5) (d:=0) (jad (jak (jjo mx) (Nat.le_of_ble_eq_true rfl)) (jad (jak (jhy mx) (Nat.le_of_ble_eq_true rfl)) (jad (jak (jkw mx) (Nat.le_of_ble_eq_true rfl)) jal))) jae (gok mx) ⟨fun _=>rfl,(jj4 mx).2⟩ (fun a=>jit fuel a)
theorem jvm (mx:Int):OKs (BB mx) mm0 prog 7 [jds fuel]:=jbf (m:=6) (d:=0) (jad (jak (jdi mx) (Nat.le_of_ble_eq_true rfl)) (jad (jak (jnm mx) (Nat.le_of_ble_eq_true rfl)) (jad (jak (jjo mx) (Nat.le_of_ble_eq_true rfl)) (jad (jak (jhy mx) (Nat.le_of_ble_eq_true rfl)) (jad (jak (joq mx) (Nat.le_of_ble_eq_true rfl)) jal))))) jae (gok mx) ⟨fun _=>rfl,(jqw mx).2⟩ (fun a=>joz fuel a)
theorem jvn (mx:Int):OKs (BB mx) mm0 prog 1 [jio fuel]:=jbf (m:=0) (d:=0) jal jae (gok mx) ⟨fun _=>rfl,(jyv mx).2⟩ (fun a=>jvz fuel a)
theorem jxt (mx:Int):OKs (BB mx) mm0 prog 1 [jkb fuel]:=jbf (m:=0) (d:=0) jal jae (gok mx) ⟨fun _=>rfl,(j0x mx).2⟩ (fun a=>jx0 fuel a)
theorem jsj (mx:Int):OKs (BB mx) mm0 prog 1 [jf4 fuel]:=jbf (m:=0) (d:=0) jal jae (gok mx) ⟨fun _=>rfl,(jty mx).2⟩ (fun a=>jst fuel a)
theorem jsi (mx:Int):OKs (BB mx) mm0 prog 2 [jf2 fuel]:=jbf (m:=1) (d:=0) (jad (jak (jvn mx) (Nat.le_of_ble_eq_true rfl)) jal) jae (gok mx) ⟨fun _=>rfl,(jtw mx).2⟩ (fun a=>jsr fuel a)
theorem jlk (mx:Int):OKs (BB mx) mm0 prog 1 [jf3 fuel]:=jbf (m:=0) (d:=0) jal jae (gok mx) ⟨fun _=>rfl,(jtx mx).2⟩ (fun a=>jss fuel a)
theorem jsk (mx:Int):OKs (BB mx) mm0 prog 3 [ji3 fuel]:=jbf (m:=2) (d:=0) (jad (jak (jxt mx) (Nat.le_of_ble_eq_true rfl)) (jad (jak (jsj mx) (Nat.le_of_ble_eq_true rfl)) (jad (jak (jlk mx) (Nat.le_of_ble_eq_true rfl)) (jad (jak (jsi mx) (Nat.le_of_ble_eq_true rfl)) jal)))) jae (gok mx) ⟨fun _=>rfl,(jtz mx).2⟩ (fun a=>jsu fuel a)
theorem jor (mx:Int):OKs (BB mx) mm0 prog 1 [jft fuel]:=j5e (fun az g h=>jha h)
theorem jlm (mx:Int):OKs (BB mx) mm0 prog 1 [jee fuel]:=j5d (fun az g h=>jau rfl h)
theorem jll (mx:Int):OKs (BB mx) mm0 prog 3 [jb0 fuel]:=jbf (m:=1) (d:=1) (jad (jak (jor mx) (Nat.le_of_ble_eq_true rfl)) (jad (jak (jlm mx) (Nat.le_of_ble_eq_true rfl)) jal)) (ja8 ⟨fun _=>rfl,(jg4 mx).2⟩ jae) (gok mx) ⟨fun _=>rfl,(jg3 mx).2⟩ (fun a=>jge fuel a)
theorem jsh (mx:Int):OKs (BB mx) mm0 prog 7 [jej fuel]:=jbf (m:=3) (d:=3) (jad (jak (jll mx) (Nat.le_of_ble_eq_true rfl)) jal) (ja8 ⟨fun _=>rfl,(jlz mx).2⟩ (ja8 ⟨fun _=>rfl,(jg5 mx).2⟩ (ja8 ⟨fun _=>rfl,(jku mx).2⟩ (ja8 ⟨fun _=>rfl,(jfi mx).2⟩ jae)))) (gok mx) ⟨fun _=>rfl,(jm7 mx).2⟩ (fun a=>jk6 fuel a)
theorem jxs (mx:Int):OKs (BB mx) (jkm mx) prog 1 [jqn fuel]:=kei (jsk mx _ (List.mem_singleton.2 rfl) 7 (by decide)) (jlk mx _ (List.mem_singleton.2 rfl) 7 (by decide)) (fun az g h=>jha h)
theorem jvl (mx:Int):OK mx 10 (jg7 fuel):=jbf (m:=9) (d:=0) (jad (jak (jqq mx) (Nat.le_of_ble_eq_true rfl)) (jad (jak (jxq mx) (Nat.le_of_ble_eq_true rfl)) (jad (jak (jvk mx) (Nat.le_of_ble_eq_true rfl)) jal))) jae (gok mx) (jwk mx) (fun a=>jts fuel a)
theorem jpv (mx:Int):OKs (BB mx) (jkm mx) prog 1 [jft fuel]:=j5e fun az g h=>jau rfl (jau rfl (jau rfl (jau rfl (jha h))))
theorem jml (mx:Int):OKs (BB mx) (jkm mx) prog 1 [jee fuel]:=j5d fun az g h=>jau rfl (jau rfl (jau rfl (jau rfl (jau rfl (jha h)))))
theorem jmk (mx:Int):OK mx 3 (jb0 fuel):=jbf (m:=1) (d:=1) (jad (jak (jpv mx) (Nat.le_of_ble_eq_true rfl)) (jad (jak (jml mx) (Nat.le_of_ble_eq_true rfl)) jal)) (ja8 (jg4 mx) jae) (gok mx) (jg3 mx) (fun a=>jge fuel a)
theorem jtn (mx:Int):OK mx 7 (jej fuel):=jbf (m:=3) (d:=3) (jad (jak (jmk mx) (Nat.le_of_ble_eq_true rfl)) jal) (ja8 (jlz mx) (ja8 (jg5 mx) (ja8 (jku mx) (ja8 (jfi mx) jae)))) (gok mx) (jm7 mx) (fun a=>jk6 fuel a)
theorem jsf (mx:Int):OKs (BB mx) (jkm mx) prog 1 [jna fuel]:=j8l (runC:=jce fuel) (runI:=jah fuel) (jvm mx _ (List.mem_singleton.2 rfl) 7 (by decide)) (jsh mx _ (List.mem_singleton.2 rfl) 7 (by decide)) (fun az g h=>jau rfl (jha h))
theorem jmi (mx:Int):OKs (BB mx) (jkm mx) prog 1 [jg0 fuel]:=j3j (fun az g h=>jau rfl (jau rfl (jau rfl (jau rfl (jau rfl (jau rfl (jau rfl (jau rfl (h)))))))))
theorem jsd (mx:Int):OKs (BB mx) (jkm mx) prog 1 [jk2 fuel]:=j5c (fun az g h=>jau rfl (jau rfl (jau rfl (jau rfl (jau rfl (jau rfl (jau rfl (jha h))))))))
theorem jto (mx:Int):OKs (BB mx) (jkm mx) prog 1 [jm2 fuel]:=j8n (fun az g h=>jau rfl (jau rfl (jau rfl (jau rfl (jau rfl (jau rfl (jha h)))))))
theorem jfn (mx:Int):OK mx 1 (ja5 fuel):=jbf (m:=0) (d:=0) jal jae (gok mx) (jfp mx) (fun a=>jfe fuel a)
theorem jmh (mx:Int):OK mx 3 (jct fuel):=jbf (m:=1) (d:=1) (jad (jak (jfn mx) (Nat.le_of_ble_eq_true rfl)) jal) (ja8 (jfj mx) jae) (gok mx) (jms mx) (fun a=>jk5 fuel a)
theorem jxr (mx:Int):OK mx 5 (jin fuel):=jbf (m:=3) (d:=1) (jad (jak (jsf mx) (Nat.le_of_ble_eq_true rfl)) (jad (jak (jmi mx) (Nat.le_of_ble_eq_true rfl)) (jad (jak (jsd mx) (Nat.le_of_ble_eq_true rfl)) (jad (jak (jmh mx) (Nat.le_of_ble_eq_true rfl)) (jad (jak (jto mx) (Nat.le_of_ble_eq_true rfl)) jal))))) (ja8 (jjb mx) (ja8 (jj3 mx) jae)) (gok mx) (jyt mx) (fun a=>jvr fuel a)
theorem jq6 (mx:Int):OK mx 12 (jgo fuel):=jbf (m:=10) (d:=1) (jad (jak (jxs mx) (Nat.le_of_ble_eq_true rfl)) (jad (jak (jsf mx) (Nat.le_of_ble_eq_true rfl)) (jad (jak (jvl mx) (Nat.le_of_ble_eq_true rfl)) (jad (jak (jlj mx) (Nat.le_of_ble_eq_true rfl)) (jad (jak (jtn mx) (Nat.le_of_ble_eq_true rfl)) (jad (jak (jxr mx) (Nat.le_of_ble_eq_true rfl)) jal)))))) (ja8 (jyu mx) jae) (gok mx) (jrc mx) (fun a=>jp2 fuel a)
end
end Vm
end Go.Proofs.YtahplmacekfjgaaGreatDoor
