/-
  The contracts of the program's functions, one after another. (Printed by a program.)
-/
import Derived.Test.YtonohffniohehaaGreatDoorQ7
import Derived.Test.YtonohffniohehaaGreatDoorSM
set_option linter.unusedSimpArgs false
set_option linter.unusedVariables false
set_option linter.unusedSectionVars false
set_option linter.unnecessarySimpa false
namespace Go.Proofs.YtonohffniohehaaGreatDoor
namespace Vm
open Go Go.Vm Go.Vm.W Go.Vm.X
noncomputable section
set_option maxRecDepth 100000
theorem gok (mx:Int):GRel (BB mx) nu0 GG:=kf9 (B:=BB mx) (es:=ex mx++es) (kjj mx).symm (l:=GM) (by kernel_rfl) (by kernel_rfl)
abbrev OK (mx:Int) (l:Nat) (t:TE):Prop:=OKs (BB mx) (told mx) prog l [t]
abbrev CK (mx:Int) (x:FuncId×Fx):Prop:=(∀vs,told mx x.1 vs=none)∧prog.get x.1=some x.2.cfn
theorem jne (mx:Int):CK mx jhg:=⟨fun _=>rfl,by kernel_rfl⟩
theorem jq7 (mx:Int):CK mx jjl:=⟨fun _=>rfl,by kernel_rfl⟩
theorem jld (mx:Int):CK mx jf2:=⟨fun _=>rfl,by kernel_rfl⟩
theorem jl3 (mx:Int):CK mx jgx:=⟨fun _=>rfl,by kernel_rfl⟩
theorem joh (mx:Int):CK mx jh5:=⟨fun _=>rfl,by kernel_rfl⟩
theorem jl2 (mx:Int):CK mx jgw:=⟨fun _=>rfl,by kernel_rfl⟩
theorem jnf (mx:Int):CK mx jhh:=⟨fun _=>rfl,by kernel_rfl⟩
theorem j25 (mx:Int):CK mx jsp:=⟨fun _=>rfl,by kernel_rfl⟩
theorem jtl (mx:Int):CK mx jli:=⟨fun _=>rfl,by kernel_rfl⟩
theorem jtn (mx:Int):CK mx jlk:=⟨fun _=>rfl,by kernel_rfl⟩
theorem j0o (mx:Int):CK mx jp6:=⟨fun _=>rfl,by kernel_rfl⟩
theorem j0g (mx:Int):CK mx jpy:=⟨fun _=>rfl,by kernel_rfl⟩
theorem j24 (mx:Int):CK mx jso:=⟨fun _=>rfl,by kernel_rfl⟩
theorem j0f (mx:Int):CK mx jpx:=⟨fun _=>rfl,by kernel_rfl⟩
theorem j8s (mx:Int):CK mx jxa:=⟨fun _=>rfl,by kernel_rfl⟩
theorem jq6 (mx:Int):CK mx jjk:=⟨fun _=>rfl,by kernel_rfl⟩
theorem jw8 (mx:Int):CK mx jom:=⟨fun _=>rfl,by kernel_rfl⟩
theorem j23 (mx:Int):CK mx jsn:=⟨fun _=>rfl,by kernel_rfl⟩
theorem jv1 (mx:Int):CK mx jl7:=⟨fun _=>rfl,by kernel_rfl⟩
theorem j0k (mx:Int):CK mx jp2:=⟨fun _=>rfl,by kernel_rfl⟩
theorem j0j (mx:Int):CK mx jp1:=⟨fun _=>rfl,by kernel_rfl⟩
theorem j0n (mx:Int):CK mx jp5:=⟨fun _=>rfl,by kernel_rfl⟩
theorem j2w (mx:Int):CK mx jsf:=⟨fun _=>rfl,by kernel_rfl⟩
theorem jtm (mx:Int):CK mx jlj:=⟨fun _=>rfl,by kernel_rfl⟩
theorem jv0 (mx:Int):CK mx jl6:=⟨fun _=>rfl,by kernel_rfl⟩
theorem jpm (mx:Int):CK mx jiz:=⟨fun _=>rfl,by kernel_rfl⟩
theorem j0i (mx:Int):CK mx jp0:=⟨fun _=>rfl,by kernel_rfl⟩
theorem jv5 (mx:Int):CK mx jmb:=⟨fun _=>rfl,by kernel_rfl⟩
theorem jj8 (mx:Int):CK mx je8:=⟨fun _=>rfl,by kernel_rfl⟩
theorem jls (mx:Int):CK mx jh1:=⟨fun _=>rfl,by kernel_rfl⟩
theorem jr7 (mx:Int):CK mx jka:=⟨fun _=>rfl,by kernel_rfl⟩
theorem j5k (mx:Int):CK mx jt5:=⟨fun _=>rfl,by kernel_rfl⟩
theorem j8t (mx:Int):CK mx jxb:=⟨fun _=>rfl,by kernel_rfl⟩
theorem j2x (mx:Int):CK mx jsg:=⟨fun _=>rfl,by kernel_rfl⟩
theorem jtp (mx:Int):CK mx jlm:=⟨fun _=>rfl,by kernel_rfl⟩
theorem jvz (mx:Int):CK mx jl5:=⟨fun _=>rfl,by kernel_rfl⟩
theorem jhx (mx:Int):CK mx jdk:=⟨fun _=>rfl,by kernel_rfl⟩
theorem j2v (mx:Int):CK mx jse:=⟨fun _=>rfl,by kernel_rfl⟩
theorem jh4 (mx:Int):CK mx jd2:=⟨fun _=>rfl,by kernel_rfl⟩
theorem j0l (mx:Int):CK mx jp3:=⟨fun _=>rfl,by kernel_rfl⟩
theorem j2y (mx:Int):CK mx jsh:=⟨fun _=>rfl,by kernel_rfl⟩
theorem j22 (mx:Int):CK mx jsl:=⟨fun _=>rfl,by kernel_rfl⟩
theorem jv4 (mx:Int):CK mx jma:=⟨fun _=>rfl,by kernel_rfl⟩
theorem jpl (mx:Int):CK mx jiy:=⟨fun _=>rfl,by kernel_rfl⟩
theorem js2 (mx:Int):CK mx jsm:=⟨fun _=>rfl,by kernel_rfl⟩
theorem joz (mx:Int):CK mx joj:=⟨fun _=>rfl,by kernel_rfl⟩
theorem jc6 (mx:Int):CK mx jb1:=⟨fun _=>rfl,by kernel_rfl⟩
theorem jw7 (mx:Int):CK mx jol:=⟨fun _=>rfl,by kernel_rfl⟩
theorem j0m (mx:Int):CK mx jp4:=⟨fun _=>rfl,by kernel_rfl⟩
theorem j21 (mx:Int):CK mx jsk:=⟨fun _=>rfl,by kernel_rfl⟩
theorem j2z (mx:Int):CK mx jsi:=⟨fun _=>rfl,by kernel_rfl⟩
theorem j0h (mx:Int):CK mx jpz:=⟨fun _=>rfl,by kernel_rfl⟩
theorem je6 (mx:Int):CK mx jb9:=⟨fun _=>rfl,by kernel_rfl⟩
theorem jpn (mx:Int):CK mx ji0:=⟨fun _=>rfl,by kernel_rfl⟩
theorem jsa (mx:Int):CK mx jkd:=⟨fun _=>rfl,by kernel_rfl⟩
theorem j0c (mx:Int):CK mx jpu:=⟨fun _=>rfl,by kernel_rfl⟩
theorem jl1 (mx:Int):CK mx jgv:=⟨fun _=>rfl,by kernel_rfl⟩
theorem jto (mx:Int):CK mx jll:=⟨fun _=>rfl,by kernel_rfl⟩
theorem j0d (mx:Int):CK mx jpv:=⟨fun _=>rfl,by kernel_rfl⟩
theorem j0e (mx:Int):CK mx jpw:=⟨fun _=>rfl,by kernel_rfl⟩
theorem jtk (mx:Int):CK mx jlh:=⟨fun _=>rfl,by kernel_rfl⟩
theorem jr8 (mx:Int):CK mx jkb:=⟨fun _=>rfl,by kernel_rfl⟩
theorem jlc (mx:Int):CK mx jkw:=⟨fun _=>rfl,by kernel_rfl⟩
theorem jng (mx:Int):CK mx jmc:=⟨fun _=>rfl,by kernel_rfl⟩
theorem jq5 (mx:Int):CK mx jjj:=⟨fun _=>rfl,by kernel_rfl⟩
theorem jv2 (mx:Int):CK mx jl8:=⟨fun _=>rfl,by kernel_rfl⟩
theorem jw9 (mx:Int):CK mx jon:=⟨fun _=>rfl,by kernel_rfl⟩
theorem jr9 (mx:Int):CK mx jkc:=⟨fun _=>rfl,by kernel_rfl⟩
theorem jf0 (mx:Int):CK mx jcp:=⟨fun _=>rfl,by kernel_rfl⟩
theorem jgq (mx:Int):CK mx jcv:=⟨fun _=>rfl,by kernel_rfl⟩
theorem jw6 (mx:Int):CK mx jok:=⟨fun _=>rfl,by kernel_rfl⟩
theorem j26 (mx:Int):CK mx jsq:=⟨fun _=>rfl,by kernel_rfl⟩
theorem jv6 (mx:Int):CK mx jmd:=⟨fun _=>rfl,by kernel_rfl⟩
theorem j8u (mx:Int):CK mx jxc:=⟨fun _=>rfl,by kernel_rfl⟩
theorem jic (mx:Int):CK mx jh8:=⟨fun _=>rfl,by kernel_rfl⟩
theorem jj7 (mx:Int):CK mx je7:=⟨fun _=>rfl,by kernel_rfl⟩
theorem jv3 (mx:Int):CK mx jl9:=⟨fun _=>rfl,by kernel_rfl⟩
theorem j20 (mx:Int):CK mx jsj:=⟨fun _=>rfl,by kernel_rfl⟩
theorem jlb (mx:Int):CK mx jf1:=⟨fun _=>rfl,by kernel_rfl⟩
theorem jhb (mx:Int):CK mx jc9:=⟨fun _=>rfl,by kernel_rfl⟩
theorem jpk (mx:Int):CK mx jix:=⟨fun _=>rfl,by kernel_rfl⟩
theorem jdx (mx:Int):CK mx jbx:=⟨fun _=>rfl,by kernel_rfl⟩
theorem jdy (mx:Int):CK mx jcd:=⟨fun _=>rfl,by kernel_rfl⟩
theorem jlt (mx:Int):CK mx jln:=⟨fun _=>rfl,by kernel_rfl⟩
theorem jia (mx:Int):CK mx jh6:=⟨fun _=>rfl,by kernel_rfl⟩
theorem jgr (mx:Int):CK mx jf3:=⟨fun _=>rfl,by kernel_rfl⟩
theorem j5l (mx:Int):CK mx jt6:=⟨fun _=>rfl,by kernel_rfl⟩
theorem jgp (mx:Int):CK mx jcu:=⟨fun _=>rfl,by kernel_rfl⟩
theorem jib (mx:Int):CK mx jh7:=⟨fun _=>rfl,by kernel_rfl⟩
theorem jsw (mx:Int):OK mx 1 (jho fuel):=ja1 (m:=0) (d:=0) jai jad (gok mx) (j25 mx) (fun a=>jzq fuel a)
theorem jbc (mx:Int):OK mx 1 (jar fuel):=ja1 (m:=0) (d:=0) jai jad (gok mx) (jj8 mx) (fun a=>ji7 fuel a)
theorem jk1 (mx:Int):OK mx 3 (jce fuel):=ja1 (m:=1) (d:=1) (jab (jag (jbc mx) (Nat.le_of_ble_eq_true rfl)) jai) (jam (jdx mx) (jam (jgp mx) jad)) (gok mx) (jlb mx) (fun a=>jj3 fuel a)
theorem jpc (mx:Int):OK mx 3 (jdn fuel):=ja1 (m:=1) (d:=1) (jab (jag (jbc mx) (Nat.le_of_ble_eq_true rfl)) jai) (jam (jdy mx) jad) (gok mx) (jpk mx) (fun a=>jmm fuel a)
theorem jg6 (mx:Int):OK mx 2 (jbe fuel):=ja1 (m:=0) (d:=1) jai (jam (jdy mx) jad) (gok mx) (jhb mx) (fun a=>jgn fuel a)
theorem jgh (mx:Int):OK mx 4 (ja5 fuel):=ja1 (m:=3) (d:=0) (jab (jag (jk1 mx) (Nat.le_of_ble_eq_true rfl)) (jab (jag (jg6 mx) (Nat.le_of_ble_eq_true rfl)) (jab (jag (jpc mx) (Nat.le_of_ble_eq_true rfl)) jai))) jad (gok mx) (jgq mx) (fun a=>jfo fuel a)
theorem jqn (mx:Int):OK mx 5 (jf4 fuel):=ja1 (m:=4) (d:=0) (jab (jag (jgh mx) (Nat.le_of_ble_eq_true rfl)) jai) jad (gok mx) (j0c mx) (fun a=>jwn fuel a)
theorem jor (mx:Int):OK mx 2 (jcg fuel):=ja1 (m:=1) (d:=0) (jab (jag (jbc mx) (Nat.le_of_ble_eq_true rfl)) jai) jad (gok mx) (jj7 mx) (fun a=>ji6 fuel a)
theorem joq (mx:Int):OK mx 7 (je9 fuel):=ja1 (m:=5) (d:=1) (jab (jag (jbc mx) (Nat.le_of_ble_eq_true rfl)) (jab (jag (jqn mx) (Nat.le_of_ble_eq_true rfl)) jai)) (jam (jdx mx) jad) (gok mx) (jw6 mx) (fun a=>jul fuel a)
theorem j14 (mx:Int):OK mx 2 (jjs fuel):=ja1 (m:=0) (d:=1) jai (jam (jlc mx) (jam (jdy mx) jad)) (gok mx) (j26 mx) (fun a=>jz9 fuel a)
theorem jve (mx:Int):OK mx 2 (jga fuel):=ja1 (m:=0) (d:=1) jai (jam (jdy mx) jad) (gok mx) (jv6 mx) (fun a=>jtj fuel a)
theorem jy6 (mx:Int):OK mx 8 (jid fuel):=ja1 (m:=7) (d:=0) (jab (jag (joq mx) (Nat.le_of_ble_eq_true rfl)) (jab (jag (j14 mx) (Nat.le_of_ble_eq_true rfl)) jai)) jad (gok mx) (j0d mx) (fun a=>jwo fuel a)
theorem jy7 (mx:Int):OK mx 8 (jie fuel):=ja1 (m:=7) (d:=0) (jab (jag (joq mx) (Nat.le_of_ble_eq_true rfl)) (jab (jag (jve mx) (Nat.le_of_ble_eq_true rfl)) jai)) jad (gok mx) (j0e mx) (fun a=>jwp fuel a)
theorem jw1 (mx:Int):OK mx 3 (jhd fuel):=ja1 (m:=1) (d:=1) (jab (jag (jbc mx) (Nat.le_of_ble_eq_true rfl)) jai) (jam (jc6 mx) (jam (jq5 mx) jad)) (gok mx) (jw7 mx) (fun a=>jum fuel a)
theorem jtd (mx:Int):OK mx 1 (jfd fuel):=ja1 (m:=0) (d:=0) jai jad (gok mx) (jtk mx) (fun a=>jri fuel a)
theorem jmv (mx:Int):OK mx 9 (jeh fuel):=ja1 (m:=8) (d:=0) (jab (jag (jy6 mx) (Nat.le_of_ble_eq_true rfl)) (jab (jag (jy7 mx) (Nat.le_of_ble_eq_true rfl)) (jab (jag (jtd mx) (Nat.le_of_ble_eq_true rfl)) jai))) jad (gok mx) (jvz mx) (fun a=>js6 fuel a)
theorem jkl (mx:Int):OK mx 10 (jda fuel):=ja1 (m:=9) (d:=0) (jab (jag (jmv mx) (Nat.le_of_ble_eq_true rfl)) (jab (jag (jw1 mx) (Nat.le_of_ble_eq_true rfl)) jai)) jad (gok mx) (jr7 mx) (fun a=>jqd fuel a)
theorem jqr (mx:Int):OK mx 1 (jet fuel):=ja1 (m:=0) (d:=0) jai jad (gok mx) (jlc mx) (fun a=>jot fuel a)
theorem jfr (mx:Int):OK mx 2 (jby fuel):=ja1 (m:=1) (d:=0) (jab (jag (jqr mx) (Nat.le_of_ble_eq_true rfl)) jai) jad (gok mx) (jpl mx) (fun a=>jn9 fuel a)
theorem jd5 (mx:Int):OK mx 13 (jbv fuel):=ja1 (m:=10) (d:=2) (jab (jag (jbc mx) (Nat.le_of_ble_eq_true rfl)) (jab (jag (jkl mx) (Nat.le_of_ble_eq_true rfl)) (jab (jag (jfr mx) (Nat.le_of_ble_eq_true rfl)) jai))) (jam (jls mx) (jam (jc6 mx) jad)) (gok mx) (jtl mx) (fun a=>jrj fuel a)
theorem jh2 (mx:Int):OK mx 14 (jcs fuel):=ja1 (m:=13) (d:=0) (jab (jag (jd5 mx) (Nat.le_of_ble_eq_true rfl)) jai) jad (gok mx) (jtn mx) (fun a=>jrl fuel a)
theorem jfz (mx:Int):OK mx 3 (ja3 fuel):=ja1 (m:=0) (d:=2) jai (jam (jpn mx) (jam (jsa mx) jad)) (gok mx) (jf0 mx) (fun a=>jfn fuel a)
theorem je5 (mx:Int):OK mx 4 (jaz fuel):=ja1 (m:=3) (d:=0) (jab (jag (jfz mx) (Nat.le_of_ble_eq_true rfl)) jai) jad (gok mx) (je6 mx) (fun a=>jev fuel a)
theorem jte (mx:Int):OK mx 1 (jfe fuel):=ja1 (m:=0) (d:=0) jai jad (gok mx) (jto mx) (fun a=>jrs fuel a)
theorem jlq (mx:Int):OK mx 7 (jd4 fuel):=ja1 (m:=5) (d:=1) (jab (jag (jbc mx) (Nat.le_of_ble_eq_true rfl)) (jab (jag (je5 mx) (Nat.le_of_ble_eq_true rfl)) (jab (jag (jqn mx) (Nat.le_of_ble_eq_true rfl)) (jab (jag (jte mx) (Nat.le_of_ble_eq_true rfl)) jai)))) (jam (jl1 mx) jad) (gok mx) (jtp mx) (fun a=>jrt fuel a)
theorem jpd (mx:Int):OK mx 8 (jdp fuel):=ja1 (m:=7) (d:=0) (jab (jag (jlq mx) (Nat.le_of_ble_eq_true rfl)) jai) jad (gok mx) (jpm mx) (fun a=>job fuel a)
theorem jfy (mx:Int):kc0 (BB mx) (told mx) prog 1 [⟨39,2,[(.row tqh),(.v (.fn 40))],[],jay fuel⟩]:=j09 (t:=ko2) rfl (fun L=>(jea cfG L).length_eq) (fun L h=>j91 rfl L h) (fun az g h=>jjy h)
theorem jgg (mx:Int):kc0 (BB mx) (told mx) prog 1 [⟨44,2,[(.row tqj),(.v (.fn 45))],[],jbf fuel⟩]:=j09 (t:=ko3) rfl (fun L=>(jea cfC L).length_eq) (fun L h=>j91 rfl L h) (fun az g h=>ja6 rfl (jjy h))
theorem jij (mx:Int):OK mx 11 (jdo fuel):=kga (m:=9) (d:=1) (jab (jag (jlq mx) (Nat.le_of_ble_eq_true rfl)) (jab (jag (jmv mx) (Nat.le_of_ble_eq_true rfl)) jai)) (j3m (kcz (jfy mx) (Nat.le_of_ble_eq_true rfl)) j7r) (jam (jhx mx) jad) (gok mx) (j0f mx) (fun a=>jwq fuel a)
theorem jed (mx:Int):OK mx 13 (jbn fuel):=kga (m:=10) (d:=2) (jab (jag (jbc mx) (Nat.le_of_ble_eq_true rfl)) (jab (jag (jkl mx) (Nat.le_of_ble_eq_true rfl)) (jab (jag (jfr mx) (Nat.le_of_ble_eq_true rfl)) jai))) (j3m (kcz (jgg mx) (Nat.le_of_ble_eq_true rfl)) j7r) (jam (jls mx) (jam (jh4 mx) (jam (jc6 mx) jad))) (gok mx) (jq6 mx) (fun a=>jo4 fuel a)
theorem jqp (mx:Int):OK mx 1 (jf7 fuel):=ja1 (m:=0) (d:=0) jai jad (gok mx) (j0k mx) (fun a=>jwv fuel a)
theorem jzb (mx:Int):OK mx 1 (jii fuel):=ja1 (m:=0) (d:=0) jai jad (gok mx) (j0m mx) (fun a=>jwx fuel a)
theorem j8c (mx:Int):OK mx 1 (jnn fuel):=ja1 (m:=0) (d:=0) jai jad (gok mx) (j8u mx) (fun a=>j4i fuel a)
theorem jj5 (mx:Int):OK mx 1 (jd9 fuel):=ja1 (m:=0) (d:=0) jai jad (gok mx) (jw9 mx) (fun a=>jux fuel a)
theorem j4r (mx:Int):OK mx 2 (jky fuel):=ja1 (m:=1) (d:=0) (jab (jag (jj5 mx) (Nat.le_of_ble_eq_true rfl)) jai) jad (gok mx) (j5l mx) (fun a=>j1n fuel a)
theorem jvd (mx:Int):OK mx 3 (jf9 fuel):=ja1 (m:=2) (d:=0) (jab (jag (jj5 mx) (Nat.le_of_ble_eq_true rfl)) (jab (jag (j4r mx) (Nat.le_of_ble_eq_true rfl)) jai)) jad (gok mx) (jv3 mx) (fun a=>jtb fuel a)
theorem jqq (mx:Int):OK mx 1 (jf8 fuel):=ja1 (m:=0) (d:=0) jai jad (gok mx) (j0n mx) (fun a=>jwy fuel a)
theorem jgj (mx:Int):OK mx 1 (jcj fuel):=ja1 (m:=0) (d:=0) jai jad (gok mx) (jv2 mx) (fun a=>jta fuel a)
theorem j10 (mx:Int):OK mx 2 (jjq fuel):=ja1 (m:=1) (d:=0) (jab (jag (jgj mx) (Nat.le_of_ble_eq_true rfl)) jai) jad (gok mx) (j20 mx) (fun a=>jyy fuel a)
theorem jst (mx:Int):OK mx 2 (jhk fuel):=ja1 (m:=1) (d:=0) (jab (jag (jgj mx) (Nat.le_of_ble_eq_true rfl)) (jab (jag (jj5 mx) (Nat.le_of_ble_eq_true rfl)) jai)) jad (gok mx) (j21 mx) (fun a=>jyz fuel a)
theorem jkn (mx:Int):OK mx 4 (jdc fuel):=ja1 (m:=3) (d:=0) (jab (jag (jst mx) (Nat.le_of_ble_eq_true rfl)) (jab (jag (jgj mx) (Nat.le_of_ble_eq_true rfl)) (jab (jag (jvd mx) (Nat.le_of_ble_eq_true rfl)) (jab (jag (j10 mx) (Nat.le_of_ble_eq_true rfl)) jai)))) jad (gok mx) (jr9 mx) (fun a=>jqi fuel a)
theorem jkm (mx:Int):OK mx 5 (jdb fuel):=ja1 (m:=4) (d:=0) (jab (jag (jkn mx) (Nat.le_of_ble_eq_true rfl)) (jab (jag (j8c mx) (Nat.le_of_ble_eq_true rfl)) jai)) jad (gok mx) (jr8 mx) (fun a=>jqh fuel a)
theorem jgi (mx:Int):OK mx 6 (jcw fuel):=ja1 (m:=5) (d:=0) (jab (jag (jkm mx) (Nat.le_of_ble_eq_true rfl)) jai) jad (gok mx) (j0l mx) (fun a=>jww fuel a)
theorem j1z (mx:Int):OK mx 5 (jjp fuel):=ja1 (m:=4) (d:=0) (jab (jag (jgj mx) (Nat.le_of_ble_eq_true rfl)) (jab (jag (jkn mx) (Nat.le_of_ble_eq_true rfl)) jai)) jad (gok mx) (j2z mx) (fun a=>jyx fuel a)
theorem jza (mx:Int):OK mx 7 (jih fuel):=ja1 (m:=6) (d:=0) (jab (jag (jqp mx) (Nat.le_of_ble_eq_true rfl)) (jab (jag (jgi mx) (Nat.le_of_ble_eq_true rfl)) jai)) jad (gok mx) (j0j mx) (fun a=>jwu fuel a)
theorem jss (mx:Int):OK mx 7 (jhj fuel):=ja1 (m:=6) (d:=0) (jab (jag (jgi mx) (Nat.le_of_ble_eq_true rfl)) jai) jad (gok mx) (j2x mx) (fun a=>jyu fuel a)
theorem j1y (mx:Int):OK mx 7 (jjo fuel):=ja1 (m:=6) (d:=0) (jab (jag (jgi mx) (Nat.le_of_ble_eq_true rfl)) (jab (jag (jkm mx) (Nat.le_of_ble_eq_true rfl)) jai)) jad (gok mx) (j2y mx) (fun a=>jyv fuel a)
theorem jos (mx:Int):OK mx 1 (jfa fuel):=ja1 (m:=0) (d:=0) jai jad (gok mx) (jw8 mx) (fun a=>juv fuel a)
theorem jy9 (mx:Int):OK mx 1 (jig fuel):=ja1 (m:=0) (d:=0) jai jad (gok mx) (j0i mx) (fun a=>jwt fuel a)
theorem jy8 (mx:Int):OK mx 1 (jif fuel):=ja1 (m:=0) (d:=0) jai jad (gok mx) (j0h mx) (fun a=>jws fuel a)
theorem jvc (mx:Int):OK mx 7 (ji2 fuel):=ja1 (m:=6) (d:=0) (jab (jag (jgi mx) (Nat.le_of_ble_eq_true rfl)) (jab (jag (jzb mx) (Nat.le_of_ble_eq_true rfl)) (jab (jag (jst mx) (Nat.le_of_ble_eq_true rfl)) (jab (jag (j1z mx) (Nat.le_of_ble_eq_true rfl)) (jab (jag (jy8 mx) (Nat.le_of_ble_eq_true rfl)) jai))))) jad (gok mx) (j5k mx) (fun a=>j1m fuel a)
theorem jxp (mx:Int):OK mx 1 (jke fuel):=ja1 (m:=0) (d:=0) jai jad (gok mx) (j8t mx) (fun a=>j4h fuel a)
theorem jqo (mx:Int):OK mx 8 (jf5 fuel):=ja1 (m:=7) (d:=0) (jab (jag (jqq mx) (Nat.le_of_ble_eq_true rfl)) (jab (jag (jvc mx) (Nat.le_of_ble_eq_true rfl)) (jab (jag (jxp mx) (Nat.le_of_ble_eq_true rfl)) jai))) jad (gok mx) (j0g mx) (fun a=>jwr fuel a)
theorem j1w (mx:Int):OK mx 1 (jjm fuel):=ja1 (m:=0) (d:=0) jai jad (gok mx) (j2v mx) (fun a=>jys fuel a)
theorem j8b (mx:Int):OK mx 8 (jnm fuel):=ja1 (m:=7) (d:=0) (jab (jag (jvc mx) (Nat.le_of_ble_eq_true rfl)) (jab (jag (jxp mx) (Nat.le_of_ble_eq_true rfl)) (jab (jag (j1w mx) (Nat.le_of_ble_eq_true rfl)) jai))) jad (gok mx) (j8s mx) (fun a=>j4g fuel a)
theorem jvb (mx:Int):OK mx 9 (jf6 fuel):=ja1 (m:=8) (d:=0) (jab (jag (jqo mx) (Nat.le_of_ble_eq_true rfl)) (jab (jag (jss mx) (Nat.le_of_ble_eq_true rfl)) (jab (jag (jgi mx) (Nat.le_of_ble_eq_true rfl)) (jab (jag (j1y mx) (Nat.le_of_ble_eq_true rfl)) jai)))) jad (gok mx) (jv1 mx) (fun a=>js9 fuel a)
theorem jw2 (mx:Int):OKs (BB mx) mm0 prog 1 [jet fuel]:=ja1 (m:=0) (d:=0) jai jad (gok mx) ⟨fun _=>rfl,(jlc mx).2⟩ (fun a=>jot fuel a)
theorem jqt (mx:Int):OKs (BB mx) mm0 prog 1 [jg0 fuel]:=j9x (fun az g h=>jjy h)
theorem jm2 (mx:Int):OKs (BB mx) mm0 prog 1 [je3 fuel]:=j9w (fun az g h=>ja6 rfl h)
theorem jm1 (mx:Int):OKs (BB mx) mm0 prog 3 [jcb fuel]:=ja1 (m:=1) (d:=1) (jab (jag (jqt mx) (Nat.le_of_ble_eq_true rfl)) (jab (jag (jm2 mx) (Nat.le_of_ble_eq_true rfl)) jai)) (jam ⟨fun _=>rfl,(jib mx).2⟩ jad) (gok mx) ⟨fun _=>rfl,(jia mx).2⟩ (fun a=>jhu fuel a)
theorem jvf (mx:Int):OKs (BB mx) mm0 prog 7 [jd8 fuel]:=ja1 (m:=3) (d:=3) (jab (jag (jm1 mx) (Nat.le_of_ble_eq_true rfl)) jai) (jam ⟨fun _=>rfl,(jng mx).2⟩ (jam ⟨fun _=>rfl,(jic mx).2⟩ (jam ⟨fun _=>rfl,(jlt mx).2⟩ (jam ⟨fun _=>rfl,(jgr mx).2⟩ jad)))) (gok mx) ⟨fun _=>rfl,(joz mx).2⟩ (fun a=>jmj fuel a)
theorem jzd (mx:Int):OKs (BB mx) mm0 prog 8 [jhl fuel]:=ja1 (m:=7) (d:=0) (jab (jag (jvf mx) (Nat.le_of_ble_eq_true rfl)) (jab (jag (jw2 mx) (Nat.le_of_ble_eq_true rfl)) jai)) jad (gok mx) ⟨fun _=>rfl,(js2 mx).2⟩ (fun a=>jqw fuel a)
theorem jrw (mx:Int):OKs (BB mx) (told mx) prog 1 [jg0 fuel]:=j9x (fun az g h=>ja6 rfl (ja6 rfl (jjy h)))
theorem joe (mx:Int):OKs (BB mx) (told mx) prog 1 [je3 fuel]:=j9w (fun az g h=>ja6 rfl (ja6 rfl (ja6 rfl (jjy h))))
theorem jod (mx:Int):OK mx 3 (jcb fuel):=ja1 (m:=1) (d:=1) (jab (jag (jrw mx) (Nat.le_of_ble_eq_true rfl)) (jab (jag (joe mx) (Nat.le_of_ble_eq_true rfl)) jai)) (jam (jib mx) jad) (gok mx) (jia mx) (fun a=>jhu fuel a)
theorem jop (mx:Int):OK mx 7 (jd8 fuel):=ja1 (m:=3) (d:=3) (jab (jag (jod mx) (Nat.le_of_ble_eq_true rfl)) jai) (jam (jng mx) (jam (jic mx) (jam (jlt mx) (jam (jgr mx) jad)))) (gok mx) (joz mx) (fun a=>jmj fuel a)
theorem j12 (mx:Int):OK mx 8 (jhl fuel):=ja1 (m:=7) (d:=0) (jab (jag (jop mx) (Nat.le_of_ble_eq_true rfl)) (jab (jag (jqr mx) (Nat.le_of_ble_eq_true rfl)) jai)) jad (gok mx) (js2 mx) (fun a=>jqw fuel a)
theorem jmw (mx:Int):OK mx 9 (jei fuel):=ja1 (m:=8) (d:=0) (jab (jag (jfr mx) (Nat.le_of_ble_eq_true rfl)) (jab (jag (j12 mx) (Nat.le_of_ble_eq_true rfl)) (jab (jag (jop mx) (Nat.le_of_ble_eq_true rfl)) jai))) jad (gok mx) (jv0 mx) (fun a=>js7 fuel a)
theorem jlo (mx:Int):∀n,OKs (BB mx) (told mx) prog (0+n*1) [⟨50,[rqf],[rqq],jja fuel n⟩]
 | 0=>fun t ht n hn=>by
   rw[List.mem_singleton.1 ht]
   intro a r hr
   cases hr
 | n+1=>jag (ja1 (m:=0+n*1) (d:=0) (jab (jlo mx n) jai) jad (gok mx) (jv4 mx) (fun a=>jtc fuel _ a)) (by omega)
theorem jmx (mx:Int):OK mx 22 (ji3 fuel):=jlo mx 22
theorem j11 (mx:Int):OK mx 23 (jjr fuel):=ja1 (m:=22) (d:=0) (jab (jag (jmx mx) (Nat.le_of_ble_eq_true rfl)) jai) jad (gok mx) (j22 mx) (fun a=>jy0 fuel a)
theorem j1x (mx:Int):OK mx 24 (jjn fuel):=ja1 (m:=23) (d:=0) (jab (jag (j11 mx) (Nat.le_of_ble_eq_true rfl)) (jab (jag (jmx mx) (Nat.le_of_ble_eq_true rfl)) jai)) jad (gok mx) (j2w mx) (fun a=>jyt fuel a)
theorem ju9 (mx:Int):OKs (BB mx) (told mx) prog 1 [jmf fuel]:=j9v (fun az g h=>ja6 rfl (ja6 rfl (ja6 rfl (ja6 rfl (jjy h)))))
theorem jw0 (mx:Int):OKs (BB mx) (told mx) prog 1 [joo fuel]:=kdo (fun az g h=>ja6 rfl (ja6 rfl (ja6 rfl (ja6 rfl (ja6 rfl (jjy h))))))
theorem jva (mx:Int):OKs (BB mx) (told mx) prog 1 [jmg fuel]:=kg1 (fun az g h=>ja6 rfl (ja6 rfl (ja6 rfl (ja6 rfl (ja6 rfl (ja6 rfl (jjy h)))))))
theorem jzc (mx:Int):OKs (BB mx) (told mx) prog 1 [jqa fuel]:=kkf (jzd mx _ (List.mem_singleton.2 rfl) 8 (by decide)) (fun az g h=>ja6 rfl (ja6 rfl (ja6 rfl (ja6 rfl (ja6 rfl (ja6 rfl (ja6 rfl (h))))))))
theorem jlp (mx:Int):OK mx 10 (jd3 fuel):=ja1 (m:=9) (d:=0) (jab (jag (jmw mx) (Nat.le_of_ble_eq_true rfl)) (jab (jag (ju9 mx) (Nat.le_of_ble_eq_true rfl)) (jab (jag (jzc mx) (Nat.le_of_ble_eq_true rfl)) (jab (jag (jw0 mx) (Nat.le_of_ble_eq_true rfl)) (jab (jag (jva mx) (Nat.le_of_ble_eq_true rfl)) jai))))) jad (gok mx) (jtm mx) (fun a=>jrk fuel a)
theorem jmy (mx:Int):OK mx 1 (jej fuel):=ja1 (m:=0) (d:=0) jai jad (gok mx) (jv5 mx) (fun a=>jtf fuel a)
theorem jdt (mx:Int):OK mx 15 (jb2 fuel):=ja1 (m:=14) (d:=0) (jab (jag (jd5 mx) (Nat.le_of_ble_eq_true rfl)) (jab (jag (jh2 mx) (Nat.le_of_ble_eq_true rfl)) (jab (jag (jij mx) (Nat.le_of_ble_eq_true rfl)) (jab (jag (jed mx) (Nat.le_of_ble_eq_true rfl)) (jab (jag (jlp mx) (Nat.le_of_ble_eq_true rfl)) (jab (jag (jmy mx) (Nat.le_of_ble_eq_true rfl)) jai)))))) jad (gok mx) (j0o mx) (fun a=>jw4 fuel a)
theorem jsu (mx:Int):OK mx 1 (jhm fuel):=ja1 (m:=0) (d:=0) jai jad (gok mx) (j23 mx) (fun a=>jzo fuel a)
theorem jsv (mx:Int):OK mx 8 (jhn fuel):=ja1 (m:=7) (d:=0) (jab (jag (jss mx) (Nat.le_of_ble_eq_true rfl)) jai) jad (gok mx) (j24 mx) (fun a=>jzp fuel a)
theorem jmz (mx:Int):OK mx 16 (jcx fuel):=ja1 (m:=15) (d:=0) (jab (jag (jsw mx) (Nat.le_of_ble_eq_true rfl)) (jab (jag (jd5 mx) (Nat.le_of_ble_eq_true rfl)) (jab (jag (jh2 mx) (Nat.le_of_ble_eq_true rfl)) (jab (jag (jdt mx) (Nat.le_of_ble_eq_true rfl)) (jab (jag (jqo mx) (Nat.le_of_ble_eq_true rfl)) jai))))) jad (gok mx) (jne mx) (fun a=>jly fuel a)
theorem jqs (mx:Int):OK mx 16 (jec fuel):=ja1 (m:=15) (d:=0) (jab (jag (jd5 mx) (Nat.le_of_ble_eq_true rfl)) (jab (jag (jdt mx) (Nat.le_of_ble_eq_true rfl)) (jab (jag (jsv mx) (Nat.le_of_ble_eq_true rfl)) (jab (jag (jij mx) (Nat.le_of_ble_eq_true rfl)) (jab (jag (j8b mx) (Nat.le_of_ble_eq_true rfl)) (jab (jag (jed mx) (Nat.le_of_ble_eq_true rfl)) (jab (jag (jos mx) (Nat.le_of_ble_eq_true rfl)) jai))))))) jad (gok mx) (jq7 mx) (fun a=>jpf fuel a)
theorem jk2 (mx:Int):OK mx 16 (jcf fuel):=ja1 (m:=15) (d:=0) (jab (jag (jsw mx) (Nat.le_of_ble_eq_true rfl)) (jab (jag (jdt mx) (Nat.le_of_ble_eq_true rfl)) (jab (jag (jed mx) (Nat.le_of_ble_eq_true rfl)) (jab (jag (jos mx) (Nat.le_of_ble_eq_true rfl)) (jab (jag (jsu mx) (Nat.le_of_ble_eq_true rfl)) (jab (jag (jvb mx) (Nat.le_of_ble_eq_true rfl)) jai)))))) jad (gok mx) (jld mx) (fun a=>jko fuel a)
theorem jlx (mx:Int):OK mx 16 (jcm fuel):=ja1 (m:=15) (d:=0) (jab (jag (jd5 mx) (Nat.le_of_ble_eq_true rfl)) (jab (jag (jh2 mx) (Nat.le_of_ble_eq_true rfl)) (jab (jag (jdt mx) (Nat.le_of_ble_eq_true rfl)) (jab (jag (jij mx) (Nat.le_of_ble_eq_true rfl)) (jab (jag (jed mx) (Nat.le_of_ble_eq_true rfl)) (jab (jag (jqp mx) (Nat.le_of_ble_eq_true rfl)) (jab (jag (jza mx) (Nat.le_of_ble_eq_true rfl)) jai))))))) jad (gok mx) (jl3 mx) (fun a=>jk7 fuel a)
theorem joc (mx:Int):OK mx 25 (jc8 fuel):=ja1 (m:=24) (d:=0) (jab (jag (jdt mx) (Nat.le_of_ble_eq_true rfl)) (jab (jag (jqq mx) (Nat.le_of_ble_eq_true rfl)) (jab (jag (j1x mx) (Nat.le_of_ble_eq_true rfl)) (jab (jag (jlp mx) (Nat.le_of_ble_eq_true rfl)) (jab (jag (jmw mx) (Nat.le_of_ble_eq_true rfl)) jai))))) jad (gok mx) (joh mx) (fun a=>jm7 fuel a)
theorem jlw (mx:Int):OK mx 16 (jcl fuel):=ja1 (m:=15) (d:=0) (jab (jag (jdt mx) (Nat.le_of_ble_eq_true rfl)) (jab (jag (jsv mx) (Nat.le_of_ble_eq_true rfl)) (jab (jag (jij mx) (Nat.le_of_ble_eq_true rfl)) (jab (jag (jpd mx) (Nat.le_of_ble_eq_true rfl)) (jab (jag (jy9 mx) (Nat.le_of_ble_eq_true rfl)) jai))))) jad (gok mx) (jl2 mx) (fun a=>jk6 fuel a)
theorem jm0 (mx:Int):OK mx 26 (jek fuel):=ja1 (m:=25) (d:=0) (jab (jag (jmz mx) (Nat.le_of_ble_eq_true rfl)) (jab (jag (jqs mx) (Nat.le_of_ble_eq_true rfl)) (jab (jag (jk2 mx) (Nat.le_of_ble_eq_true rfl)) (jab (jag (jlx mx) (Nat.le_of_ble_eq_true rfl)) (jab (jag (joc mx) (Nat.le_of_ble_eq_true rfl)) (jab (jag (jlw mx) (Nat.le_of_ble_eq_true rfl)) (jab (jag (jdt mx) (Nat.le_of_ble_eq_true rfl)) (jab (jag (jsu mx) (Nat.le_of_ble_eq_true rfl)) (jab (jag (jmy mx) (Nat.le_of_ble_eq_true rfl)) jai))))))))) jad (gok mx) (jnf mx) (fun a=>jlz fuel a)
end
end Vm
end Go.Proofs.YtonohffniohehaaGreatDoor
