/-
  The contracts of the program's functions, one after another. (Printed by a program.)
  The contracts of the program's functions, one after another. (Printed by a program.)
-/
import Derived.Test.YtahplmacekfjgaaGreatDoorQ7
import Derived.Test.YtahplmacekfjgaaGreatDoorSM
set_option linter.unusedSimpArgs false
set_option linter.unusedVariables false
set_option linter.unusedSectionVars false
set_option linter.unnecessarySimpa false
namespace Go.Proofs.YtahplmacekfjgaaGreatDoor
namespace Vm
open Go Go.Vm Go.Vm.W Go.Vm.X
noncomputable section
set_option maxRecDepth 100000
theorem gok (mx:Int):GRel (BB mx) nu0 GG:=kha (B:=BB mx) (es:=ex++es) (kdo mx).symm (l:=GM) (by kernel_rfl) (by kernel_rfl)
abbrev OK (mx:Int) (l:Nat) (t:TE):Prop:=OKs (BB mx) (jn7 mx) prog l [t]
abbrev CK (mx:Int) (x:FuncId×Fx):Prop:=(∀vs,jn7 mx x.1 vs=none)∧prog.get x.1=some x.2.cfn
theorem jwy (mx:Int):CK mx job:=⟨fun _=>rfl,by kernel_rfl⟩
theorem jyz (mx:Int):CK mx jqs:=⟨fun _=>rfl,by kernel_rfl⟩
theorem jyx (mx:Int):CK mx jqp:=⟨fun _=>rfl,by kernel_rfl⟩
theorem jyw (mx:Int):CK mx jqo:=⟨fun _=>rfl,by kernel_rfl⟩
theorem jww (mx:Int):CK mx jn9:=⟨fun _=>rfl,by kernel_rfl⟩
theorem j0x (mx:Int):CK mx jr5:=⟨fun _=>rfl,by kernel_rfl⟩
theorem jq2 (mx:Int):CK mx jqr:=⟨fun _=>rfl,by kernel_rfl⟩
theorem jtn (mx:Int):CK mx jk1:=⟨fun _=>rfl,by kernel_rfl⟩
theorem jyy (mx:Int):CK mx jqq:=⟨fun _=>rfl,by kernel_rfl⟩
theorem jwx (mx:Int):CK mx joa:=⟨fun _=>rfl,by kernel_rfl⟩
theorem jua (mx:Int):CK mx jmy:=⟨fun _=>rfl,by kernel_rfl⟩
theorem j0z (mx:Int):CK mx jr7:=⟨fun _=>rfl,by kernel_rfl⟩
theorem jue (mx:Int):CK mx jm2:=⟨fun _=>rfl,by kernel_rfl⟩
theorem jjx (mx:Int):CK mx jjb:=⟨fun _=>rfl,by kernel_rfl⟩
theorem jgn (mx:Int):CK mx jgg:=⟨fun _=>rfl,by kernel_rfl⟩
theorem jq3 (mx:Int):CK mx jqt:=⟨fun _=>rfl,by kernel_rfl⟩
theorem jir (mx:Int):CK mx jib:=⟨fun _=>rfl,by kernel_rfl⟩
theorem jks (mx:Int):CK mx jkj:=⟨fun _=>rfl,by kernel_rfl⟩
theorem jkr (mx:Int):CK mx jki:=⟨fun _=>rfl,by kernel_rfl⟩
theorem jis (mx:Int):CK mx jic:=⟨fun _=>rfl,by kernel_rfl⟩
theorem jql (mx:Int):CK mx ji9:=⟨fun _=>rfl,by kernel_rfl⟩
theorem jqm (mx:Int):CK mx jja:=⟨fun _=>rfl,by kernel_rfl⟩
theorem jqk (mx:Int):CK mx ji8:=⟨fun _=>rfl,by kernel_rfl⟩
theorem jhy (mx:Int):CK mx jd6:=⟨fun _=>rfl,by kernel_rfl⟩
theorem jqj (mx:Int):CK mx ji6:=⟨fun _=>rfl,by kernel_rfl⟩
theorem jjw (mx:Int):CK mx ji7:=⟨fun _=>rfl,by kernel_rfl⟩
theorem jpo (mx:Int):CK mx jid:=⟨fun _=>rfl,by kernel_rfl⟩
theorem jpp (mx:Int):CK mx jie:=⟨fun _=>rfl,by kernel_rfl⟩
theorem jwz (mx:Int):CK mx joc:=⟨fun _=>rfl,by kernel_rfl⟩
theorem jtp (mx:Int):CK mx jk3:=⟨fun _=>rfl,by kernel_rfl⟩
theorem jl1 (mx:Int):CK mx jk4:=⟨fun _=>rfl,by kernel_rfl⟩
theorem jca (mx:Int):CK mx jb9:=⟨fun _=>rfl,by kernel_rfl⟩
theorem jtm (mx:Int):CK mx jk0:=⟨fun _=>rfl,by kernel_rfl⟩
theorem j0w (mx:Int):CK mx jr4:=⟨fun _=>rfl,by kernel_rfl⟩
theorem jjv (mx:Int):CK mx je8:=⟨fun _=>rfl,by kernel_rfl⟩
theorem jms (mx:Int):CK mx jgx:=⟨fun _=>rfl,by kernel_rfl⟩
theorem jmt (mx:Int):CK mx jgy:=⟨fun _=>rfl,by kernel_rfl⟩
theorem jub (mx:Int):CK mx jmz:=⟨fun _=>rfl,by kernel_rfl⟩
theorem jgm (mx:Int):CK mx jge:=⟨fun _=>rfl,by kernel_rfl⟩
theorem juc (mx:Int):CK mx jm0:=⟨fun _=>rfl,by kernel_rfl⟩
theorem jud (mx:Int):CK mx jm1:=⟨fun _=>rfl,by kernel_rfl⟩
theorem jri (mx:Int):CK mx jkh:=⟨fun _=>rfl,by kernel_rfl⟩
theorem jmw (mx:Int):CK mx jg1:=⟨fun _=>rfl,by kernel_rfl⟩
theorem jkc (mx:Int):CK mx jfh:=⟨fun _=>rfl,by kernel_rfl⟩
theorem jpk (mx:Int):CK mx jh7:=⟨fun _=>rfl,by kernel_rfl⟩
theorem jl0 (mx:Int):CK mx jgf:=⟨fun _=>rfl,by kernel_rfl⟩
theorem jpm (mx:Int):CK mx jh9:=⟨fun _=>rfl,by kernel_rfl⟩
theorem jn0 (mx:Int):CK mx jhj:=⟨fun _=>rfl,by kernel_rfl⟩
theorem jpl (mx:Int):CK mx jh8:=⟨fun _=>rfl,by kernel_rfl⟩
theorem jpn (mx:Int):CK mx jia:=⟨fun _=>rfl,by kernel_rfl⟩
theorem jn2 (mx:Int):CK mx jhl:=⟨fun _=>rfl,by kernel_rfl⟩
theorem jn1 (mx:Int):CK mx jhk:=⟨fun _=>rfl,by kernel_rfl⟩
theorem jiq (mx:Int):CK mx jh6:=⟨fun _=>rfl,by kernel_rfl⟩
theorem ji3 (mx:Int):CK mx jet:=⟨fun _=>rfl,by kernel_rfl⟩
theorem jqi (mx:Int):CK mx ji5:=⟨fun _=>rfl,by kernel_rfl⟩
theorem jrj (mx:Int):CK mx jkk:=⟨fun _=>rfl,by kernel_rfl⟩
theorem jmu (mx:Int):CK mx jgz:=⟨fun _=>rfl,by kernel_rfl⟩
theorem jkd (mx:Int):CK mx jfi:=⟨fun _=>rfl,by kernel_rfl⟩
theorem jky (mx:Int):CK mx jfz:=⟨fun _=>rfl,by kernel_rfl⟩
theorem jmv (mx:Int):CK mx jg0:=⟨fun _=>rfl,by kernel_rfl⟩
theorem jsx (mx:Int):OK mx 1 (jd8 fuel):=jbg (m:=0) (d:=0) jam jaf (gok mx) (jl1 mx) (fun a=>jkp fuel a)
theorem jjj (mx:Int):OK mx 2 (jcf fuel):=jbg (m:=1) (d:=0) (jae (jai (jsx mx) (Nat.le_of_ble_eq_true rfl)) jam) jaf (gok mx) (jjx mx) (fun a=>jip fuel a)
theorem jqw (mx:Int):OK mx 1 (jfa fuel):=jbg (m:=0) (d:=0) jam jaf (gok mx) (jq3 mx) (fun a=>jpi fuel a)
theorem jcv (mx:Int):OK mx 3 (ja6 fuel):=jbg (m:=2) (d:=0) (jae (jai (jjj mx) (Nat.le_of_ble_eq_true rfl)) (jae (jai (jqw mx) (Nat.le_of_ble_eq_true rfl)) jam)) jaf (gok mx) (jgn mx) (fun a=>jf1 fuel a)
theorem jra (mx:Int):OK mx 1 (jdp fuel):=jbg (m:=0) (d:=0) jam jaf (gok mx) (jks mx) (fun a=>jjn fuel a)
theorem jow (mx:Int):OK mx 4 (jct fuel):=jbg (m:=3) (d:=0) (jae (jai (jjj mx) (Nat.le_of_ble_eq_true rfl)) (jae (jai (jcv mx) (Nat.le_of_ble_eq_true rfl)) (jae (jai (jqw mx) (Nat.le_of_ble_eq_true rfl)) (jae (jai (jra mx) (Nat.le_of_ble_eq_true rfl)) jam)))) jaf (gok mx) (jir mx) (fun a=>jhv fuel a)
theorem jd2 (mx:Int):OK mx 1 (jbf fuel):=jbg (m:=0) (d:=0) jam jaf (gok mx) (jis mx) (fun a=>jhw fuel a)
theorem jes (mx:Int):OK mx 4 (jau fuel):=jbg (m:=3) (d:=0) (jae (jai (jcv mx) (Nat.le_of_ble_eq_true rfl)) jam) jaf (gok mx) (jca mx) (fun a=>jb5 fuel a)
theorem jgu (mx:Int):OK mx 5 (jb7 fuel):=jbg (m:=4) (d:=0) (jae (jai (jes mx) (Nat.le_of_ble_eq_true rfl)) jam) jaf (gok mx) (jkr mx) (fun a=>jjm fuel a)
theorem joq (mx:Int):OK mx 1 (jcr fuel):=jbg (m:=0) (d:=0) jam jaf (gok mx) (jiq mx) (fun a=>jhq fuel a)
theorem jlh (mx:Int):OK mx 2 (jby fuel):=jbg (m:=1) (d:=0) (jae (jai (joq mx) (Nat.le_of_ble_eq_true rfl)) jam) jaf (gok mx) (jgm mx) (fun a=>jf0 fuel a)
theorem jp4 (mx:Int):OK mx 6 (jc8 fuel):=jbg (m:=5) (d:=0) (jae (jai (jgu mx) (Nat.le_of_ble_eq_true rfl)) (jae (jai (jd2 mx) (Nat.le_of_ble_eq_true rfl)) (jae (jai (jlh mx) (Nat.le_of_ble_eq_true rfl)) jam))) jaf (gok mx) (jjw mx) (fun a=>jin fuel a)
theorem jil (mx:Int):OK mx 7 (jde fuel):=jbg (m:=6) (d:=0) (jae (jai (jcv mx) (Nat.le_of_ble_eq_true rfl)) (jae (jai (jow mx) (Nat.le_of_ble_eq_true rfl)) (jae (jai (jgu mx) (Nat.le_of_ble_eq_true rfl)) (jae (jai (jd2 mx) (Nat.le_of_ble_eq_true rfl)) (jae (jai (jp4 mx) (Nat.le_of_ble_eq_true rfl)) jam))))) jaf (gok mx) (jq2 mx) (fun a=>jo7 fuel a)
theorem jhs (mx:Int):OK mx 1 (jc6 fuel):=jbg (m:=0) (d:=0) jam jaf (gok mx) (jtm mx) (fun a=>jrc fuel a)
theorem jq9 (mx:Int):OK mx 1 (jew fuel):=jbg (m:=0) (d:=0) jam jaf (gok mx) (jri mx) (fun a=>jp8 fuel a)
theorem jt3 (mx:Int):OK mx 1 (jgb fuel):=jbg (m:=0) (d:=0) jam jaf (gok mx) (jud mx) (fun a=>js1 fuel a)
theorem jp3 (mx:Int):OK mx 1 (jei fuel):=jbg (m:=0) (d:=0) jam jaf (gok mx) (jqi mx) (fun a=>jo2 fuel a)
theorem jt2 (mx:Int):OK mx 4 (jga fuel):=jbg (m:=1) (d:=2) (jae (jai (jp3 mx) (Nat.le_of_ble_eq_true rfl)) jam) (jdo (ji3 mx) (jdo (jky mx) jaf)) (gok mx) (juc mx) (fun a=>js0 fuel a)
theorem jfq (mx:Int):OK mx 2 (jb4 fuel):=jbg (m:=1) (d:=0) (jae (jai (jq9 mx) (Nat.le_of_ble_eq_true rfl)) jam) jaf (gok mx) (jpp mx) (fun a=>jnp fuel a)
theorem jik (mx:Int):OK mx 5 (jcu fuel):=jbg (m:=4) (d:=0) (jae (jai (jt2 mx) (Nat.le_of_ble_eq_true rfl)) (jae (jai (jt3 mx) (Nat.le_of_ble_eq_true rfl)) jam)) jaf (gok mx) (jpo mx) (fun a=>jno fuel a)
theorem jxx (mx:Int):OK mx 6 (jig fuel):=jbg (m:=5) (d:=0) (jae (jai (jik mx) (Nat.le_of_ble_eq_true rfl)) (jae (jai (jfq mx) (Nat.le_of_ble_eq_true rfl)) jam)) jaf (gok mx) (jyy mx) (fun a=>jv5 fuel a)
theorem jsv (mx:Int):OK mx 2 (jho fuel):=jbg (m:=1) (d:=0) (jae (jai (jhs mx) (Nat.le_of_ble_eq_true rfl)) jam) jaf (gok mx) (j0w mx) (fun a=>jxz fuel a)
theorem jjh (mx:Int):OK mx 3 (jc9 fuel):=jbg (m:=2) (d:=0) (jae (jai (jfq mx) (Nat.le_of_ble_eq_true rfl)) (jae (jai (jhs mx) (Nat.le_of_ble_eq_true rfl)) (jae (jai (jsv mx) (Nat.le_of_ble_eq_true rfl)) jam))) jaf (gok mx) (jql mx) (fun a=>jo5 fuel a)
theorem jji (mx:Int):OK mx 3 (jda fuel):=jbg (m:=2) (d:=0) (jae (jai (jfq mx) (Nat.le_of_ble_eq_true rfl)) (jae (jai (jhs mx) (Nat.le_of_ble_eq_true rfl)) (jae (jai (jsv mx) (Nat.le_of_ble_eq_true rfl)) jam))) jaf (gok mx) (jqm mx) (fun a=>jo6 fuel a)
theorem jlj (mx:Int):OK mx 8 (je9 fuel):=jbg (m:=7) (d:=0) (jae (jai (jil mx) (Nat.le_of_ble_eq_true rfl)) (jae (jai (jgu mx) (Nat.le_of_ble_eq_true rfl)) (jae (jai (jd2 mx) (Nat.le_of_ble_eq_true rfl)) (jae (jai (jjh mx) (Nat.le_of_ble_eq_true rfl)) (jae (jai (jji mx) (Nat.le_of_ble_eq_true rfl)) jam))))) jaf (gok mx) (jyx mx) (fun a=>jv4 fuel a)
theorem jp5 (mx:Int):OK mx 1 (jej fuel):=jbg (m:=0) (d:=0) jam jaf (gok mx) (jqk mx) (fun a=>jo4 fuel a)
theorem jjf (mx:Int):OK mx 1 (jb3 fuel):=jbg (m:=0) (d:=0) jam jaf (gok mx) (jjv mx) (fun a=>jiz fuel a)
theorem jhr (mx:Int):OK mx 2 (jbn fuel):=jbg (m:=1) (d:=0) (jae (jai (jjf mx) (Nat.le_of_ble_eq_true rfl)) jam) jaf (gok mx) (jhy mx) (fun a=>jg7 fuel a)
theorem jqv (mx:Int):OK mx 9 (jgi fuel):=jbg (m:=8) (d:=0) (jae (jai (jlj mx) (Nat.le_of_ble_eq_true rfl)) (jae (jai (jp5 mx) (Nat.le_of_ble_eq_true rfl)) (jae (jai (jhr mx) (Nat.le_of_ble_eq_true rfl)) jam))) jaf (gok mx) (jyw mx) (fun a=>jv3 fuel a)
theorem jgt (mx:Int):j71 (BB mx) (jn7 mx) prog 1 [⟨72,2,[(.row tqb),(.v (.fn 31))],[],jbb fuel⟩]:=jxi (t:=tSQ) rfl (fun L=>(jco cfS L).length_eq) (fun L h=>j46 rfl L h) (fun az g h=>jj7 rfl (jj7 rfl (jro h)))
theorem jg8 (mx:Int):j71 (BB mx) (jn7 mx) prog 1 [⟨73,2,[(.row tqg),(.v (.fn 35))],[],jbd fuel⟩]:=jxi (t:=tHG) rfl (fun L=>(jco cfH L).length_eq) (fun L h=>j46 rfl L h) (fun az g h=>jj7 rfl (jj7 rfl (jj7 rfl (jro h))))
theorem jos (mx:Int):OK mx 1 (jdy fuel):=jbg (m:=0) (d:=0) jam jaf (gok mx) (jpk mx) (fun a=>jnk fuel a)
theorem jli (mx:Int):OK mx 1 (jcs fuel):=jbg (m:=0) (d:=0) jam jaf (gok mx) (jl0 mx) (fun a=>jkv fuel a)
theorem jou (mx:Int):OK mx 1 (jd0 fuel):=jbg (m:=0) (d:=0) jam jaf (gok mx) (jpm mx) (fun a=>jnm fuel a)
theorem jnf (mx:Int):OK mx 1 (jdg fuel):=jbg (m:=0) (d:=0) jam jaf (gok mx) (jn0 mx) (fun a=>jmm fuel a)
theorem jot (mx:Int):OK mx 1 (jdz fuel):=jbg (m:=0) (d:=0) jam jaf (gok mx) (jpl mx) (fun a=>jnl fuel a)
theorem jov (mx:Int):OK mx 1 (jd1 fuel):=jbg (m:=0) (d:=0) jam jaf (gok mx) (jpn mx) (fun a=>jnn fuel a)
theorem jnh (mx:Int):OK mx 1 (jdi fuel):=jbg (m:=0) (d:=0) jam jaf (gok mx) (jn2 mx) (fun a=>jmo fuel a)
theorem jng (mx:Int):OK mx 1 (jdh fuel):=jbg (m:=0) (d:=0) jam jaf (gok mx) (jn1 mx) (fun a=>jmn fuel a)
theorem jml (mx:Int):OK mx 3 (jc3 fuel):=jbg (m:=1) (d:=1) (jae (jai (jos mx) (Nat.le_of_ble_eq_true rfl)) (jae (jai (jli mx) (Nat.le_of_ble_eq_true rfl)) (jae (jai (jou mx) (Nat.le_of_ble_eq_true rfl)) (jae (jai (jnf mx) (Nat.le_of_ble_eq_true rfl)) (jae (jai (jot mx) (Nat.le_of_ble_eq_true rfl)) (jae (jai (jov mx) (Nat.le_of_ble_eq_true rfl)) (jae (jai (jnh mx) (Nat.le_of_ble_eq_true rfl)) (jae (jai (jng mx) (Nat.le_of_ble_eq_true rfl)) jam)))))))) (jdo (jkc mx) jaf) (gok mx) (jms mx) (fun a=>jlo fuel a)
theorem jt1 (mx:Int):OK mx 4 (jf9 fuel):=jbg (m:=3) (d:=0) (jae (jai (jcv mx) (Nat.le_of_ble_eq_true rfl)) jam) jaf (gok mx) (jub mx) (fun a=>jsz fuel a)
theorem jjg (mx:Int):OK mx 6 (jc7 fuel):=khb (m:=4) (d:=1) (jae (jai (jd2 mx) (Nat.le_of_ble_eq_true rfl)) (jae (jai (jml mx) (Nat.le_of_ble_eq_true rfl)) (jae (jai (jt1 mx) (Nat.le_of_ble_eq_true rfl)) jam))) (jze (j70 (jgt mx) (Nat.le_of_ble_eq_true rfl)) (jze (j70 (jg8 mx) (Nat.le_of_ble_eq_true rfl)) j9z)) (jdo (jmt mx) jaf) (gok mx) (jqj mx) (fun a=>jo3 fuel a)
theorem jor (mx:Int):OK mx 8 (jfj fuel):=jbg (m:=7) (d:=0) (jae (jai (jil mx) (Nat.le_of_ble_eq_true rfl)) (jae (jai (jjg mx) (Nat.le_of_ble_eq_true rfl)) jam)) jaf (gok mx) (jww mx) (fun a=>jt5 fuel a)
theorem jz7 (mx:Int):OK mx 8 (jj3 fuel):=jbg (m:=7) (d:=0) (jae (jai (jil mx) (Nat.le_of_ble_eq_true rfl)) (jae (jai (jjg mx) (Nat.le_of_ble_eq_true rfl)) jam)) jaf (gok mx) (j0x mx) (fun a=>jx0 fuel a)
theorem jxy (mx:Int):OK mx 1 (jih fuel):=jbg (m:=0) (d:=0) jam jaf (gok mx) (jyz mx) (fun a=>jwc fuel a)
theorem jz9 (mx:Int):OK mx 1 (jj5 fuel):=jbg (m:=0) (d:=0) jam jaf (gok mx) (j0z mx) (fun a=>jx7 fuel a)
theorem jt4 (mx:Int):OK mx 1 (jgc fuel):=jbg (m:=0) (d:=0) jam jaf (gok mx) (jue mx) (fun a=>js8 fuel a)
theorem jrb (mx:Int):OKs (BB mx) mm0 prog 1 [jd8 fuel]:=jbg (m:=0) (d:=0) jam jaf (gok mx) ⟨fun _=>rfl,(jl1 mx).2⟩ (fun a=>jkp fuel a)
theorem jim (mx:Int):OKs (BB mx) mm0 prog 2 [jcf fuel]:=jbg (m:=1) (d:=0) (jae (jai (jrb mx) (Nat.le_of_ble_eq_true rfl)) jam) jaf (gok mx) ⟨fun _=>rfl,(jjx mx).2⟩ (fun a=>jip fuel a)
theorem jo0 (mx:Int):OKs (BB mx) mm0 prog 1 [jfa fuel]:=jbg (m:=0) (d:=0) jam jaf (gok mx) ⟨fun _=>rfl,(jq3 mx).2⟩ (fun a=>jpi fuel a)
theorem jdx (mx:Int):OKs (BB mx) mm0 prog 3 [ja6 fuel]:=jbg (m:=2) (d:=0) (jae (jai (jim mx) (Nat.le_of_ble_eq_true rfl)) (jae (jai (jo0 mx) (Nat.le_of_ble_eq_true rfl)) jam)) jaf (gok mx) ⟨fun _=>rfl,(jgn mx).2⟩ (fun a=>jf1 fuel a)
theorem jp7 (mx:Int):OKs (BB mx) mm0 prog 1 [jdp fuel]:=jbg (m:=0) (d:=0) jam jaf (gok mx) ⟨fun _=>rfl,(jks mx).2⟩ (fun a=>jjn fuel a)
theorem jnj (mx:Int):OKs (BB mx) mm0 prog 4 [jct fuel]:=jbg (m:=3) (d:=0) (jae (jai (jim mx) (Nat.le_of_ble_eq_true rfl)) (jae (jai (jdx mx) (Nat.le_of_ble_eq_true rfl)) (jae (jai (jo0 mx) (Nat.le_of_ble_eq_true rfl)) (jae (jai (jp7 mx) (Nat.le_of_ble_eq_true rfl)) jam)))) jaf (gok mx) ⟨fun _=>rfl,(jir mx).2⟩ (fun a=>jhv fuel a)
theorem jht (mx:Int):OKs (BB mx) mm0 prog 1 [jbf fuel]:=jbg (m:=0) (d:=0) jam jaf (gok mx) ⟨fun _=>rfl,(jis mx).2⟩ (fun a=>jhw fuel a)
theorem jem (mx:Int):OKs (BB mx) mm0 prog 4 [jau fuel]:=jbg (m:=3) (d:=0) (jae (jai (jdx mx) (Nat.le_of_ble_eq_true rfl)) jam) jaf (gok mx) ⟨fun _=>rfl,(jca mx).2⟩ (fun a=>jb5 fuel a)
theorem jjk (mx:Int):OKs (BB mx) mm0 prog 5 [jb7 fuel]:=jbg (m:=4) (d:=0) (jae (jai (jem mx) (Nat.le_of_ble_eq_true rfl)) jam) jaf (gok mx) ⟨fun _=>rfl,(jkr mx).2⟩ (fun a=>jjm fuel a)
theorem jni (mx:Int):OKs (BB mx) mm0 prog 1 [jcr fuel]:=jbg (m:=0) (d:=0) jam jaf (gok mx) ⟨fun _=>rfl,(jiq mx).2⟩ (fun a=>jhq fuel a)
theorem jku (mx:Int):OKs (BB mx) mm0 prog 2 [jby fuel]:=jbg (m:=1) (d:=0) (jae (jai (jni mx) (Nat.le_of_ble_eq_true rfl)) jam) jaf (gok mx) ⟨fun _=>rfl,(jgm mx).2⟩ (fun a=>jf0 fuel a)
theorem joy (mx:Int):OKs (BB mx) mm0 prog 6 [jc8 fuel]:=jbg (m:=5) (d:=0) (jae (jai (jjk mx) (Nat.le_of_ble_eq_true rfl)) (jae (jai (jht mx) (Nat.le_of_ble_eq_true rfl)) (jae (jai (jku mx) (Nat.le_of_ble_eq_true rfl)) jam))) jaf (gok mx) ⟨fun _=>rfl,(jjw mx).2⟩ (fun a=>jin fuel a)
theorem jv1 (mx:Int):OKs (BB mx) mm0 prog 7 [jde fuel]:=jbg (m:=6) (d:=0) (jae (jai (jdx mx) (Nat.le_of_ble_eq_true rfl)) (jae (jai (jnj mx) (Nat.le_of_ble_eq_true rfl)) (jae (jai (jjk mx) (Nat.le_of_ble_eq_true rfl)) (jae (jai (jht mx) (Nat.le_of_ble_eq_true rfl)) (jae (jai (joy mx) (Nat.le_of_ble_eq_true rfl)) jam))))) jaf (gok mx) ⟨fun _=>rfl,(jq2 mx).2⟩ (fun a=>jo7 fuel a)
theorem joz (mx:Int):OKs (BB mx) mm0 prog 1 [jjc fuel]:=kbb (fun az g h=>jro h)
theorem jlm (mx:Int):OKs (BB mx) mm0 prog 1 [jg2 fuel]:=ka8 (fun az g h=>jj7 rfl h)
theorem jll (mx:Int):OKs (BB mx) mm0 prog 3 [jc4 fuel]:=jbg (m:=1) (d:=1) (jae (jai (joz mx) (Nat.le_of_ble_eq_true rfl)) (jae (jai (jlm mx) (Nat.le_of_ble_eq_true rfl)) jam)) (jdo ⟨fun _=>rfl,(jmv mx).2⟩ jaf) (gok mx) ⟨fun _=>rfl,(jmu mx).2⟩ (fun a=>jlu fuel a)
theorem jsy (mx:Int):OKs (BB mx) mm0 prog 7 [jiy fuel]:=jbg (m:=3) (d:=3) (jae (jai (jll mx) (Nat.le_of_ble_eq_true rfl)) jam) (jdo ⟨fun _=>rfl,(jtp mx).2⟩ (jdo ⟨fun _=>rfl,(jmw mx).2⟩ (jdo ⟨fun _=>rfl,(jrj mx).2⟩ (jdo ⟨fun _=>rfl,(jkd mx).2⟩ jaf)))) (gok mx) ⟨fun _=>rfl,(jua mx).2⟩ (fun a=>jse fuel a)
theorem jvz (mx:Int):OK mx 10 (jg5 fuel):=jbg (m:=9) (d:=0) (jae (jai (jlj mx) (Nat.le_of_ble_eq_true rfl)) (jae (jai (jqv mx) (Nat.le_of_ble_eq_true rfl)) (jae (jai (jor mx) (Nat.le_of_ble_eq_true rfl)) jam))) jaf (gok mx) (jwy mx) (fun a=>jt7 fuel a)
theorem jlk (mx:Int):OK mx 1 (jd7 fuel):=jbg (m:=0) (d:=0) jam jaf (gok mx) (jtn mx) (fun a=>jre fuel a)
theorem jv0 (mx:Int):OK mx 1 (jg6 fuel):=jbg (m:=0) (d:=0) jam jaf (gok mx) (jwz mx) (fun a=>jt8 fuel a)
theorem jvy (mx:Int):OK mx 2 (jg4 fuel):=jbg (m:=1) (d:=0) (jae (jai (jlk mx) (Nat.le_of_ble_eq_true rfl)) (jae (jai (jv0 mx) (Nat.le_of_ble_eq_true rfl)) jam)) jaf (gok mx) (jwx mx) (fun a=>jt6 fuel a)
theorem jz6 (mx:Int):OKs (BB mx) (jn7 mx) prog 1 [jsb fuel]:=j8c (runC:=jba fuel) (runI:=jcd fuel) (jv1 mx _ (List.mem_singleton.2 rfl) 7 (by decide)) (jsy mx _ (List.mem_singleton.2 rfl) 7 (by decide)) (fun az g h=>jj7 rfl (jro h))
end
end Vm
end Go.Proofs.YtahplmacekfjgaaGreatDoor
namespace Go.Proofs.YtahplmacekfjgaaGreatDoor
namespace Vm
open Go Go.Vm Go.Vm.W Go.Vm.X
noncomputable section
set_option maxRecDepth 100000
theorem jpq (mx:Int):CK mx jif:=⟨fun _=>rfl,by kernel_rfl⟩
theorem jto (mx:Int):CK mx jk2:=⟨fun _=>rfl,by kernel_rfl⟩
theorem j0y (mx:Int):CK mx jr6:=⟨fun _=>rfl,by kernel_rfl⟩
theorem jz8 (mx:Int):OK mx 6 (jj4 fuel):=jbg (m:=5) (d:=0) (jae (jai (jjh mx) (Nat.le_of_ble_eq_true rfl)) (jae (jai (jji mx) (Nat.le_of_ble_eq_true rfl)) (jae (jai (jik mx) (Nat.le_of_ble_eq_true rfl)) jam))) jaf (gok mx) (j0y mx) (fun a=>jx1 fuel a)
theorem jsw (mx:Int):OK mx 2 (jfk fuel):=jbg (m:=1) (d:=0) (jae (jai (jxy mx) (Nat.le_of_ble_eq_true rfl)) (jae (jai (jz9 mx) (Nat.le_of_ble_eq_true rfl)) (jae (jai (jt4 mx) (Nat.le_of_ble_eq_true rfl)) jam))) jaf (gok mx) (jto mx) (fun a=>jrf fuel a)
theorem jox (mx:Int):OK mx 11 (jfl fuel):=jbg (m:=10) (d:=0) (jae (jai (jz6 mx) (Nat.le_of_ble_eq_true rfl)) (jae (jai (jvz mx) (Nat.le_of_ble_eq_true rfl)) (jae (jai (jsw mx) (Nat.le_of_ble_eq_true rfl)) (jae (jai (jlj mx) (Nat.le_of_ble_eq_true rfl)) (jae (jai (jqv mx) (Nat.le_of_ble_eq_true rfl)) (jae (jai (jor mx) (Nat.le_of_ble_eq_true rfl)) (jae (jai (jz7 mx) (Nat.le_of_ble_eq_true rfl)) (jae (jai (jil mx) (Nat.le_of_ble_eq_true rfl)) (jae (jai (jlk mx) (Nat.le_of_ble_eq_true rfl)) (jae (jai (jxx mx) (Nat.le_of_ble_eq_true rfl)) (jae (jai (jz8 mx) (Nat.le_of_ble_eq_true rfl)) (jae (jai (jvy mx) (Nat.le_of_ble_eq_true rfl)) jam)))))))))))) jaf (gok mx) (jpq mx) (fun a=>jnr fuel a)
end
end Vm
end Go.Proofs.YtahplmacekfjgaaGreatDoor
