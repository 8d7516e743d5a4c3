/-
  The contracts of the program's functions, one after another. (Printed by a program.)
-/
import Derived.Test.YtofimkliemlojaaGreatDoorQ7
import Derived.Test.YtofimkliemlojaaGreatDoorSM
set_option linter.unusedSimpArgs false
set_option linter.unusedVariables false
set_option linter.unusedSectionVars false
set_option linter.unnecessarySimpa false
namespace Go.Proofs.YtofimkliemlojaaGreatDoor
namespace Vm
open Go Go.Vm Go.Vm.W Go.Vm.X
noncomputable section
set_option maxRecDepth 100000
theorem gok (mx:Int):GRel (BB mx) nu0 GG:=kml (B:=BB mx) (es:=ex++es) (ki9 mx).symm (l:=GM) (by kernel_rfl) (by kernel_rfl)
abbrev OK (mx:Int) (l:Nat) (t:TE):Prop:=OKs (BB mx) (jk9 mx) prog l [t]
abbrev CK (mx:Int) (x:FuncId×Fx):Prop:=(∀vs,jk9 mx x.1 vs=none)∧prog.get x.1=some x.2.cfn
theorem jsf (mx:Int):CK mx ji8:=⟨fun _=>rfl,by kernel_rfl⟩
theorem j3p (mx:Int):CK mx jtp:=⟨fun _=>rfl,by kernel_rfl⟩
theorem j03 (mx:Int):CK mx jqr:=⟨fun _=>rfl,by kernel_rfl⟩
theorem jsd (mx:Int):CK mx ji6:=⟨fun _=>rfl,by kernel_rfl⟩
theorem jsg (mx:Int):CK mx ji9:=⟨fun _=>rfl,by kernel_rfl⟩
theorem jlt (mx:Int):CK mx jfs:=⟨fun _=>rfl,by kernel_rfl⟩
theorem jse (mx:Int):CK mx ji7:=⟨fun _=>rfl,by kernel_rfl⟩
theorem jti (mx:Int):CK mx jj9:=⟨fun _=>rfl,by kernel_rfl⟩
theorem j3s (mx:Int):CK mx jts:=⟨fun _=>rfl,by kernel_rfl⟩
theorem j0y (mx:Int):CK mx jqm:=⟨fun _=>rfl,by kernel_rfl⟩
theorem j07 (mx:Int):CK mx jqv:=⟨fun _=>rfl,by kernel_rfl⟩
theorem jeq (mx:Int):CK mx jcw:=⟨fun _=>rfl,by kernel_rfl⟩
theorem jqc (mx:Int):CK mx jic:=⟨fun _=>rfl,by kernel_rfl⟩
theorem jcm (mx:Int):CK mx jbn:=⟨fun _=>rfl,by kernel_rfl⟩
theorem jk0 (mx:Int):CK mx jff:=⟨fun _=>rfl,by kernel_rfl⟩
theorem juo (mx:Int):CK mx jly:=⟨fun _=>rfl,by kernel_rfl⟩
theorem j3n (mx:Int):CK mx jtn:=⟨fun _=>rfl,by kernel_rfl⟩
theorem j3x (mx:Int):CK mx jtx:=⟨fun _=>rfl,by kernel_rfl⟩
theorem j3y (mx:Int):CK mx jty:=⟨fun _=>rfl,by kernel_rfl⟩
theorem j04 (mx:Int):CK mx jqs:=⟨fun _=>rfl,by kernel_rfl⟩
theorem j0z (mx:Int):CK mx jqn:=⟨fun _=>rfl,by kernel_rfl⟩
theorem j08 (mx:Int):CK mx jqw:=⟨fun _=>rfl,by kernel_rfl⟩
theorem jx4 (mx:Int):CK mx jpa:=⟨fun _=>rfl,by kernel_rfl⟩
theorem j00 (mx:Int):CK mx jqo:=⟨fun _=>rfl,by kernel_rfl⟩
theorem jhc (mx:Int):CK mx jfh:=⟨fun _=>rfl,by kernel_rfl⟩
theorem j02 (mx:Int):CK mx jqq:=⟨fun _=>rfl,by kernel_rfl⟩
theorem j01 (mx:Int):CK mx jqp:=⟨fun _=>rfl,by kernel_rfl⟩
theorem jsc (mx:Int):CK mx ji5:=⟨fun _=>rfl,by kernel_rfl⟩
theorem j06 (mx:Int):CK mx jqu:=⟨fun _=>rfl,by kernel_rfl⟩
theorem j3w (mx:Int):CK mx jtw:=⟨fun _=>rfl,by kernel_rfl⟩
theorem j3q (mx:Int):CK mx jtq:=⟨fun _=>rfl,by kernel_rfl⟩
theorem j3r (mx:Int):CK mx jtr:=⟨fun _=>rfl,by kernel_rfl⟩
theorem j3u (mx:Int):CK mx jtu:=⟨fun _=>rfl,by kernel_rfl⟩
theorem j9j (mx:Int):CK mx jx5:=⟨fun _=>rfl,by kernel_rfl⟩
theorem jnv (mx:Int):CK mx jg0:=⟨fun _=>rfl,by kernel_rfl⟩
theorem jtg (mx:Int):CK mx jj7:=⟨fun _=>rfl,by kernel_rfl⟩
theorem jmf (mx:Int):CK mx jgc:=⟨fun _=>rfl,by kernel_rfl⟩
theorem jpj (mx:Int):CK mx jo6:=⟨fun _=>rfl,by kernel_rfl⟩
theorem jx1 (mx:Int):CK mx jo7:=⟨fun _=>rfl,by kernel_rfl⟩
theorem jnw (mx:Int):CK mx jih:=⟨fun _=>rfl,by kernel_rfl⟩
theorem jwz (mx:Int):CK mx jmh:=⟨fun _=>rfl,by kernel_rfl⟩
theorem j3o (mx:Int):CK mx jto:=⟨fun _=>rfl,by kernel_rfl⟩
theorem jmd (mx:Int):CK mx jga:=⟨fun _=>rfl,by kernel_rfl⟩
theorem jo0 (mx:Int):CK mx jhh:=⟨fun _=>rfl,by kernel_rfl⟩
theorem jjr (mx:Int):CK mx jfr:=⟨fun _=>rfl,by kernel_rfl⟩
theorem jo1 (mx:Int):CK mx jhi:=⟨fun _=>rfl,by kernel_rfl⟩
theorem j3z (mx:Int):CK mx jtz:=⟨fun _=>rfl,by kernel_rfl⟩
theorem jx2 (mx:Int):CK mx jo8:=⟨fun _=>rfl,by kernel_rfl⟩
theorem j3v (mx:Int):CK mx jtv:=⟨fun _=>rfl,by kernel_rfl⟩
theorem jqe (mx:Int):CK mx jie:=⟨fun _=>rfl,by kernel_rfl⟩
theorem jx3 (mx:Int):CK mx jo9:=⟨fun _=>rfl,by kernel_rfl⟩
theorem j05 (mx:Int):CK mx jqt:=⟨fun _=>rfl,by kernel_rfl⟩
theorem jmg (mx:Int):CK mx jgd:=⟨fun _=>rfl,by kernel_rfl⟩
theorem j3t (mx:Int):CK mx jtt:=⟨fun _=>rfl,by kernel_rfl⟩
theorem jf6 (mx:Int):CK mx jc7:=⟨fun _=>rfl,by kernel_rfl⟩
theorem jqd (mx:Int):CK mx jid:=⟨fun _=>rfl,by kernel_rfl⟩
theorem jk1 (mx:Int):CK mx jfg:=⟨fun _=>rfl,by kernel_rfl⟩
theorem jw1 (mx:Int):CK mx jmj:=⟨fun _=>rfl,by kernel_rfl⟩
theorem jk2 (mx:Int):CK mx jgi:=⟨fun _=>rfl,by kernel_rfl⟩
theorem jqf (mx:Int):CK mx jif:=⟨fun _=>rfl,by kernel_rfl⟩
theorem jtf (mx:Int):CK mx jj6:=⟨fun _=>rfl,by kernel_rfl⟩
theorem jme (mx:Int):CK mx jgb:=⟨fun _=>rfl,by kernel_rfl⟩
theorem jnu (mx:Int):CK mx jgz:=⟨fun _=>rfl,by kernel_rfl⟩
theorem jnt (mx:Int):CK mx jgy:=⟨fun _=>rfl,by kernel_rfl⟩
theorem j9k (mx:Int):CK mx jx6:=⟨fun _=>rfl,by kernel_rfl⟩
theorem jqg (mx:Int):CK mx jig:=⟨fun _=>rfl,by kernel_rfl⟩
theorem jth (mx:Int):CK mx jj8:=⟨fun _=>rfl,by kernel_rfl⟩
theorem jw0 (mx:Int):CK mx jmi:=⟨fun _=>rfl,by kernel_rfl⟩
theorem jo2 (mx:Int):CK mx jhj:=⟨fun _=>rfl,by kernel_rfl⟩
theorem jo5 (mx:Int):CK mx jhm:=⟨fun _=>rfl,by kernel_rfl⟩
theorem jsb (mx:Int):CK mx ji4:=⟨fun _=>rfl,by kernel_rfl⟩
theorem jup (mx:Int):CK mx jlz:=⟨fun _=>rfl,by kernel_rfl⟩
theorem jo3 (mx:Int):CK mx jhk:=⟨fun _=>rfl,by kernel_rfl⟩
theorem jlu (mx:Int):CK mx jft:=⟨fun _=>rfl,by kernel_rfl⟩
theorem jo4 (mx:Int):CK mx jhl:=⟨fun _=>rfl,by kernel_rfl⟩
theorem jpy (mx:Int):OK mx 1 (⟨49,[(.dn tqa)],[rqi],jas fuel⟩):=jbe (m:=0) (d:=0) jao jag (gok mx) (jjr mx) (fun a=>jpl fuel a)
theorem jpx (mx:Int):OK mx 1 (⟨49,[.nl],[rqi],fun _=>jas fuel []⟩):=jbe (m:=0) (d:=0) jao jag (gok mx) (jjr mx) (fun a=>jmq fuel a)
theorem jf3 (mx:Int):OK mx 1 (jdt fuel):=fun t ht n hn=>by
 rw[List.mem_singleton.1 ht]
 exact j2y (jpx mx _ (List.mem_singleton.2 rfl) n (by omega)) (jpy mx _ (List.mem_singleton.2 rfl) n (by omega)) (by simp[Ty.size])
theorem jkk (mx:Int):OK mx 1 (⟨61,[(.dn tqb)],[rqm],ja4 fuel⟩):=jbe (m:=0) (d:=0) jao jag (gok mx) (jf6 mx) (fun a=>jkd fuel a)
theorem jkj (mx:Int):OK mx 1 (⟨61,[.nl],[rqm],fun _=>ja4 fuel []⟩):=jbe (m:=0) (d:=0) jao jag (gok mx) (jf6 mx) (fun a=>jiz fuel a)
theorem jlj (mx:Int):OK mx 1 (jfu fuel):=fun t ht n hn=>by
 rw[List.mem_singleton.1 ht]
 exact j2y (jkj mx _ (List.mem_singleton.2 rfl) n (by omega)) (jkk mx _ (List.mem_singleton.2 rfl) n (by omega)) (by simp[Ty.size])
theorem jxq (mx:Int):OK mx 1 (jew fuel):=jbe (m:=0) (d:=0) jao jag (gok mx) (jpj mx) (fun a=>jmm fuel a)
theorem j2x (mx:Int):OK mx 1 (jjf fuel):=jbe (m:=0) (d:=0) jao jag (gok mx) (j3z mx) (fun a=>j0j fuel a)
theorem js0 (mx:Int):OKs (BB mx) (jk9 mx) prog 1 [jkb fuel]:=kgp fun az g h=>by simp only[jk9,jg7,jq2,kgs,kah,jue,kaj,kai,Nat.beq,cond_false] at h ⊢;first | exact h | simp only[h]
theorem jov (mx:Int):OKs (BB mx) (jk9 mx) prog 1 [jhn fuel]:=kgn fun az g h=>by simp only[jk9,jg7,jq2,kgs,kah,jue,kaj,kai,Nat.beq,cond_false] at h ⊢;first | exact h | simp only[h]
theorem jou (mx:Int):OK mx 3 (jcu fuel):=jbe (m:=1) (d:=1) (jae (jai (js0 mx) (Nat.le_of_ble_eq_true rfl)) (jae (jai (jov mx) (Nat.le_of_ble_eq_true rfl)) jao)) (jar (jo4 mx) jag) (gok mx) (jo3 mx) (fun a=>jng fuel a)
theorem jxs (mx:Int):OK mx 7 (jgu fuel):=jbe (m:=3) (d:=3) (jae (jai (jou mx) (Nat.le_of_ble_eq_true rfl)) jao) (jar (jw1 mx) (jar (jo5 mx) (jar (jup mx) (jar (jlu mx) jag)))) (gok mx) (jx1 mx) (fun a=>jvh fuel a)
theorem juk (mx:Int):OKs (BB mx) mm0 prog 1 [jew fuel]:=jbe (m:=0) (d:=0) jao jag (gok mx) ⟨fun _=>rfl,(jpj mx).2⟩ (fun a=>jmm fuel a)
theorem jz2 (mx:Int):OKs (BB mx) (jk9 mx) prog 1 [jq1 fuel]:=kdv (juk mx _ (List.mem_singleton.2 rfl) 3 (by decide)) fun az g h=>by simp only[jk9,jg7,h]
theorem jxr (mx:Int):OKs (BB mx) (jk9 mx) prog 1 [jpb fuel]:=kdt fun az g h=>by simp only[jk9,jg7,jq2,kgs,kah,Nat.beq,cond_false] at h ⊢;first | exact h | simp only[h]
theorem jz1 (mx:Int):OK mx 8 (jhs fuel):=jbe (m:=7) (d:=0) (jae (jai (jxq mx) (Nat.le_of_ble_eq_true rfl)) (jae (jai (jxs mx) (Nat.le_of_ble_eq_true rfl)) (jae (jai (jxr mx) (Nat.le_of_ble_eq_true rfl)) jao))) jag (gok mx) (j0y mx) (fun a=>jxf fuel a)
theorem jp0 (mx:Int):OKs (BB mx) (jk9 mx) prog 1 [jij fuel]:=kgr (fun az g h=>by simp only[jk9,jg7,jq2,jue,kaj,kai,kak,jve,Nat.beq,cond_false] at h ⊢;first | exact h | simp only[h])
theorem jsy (mx:Int):OKs (BB mx) (jk9 mx) prog 1 [jka fuel]:=j6k (by rfl) (fun az g h=>by simp only[jk9,jg7,jq2,jue,kaj,kai,kak,jve,Nat.beq,cond_false] at h ⊢;first | exact h | simp only[h])
theorem jl7 (mx:Int):OKs (BB mx) (jk9 mx) prog 1 [jge fuel]:=j6k (by rfl) (fun az g h=>by simp only[jk9,jg7,jq2,jue,kaj,kai,kak,jve,Nat.beq,cond_false] at h ⊢;first | exact h | simp only[h])
theorem jdd (mx:Int):OK mx 1 (jbu fuel):=jbe (m:=0) (d:=0) jao jag (gok mx) (j04 mx) (fun a=>jxm fuel a)
theorem jkn (mx:Int):OK mx 1 (jfi fuel):=jbe (m:=0) (d:=0) jao jag (gok mx) (j9j mx) (fun a=>j4y fuel a)
theorem jis (mx:Int):OK mx 1 (jcg fuel):=jbe (m:=0) (d:=0) jao jag (gok mx) (jqf mx) (fun a=>jos fuel a)
theorem jko (mx:Int):OK mx 1 (jcx fuel):=jbe (m:=0) (d:=0) jao jag (gok mx) (jtf mx) (fun a=>jq9 fuel a)
theorem jbz (mx:Int):OK mx 1 (jay fuel):=jbe (m:=0) (d:=0) jao jag (gok mx) (jnv mx) (fun a=>jl5 fuel a)
theorem jjm (mx:Int):OK mx 1 (jd2 fuel):=jbe (m:=0) (d:=0) jao jag (gok mx) (j3o mx) (fun a=>jzr fuel a)
theorem jl8 (mx:Int):OK mx 2 (jci fuel):=jbe (m:=1) (d:=0) (jae (jai (jbz mx) (Nat.le_of_ble_eq_true rfl)) jao) jag (gok mx) (jme mx) (fun a=>jle fuel a)
theorem jgf (mx:Int):OK mx 4 (jbo fuel):=jbe (m:=2) (d:=1) (jae (jai (jbz mx) (Nat.le_of_ble_eq_true rfl)) (jae (jai (jis mx) (Nat.le_of_ble_eq_true rfl)) (jae (jai (jko mx) (Nat.le_of_ble_eq_true rfl)) (jae (jai (jl8 mx) (Nat.le_of_ble_eq_true rfl)) jao)))) (jar (jnu mx) jag) (gok mx) (jmd mx) (fun a=>jld fuel a)
theorem jir (mx:Int):OK mx 2 (jcf fuel):=jbe (m:=1) (d:=0) (jae (jai (jbz mx) (Nat.le_of_ble_eq_true rfl)) jao) jag (gok mx) (jqe mx) (fun a=>jor fuel a)
theorem jhp (mx:Int):OK mx 3 (jb6 fuel):=jbe (m:=2) (d:=0) (jae (jai (jbz mx) (Nat.le_of_ble_eq_true rfl)) (jae (jai (jir mx) (Nat.le_of_ble_eq_true rfl)) jao)) jag (gok mx) (jo0 mx) (fun a=>jms fuel a)
theorem jg4 (mx:Int):OK mx 2 (jbw fuel):=jbe (m:=0) (d:=1) jao (jar (jsb mx) jag) (gok mx) (jnt mx) (fun a=>jl4 fuel a)
theorem jpf (mx:Int):OK mx 3 (jex fuel):=jbe (m:=2) (d:=0) (jae (jai (jdd mx) (Nat.le_of_ble_eq_true rfl)) (jae (jai (jg4 mx) (Nat.le_of_ble_eq_true rfl)) jao)) jag (gok mx) (jx2 mx) (fun a=>jvx fuel a)
theorem jlk (mx:Int):OK mx 5 (jee fuel):=jbe (m:=4) (d:=0) (jae (jai (jkn mx) (Nat.le_of_ble_eq_true rfl)) (jae (jai (jjm mx) (Nat.le_of_ble_eq_true rfl)) (jae (jai (jgf mx) (Nat.le_of_ble_eq_true rfl)) (jae (jai (jhp mx) (Nat.le_of_ble_eq_true rfl)) (jae (jai (jpf mx) (Nat.le_of_ble_eq_true rfl)) jao))))) jag (gok mx) (j0z mx) (fun a=>jxg fuel a)
theorem jhq (mx:Int):OK mx 2 (jb7 fuel):=jbe (m:=1) (d:=0) (jae (jai (jjm mx) (Nat.le_of_ble_eq_true rfl)) (jae (jai (jis mx) (Nat.le_of_ble_eq_true rfl)) (jae (jai (jko mx) (Nat.le_of_ble_eq_true rfl)) jao))) jag (gok mx) (jo1 mx) (fun a=>jmt fuel a)
theorem jrn (mx:Int):OK mx 4 (jfv fuel):=jbe (m:=3) (d:=0) (jae (jai (jkn mx) (Nat.le_of_ble_eq_true rfl)) (jae (jai (jhq mx) (Nat.le_of_ble_eq_true rfl)) (jae (jai (jpf mx) (Nat.le_of_ble_eq_true rfl)) jao))) jag (gok mx) (j00 mx) (fun a=>jxh fuel a)
theorem jro (mx:Int):OK mx 7 (jfw fuel):=jbe (m:=5) (d:=1) (jae (jai (jlk mx) (Nat.le_of_ble_eq_true rfl)) (jae (jai (jkn mx) (Nat.le_of_ble_eq_true rfl)) (jae (jai (jjm mx) (Nat.le_of_ble_eq_true rfl)) (jae (jai (jf3 mx) (Nat.le_of_ble_eq_true rfl)) (jae (jai (jir mx) (Nat.le_of_ble_eq_true rfl)) jao))))) (jar (jeq mx) jag) (gok mx) (j01 mx) (fun a=>jxj fuel a)
theorem jl6 (mx:Int):j8h (BB mx) (jk9 mx) prog 1 [⟨51,2,[(.row tqp),(.v (.fn 52))],[],jb8 fuel⟩]:=kdr Srt.ord_sort (fun az g h=>by simp only[jk9,jg7,jq2,jue,kaj,kai,kak,jve,Nat.beq,cond_false] at h ⊢;first | exact h | simp only[h])
theorem jki (mx:Int):∀n,j8h (BB mx) (jk9 mx) prog (4+n*1) [⟨44,1,[(.v rql),(.pd tqh),(.pd tqf),.self,(.cell rqz),(.cell rq0)],[],jd4 fuel n⟩]
 | 0=>fun t ht n hn=>by
   rw[List.mem_singleton.1 ht]
   intro a r y hr
   cases hr
 | n+1=>j59 (kmn (m:=4+n*1) (d:=0) (jae (jai (jjm mx) (by omega)) (jae (jai (jgf mx) (by omega)) (jae (jai (jhp mx) (by omega)) (jae (jai (jp0 mx) (by omega)) (jae (jai (jf3 mx) (by omega)) (jae (jai (jhq mx) (by omega)) jao)))))) (jw8 (jki mx n) j8g) jag (gok mx) (jwz mx) (fun a=>juf fuel _ a)) (by omega)
theorem jwa (mx:Int):j8h (BB mx) (jk9 mx) prog 16 [⟨44,1,[(.v rql),(.pd tqh),(.pd tqf),.self,(.cell rqz),(.cell rq0)],[],jhv fuel⟩]:=jki mx 12
theorem jt3 (mx:Int):OK mx 17 (jg2 fuel):=kmm (m:=16) (d:=0) (jae (jai (jkn mx) (Nat.le_of_ble_eq_true rfl)) jao) (jw8 (j59 (jwa mx) (Nat.le_of_ble_eq_true rfl)) (jw8 (j59 (jl6 mx) (Nat.le_of_ble_eq_true rfl)) j8g)) jag (gok mx) (j3n mx) (fun a=>jzq fuel a)
theorem jl3 (mx:Int):OK mx 2 (jdh fuel):=jbe (m:=1) (d:=0) (jae (jai (jdd mx) (Nat.le_of_ble_eq_true rfl)) jao) jag (gok mx) (juo mx) (fun a=>jst fuel a)
theorem jhy (mx:Int):OK mx 18 (jda fuel):=jbe (m:=17) (d:=0) (jae (jai (jl3 mx) (Nat.le_of_ble_eq_true rfl)) (jae (jai (jt3 mx) (Nat.le_of_ble_eq_true rfl)) jao)) jag (gok mx) (j03 mx) (fun a=>jxl fuel a)
theorem jll (mx:Int):OK mx 18 (jef fuel):=jbe (m:=17) (d:=0) (jae (jai (jl3 mx) (Nat.le_of_ble_eq_true rfl)) (jae (jai (jt3 mx) (Nat.le_of_ble_eq_true rfl)) jao)) jag (gok mx) (j02 mx) (fun a=>jxk fuel a)
theorem jjn (mx:Int):OK mx 2 (jcp fuel):=jbe (m:=1) (d:=0) (jae (jai (jdd mx) (Nat.le_of_ble_eq_true rfl)) jao) jag (gok mx) (jsc mx) (fun a=>jpo fuel a)
theorem jp1 (mx:Int):OK mx 2 (jc9 fuel):=jbe (m:=1) (d:=0) (jae (jai (jsy mx) (Nat.le_of_ble_eq_true rfl)) jao) jag (gok mx) (jqd mx) (fun a=>jop fuel a)
theorem jkm (mx:Int):OK mx 2 (jb2 fuel):=jbe (m:=1) (d:=0) (jae (jai (jl7 mx) (Nat.le_of_ble_eq_true rfl)) jao) jag (gok mx) (jk1 mx) (fun a=>jjz fuel a)
theorem jkp (mx:Int):OK mx 4 (jcy fuel):=jbe (m:=2) (d:=1) (jae (jai (jp1 mx) (Nat.le_of_ble_eq_true rfl)) jao) (jar (jeq mx) jag) (gok mx) (jtg mx) (fun a=>jra fuel a)
theorem jgg (mx:Int):OK mx 4 (jbp fuel):=jbe (m:=2) (d:=1) (jae (jai (jkm mx) (Nat.le_of_ble_eq_true rfl)) jao) (jar (jcm mx) jag) (gok mx) (jmf mx) (fun a=>jlf fuel a)
theorem jm2 (mx:Int):OK mx 6 (jfj fuel):=jbe (m:=4) (d:=1) (jae (jai (jdd mx) (Nat.le_of_ble_eq_true rfl)) (jae (jai (jkn mx) (Nat.le_of_ble_eq_true rfl)) (jae (jai (jbz mx) (Nat.le_of_ble_eq_true rfl)) (jae (jai (jkp mx) (Nat.le_of_ble_eq_true rfl)) (jae (jai (jgg mx) (Nat.le_of_ble_eq_true rfl)) jao))))) (jar (jcm mx) jag) (gok mx) (j3s mx) (fun a=>jzw fuel a)
theorem j2t (mx:Int):OK mx 5 (jjb fuel):=jbe (m:=4) (d:=0) (jae (jai (jdd mx) (Nat.le_of_ble_eq_true rfl)) (jae (jai (jkp mx) (Nat.le_of_ble_eq_true rfl)) (jae (jai (jgg mx) (Nat.le_of_ble_eq_true rfl)) jao))) jag (gok mx) (j3q mx) (fun a=>jzu fuel a)
theorem j2u (mx:Int):OK mx 3 (jjc fuel):=jbe (m:=1) (d:=1) (jae (jai (jf3 mx) (Nat.le_of_ble_eq_true rfl)) (jae (jai (jlj mx) (Nat.le_of_ble_eq_true rfl)) jao)) (jar (jeq mx) (jar (jcm mx) jag)) (gok mx) (j3r mx) (fun a=>jzv fuel a)
theorem jpz (mx:Int):OK mx 3 (jc8 fuel):=jbe (m:=0) (d:=2) jao (jar (jnw mx) (jar (jk2 mx) jag)) (gok mx) (jqc mx) (fun a=>jon fuel a)
theorem jkl (mx:Int):OK mx 3 (jb1 fuel):=jbe (m:=0) (d:=2) jao (jar (jnw mx) (jar (jk2 mx) jag)) (gok mx) (jk0 mx) (fun a=>jjx fuel a)
theorem j2s (mx:Int):OK mx 5 (jja fuel):=jbe (m:=3) (d:=1) (jae (jai (jpz mx) (Nat.le_of_ble_eq_true rfl)) (jae (jai (jkl mx) (Nat.le_of_ble_eq_true rfl)) jao)) (jar (jeq mx) (jar (jcm mx) jag)) (gok mx) (j3p mx) (fun a=>jzs fuel a)
theorem jem (mx:Int):OK mx 20 (jcb fuel):=jbe (m:=18) (d:=1) (jae (jai (jhy mx) (Nat.le_of_ble_eq_true rfl)) (jae (jai (jdd mx) (Nat.le_of_ble_eq_true rfl)) (jae (jai (jll mx) (Nat.le_of_ble_eq_true rfl)) (jae (jai (jro mx) (Nat.le_of_ble_eq_true rfl)) (jae (jai (jjn mx) (Nat.le_of_ble_eq_true rfl)) jao))))) (jar (jhc mx) jag) (gok mx) (j07 mx) (fun a=>jxu fuel a)
theorem jg5 (mx:Int):OK mx 2 (jc5 fuel):=jbe (m:=1) (d:=0) (jae (jai (j2x mx) (Nat.le_of_ble_eq_true rfl)) jao) jag (gok mx) (j3x mx) (fun a=>j0g fuel a)
theorem jm4 (mx:Int):OK mx 1 (jfl fuel):=jbe (m:=0) (d:=0) jao jag (gok mx) (j3y mx) (fun a=>j0h fuel a)
theorem jm3 (mx:Int):OK mx 1 (jfk fuel):=jbe (m:=0) (d:=0) jao jag (gok mx) (j3w mx) (fun a=>j0f fuel a)
theorem j2w (mx:Int):OK mx 2 (jje fuel):=jbe (m:=1) (d:=0) (jae (jai (jm3 mx) (Nat.le_of_ble_eq_true rfl)) jao) jag (gok mx) (j3v mx) (fun a=>j0e fuel a)
theorem jlm (mx:Int):OK mx 3 (jeh fuel):=jbe (m:=2) (d:=0) (jae (jai (jm3 mx) (Nat.le_of_ble_eq_true rfl)) (jae (jai (j2w mx) (Nat.le_of_ble_eq_true rfl)) jao)) jag (gok mx) (j08 mx) (fun a=>jxv fuel a)
theorem jm0 (mx:Int):∀n,OKs (BB mx) (jk9 mx) prog (0+n*1) [⟨25,[rqc],[rq4],je0 fuel n⟩]
 | 0=>fun t ht n hn=>by
   rw[List.mem_singleton.1 ht]
   intro a r hr
   cases hr
 | n+1=>jai (jbe (m:=0+n*1) (d:=0) (jae (jm0 mx n) jao) jag (gok mx) (jx4 mx) (fun a=>jwj fuel _ a)) (by omega)
theorem jpg (mx:Int):OK mx 10 (jjw fuel):=jm0 mx 10
theorem jrp (mx:Int):OK mx 21 (jdu fuel):=jbe (m:=20) (d:=0) (jae (jai (jem mx) (Nat.le_of_ble_eq_true rfl)) (jae (jai (jg5 mx) (Nat.le_of_ble_eq_true rfl)) (jae (jai (jm4 mx) (Nat.le_of_ble_eq_true rfl)) (jae (jai (jdd mx) (Nat.le_of_ble_eq_true rfl)) (jae (jai (jlk mx) (Nat.le_of_ble_eq_true rfl)) (jae (jai (jlm mx) (Nat.le_of_ble_eq_true rfl)) jao)))))) jag (gok mx) (jsd mx) (fun a=>jp3 fuel a)
theorem jrs (mx:Int):OK mx 22 (jdw fuel):=jbe (m:=20) (d:=1) (jae (jai (jhy mx) (Nat.le_of_ble_eq_true rfl)) (jae (jai (jem mx) (Nat.le_of_ble_eq_true rfl)) (jae (jai (jg5 mx) (Nat.le_of_ble_eq_true rfl)) (jae (jai (jlm mx) (Nat.le_of_ble_eq_true rfl)) (jae (jai (jpg mx) (Nat.le_of_ble_eq_true rfl)) (jae (jai (jrn mx) (Nat.le_of_ble_eq_true rfl)) (jae (jai (jll mx) (Nat.le_of_ble_eq_true rfl)) jao))))))) (jar (jhc mx) jag) (gok mx) (jsg mx) (fun a=>jp6 fuel a)
theorem jrq (mx:Int):OK mx 22 (jdv fuel):=jbe (m:=20) (d:=1) (jae (jai (jem mx) (Nat.le_of_ble_eq_true rfl)) (jae (jai (jg5 mx) (Nat.le_of_ble_eq_true rfl)) (jae (jai (jm4 mx) (Nat.le_of_ble_eq_true rfl)) (jae (jai (jpg mx) (Nat.le_of_ble_eq_true rfl)) (jae (jai (jrn mx) (Nat.le_of_ble_eq_true rfl)) (jae (jai (jm3 mx) (Nat.le_of_ble_eq_true rfl)) jao)))))) (jar (jhc mx) jag) (gok mx) (jse mx) (fun a=>jp4 fuel a)
theorem js1 (mx:Int):OK mx 23 (jei fuel):=jbe (m:=20) (d:=2) (jae (jai (jhy mx) (Nat.le_of_ble_eq_true rfl)) (jae (jai (jm2 mx) (Nat.le_of_ble_eq_true rfl)) (jae (jai (jem mx) (Nat.le_of_ble_eq_true rfl)) (jae (jai (jg5 mx) (Nat.le_of_ble_eq_true rfl)) (jae (jai (j2t mx) (Nat.le_of_ble_eq_true rfl)) (jae (jai (j2u mx) (Nat.le_of_ble_eq_true rfl)) jao)))))) (jar (jhc mx) (jar (j3u mx) jag)) (gok mx) (jti mx) (fun a=>jrw fuel a)
theorem j85 (mx:Int):OK mx 2 (jn5 fuel):=jbe (m:=1) (d:=0) (jae (jai (jz2 mx) (Nat.le_of_ble_eq_true rfl)) jao) jag (gok mx) (j9k mx) (fun a=>j45 fuel a)
theorem jp2 (mx:Int):OK mx 1 (jdb fuel):=jbe (m:=0) (d:=0) jao jag (gok mx) (jqg mx) (fun a=>jot fuel a)
theorem jsz (mx:Int):OK mx 1 (jeg fuel):=jbe (m:=0) (d:=0) jao jag (gok mx) (jth mx) (fun a=>jre fuel a)
theorem jz3 (mx:Int):OK mx 1 (jht fuel):=jbe (m:=0) (d:=0) jao jag (gok mx) (j05 mx) (fun a=>jxo fuel a)
theorem jxt (mx:Int):OK mx 3 (jgv fuel):=jbe (m:=2) (d:=0) (jae (jai (jg4 mx) (Nat.le_of_ble_eq_true rfl)) (jae (jai (j85 mx) (Nat.le_of_ble_eq_true rfl)) jao)) jag (gok mx) (jx3 mx) (fun a=>jv4 fuel a)
theorem jwb (mx:Int):OK mx 1 (jfx fuel):=jbe (m:=0) (d:=0) jao jag (gok mx) (jw0 mx) (fun a=>jui fuel a)
theorem j2v (mx:Int):OK mx 1 (jjd fuel):=jbe (m:=0) (d:=0) jao jag (gok mx) (j3t mx) (fun a=>jzx fuel a)
theorem jl9 (mx:Int):OK mx 3 (jcj fuel):=jbe (m:=1) (d:=1) (jae (jai (jp2 mx) (Nat.le_of_ble_eq_true rfl)) (jae (jai (jsz mx) (Nat.le_of_ble_eq_true rfl)) (jae (jai (jwb mx) (Nat.le_of_ble_eq_true rfl)) jao))) (jar (jo2 mx) jag) (gok mx) (jmg mx) (fun a=>jlh fuel a)
theorem jz4 (mx:Int):OK mx 4 (jhu fuel):=jbe (m:=3) (d:=0) (jae (jai (jxt mx) (Nat.le_of_ble_eq_true rfl)) (jae (jai (jz3 mx) (Nat.le_of_ble_eq_true rfl)) (jae (jai (jl9 mx) (Nat.le_of_ble_eq_true rfl)) (jae (jai (j2v mx) (Nat.le_of_ble_eq_true rfl)) jao)))) jag (gok mx) (j06 mx) (fun a=>jxp fuel a)
theorem jln (mx:Int):OK mx 22 (jcc fuel):=jbe (m:=20) (d:=1) (jae (jai (jm2 mx) (Nat.le_of_ble_eq_true rfl)) (jae (jai (jem mx) (Nat.le_of_ble_eq_true rfl)) (jae (jai (jg5 mx) (Nat.le_of_ble_eq_true rfl)) (jae (jai (jm4 mx) (Nat.le_of_ble_eq_true rfl)) (jae (jai (jlk mx) (Nat.le_of_ble_eq_true rfl)) (jae (jai (jlm mx) (Nat.le_of_ble_eq_true rfl)) (jae (jai (jll mx) (Nat.le_of_ble_eq_true rfl)) (jae (jai (jro mx) (Nat.le_of_ble_eq_true rfl)) (jae (jai (jjn mx) (Nat.le_of_ble_eq_true rfl)) (jae (jai (jz4 mx) (Nat.le_of_ble_eq_true rfl)) jao)))))))))) (jar (jhc mx) jag) (gok mx) (jlt mx) (fun a=>jkr fuel a)
theorem jrr (mx:Int):OK mx 24 (jfy fuel):=jbe (m:=23) (d:=0) (jae (jai (j2s mx) (Nat.le_of_ble_eq_true rfl)) (jae (jai (jhy mx) (Nat.le_of_ble_eq_true rfl)) (jae (jai (jrp mx) (Nat.le_of_ble_eq_true rfl)) (jae (jai (jrs mx) (Nat.le_of_ble_eq_true rfl)) (jae (jai (jln mx) (Nat.le_of_ble_eq_true rfl)) (jae (jai (jrq mx) (Nat.le_of_ble_eq_true rfl)) (jae (jai (js1 mx) (Nat.le_of_ble_eq_true rfl)) (jae (jai (jm2 mx) (Nat.le_of_ble_eq_true rfl)) (jae (jai (jz1 mx) (Nat.le_of_ble_eq_true rfl)) (jae (jai (jem mx) (Nat.le_of_ble_eq_true rfl)) jao)))))))))) jag (gok mx) (jsf mx) (fun a=>jp5 fuel a)
end
end Vm
end Go.Proofs.YtofimkliemlojaaGreatDoor
