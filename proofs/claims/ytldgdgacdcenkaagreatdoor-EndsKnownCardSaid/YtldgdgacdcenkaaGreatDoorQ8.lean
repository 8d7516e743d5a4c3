/-
  The contracts of the program's functions, one after another. (Printed by a program.)
-/
import Derived.Test.YtldgdgacdcenkaaGreatDoorQ7
import Derived.Test.YtldgdgacdcenkaaGreatDoorSM
set_option linter.unusedSimpArgs false
set_option linter.unusedVariables false
namespace Go.Proofs.YtldgdgacdcenkaaGreatDoor
namespace Vm
open Go Go.Vm Go.Vm.W Go.Vm.X
noncomputable section
set_option maxRecDepth 100000
theorem gok (mx:Int):GRel (BB mx) nu0 GG:=kaw (B:=BB mx) (es:=ex mx++es) (kbr mx).symm (l:=GM) (fl:=GF) (by kernel_rfl) (by kernel_rfl) (by kernel_rfl) (by kernel_rfl)
theorem jnq (mx:Int):(∀vs,ja0 mx 3 vs=none)∧prog.get 3=some z_law18_EndsFold.cfn:=⟨fun _=>rfl,by kernel_rfl⟩
theorem jmv (mx:Int):(∀vs,ja0 mx 4 vs=none)∧prog.get 4=some z_law18_EndsSteps.cfn:=⟨fun _=>rfl,by kernel_rfl⟩
theorem jmx (mx:Int):(∀vs,ja0 mx 5 vs=none)∧prog.get 5=some z_law18_EndsFolds.cfn:=⟨fun _=>rfl,by kernel_rfl⟩
theorem jnp (mx:Int):(∀vs,ja0 mx 6 vs=none)∧prog.get 6=some z_law18_EndsPile.cfn:=⟨fun _=>rfl,by kernel_rfl⟩
theorem jmw (mx:Int):(∀vs,ja0 mx 7 vs=none)∧prog.get 7=some z_law18_EndsKnown.cfn:=⟨fun _=>rfl,by kernel_rfl⟩
theorem j48 (mx:Int):(∀vs,ja0 mx 8 vs=none)∧prog.get 8=some z_law18_D.cfn:=⟨fun _=>rfl,by kernel_rfl⟩
theorem jx7 (mx:Int):(∀vs,ja0 mx 9 vs=none)∧prog.get 9=some z_ends_Fold.cfn:=⟨fun _=>rfl,by kernel_rfl⟩
theorem jvz (mx:Int):(∀vs,ja0 mx 10 vs=none)∧prog.get 10=some z_ends_Folds.cfn:=⟨fun _=>rfl,by kernel_rfl⟩
theorem jvy (mx:Int):(∀vs,ja0 mx 11 vs=none)∧prog.get 11=some z_ends_Steps.cfn:=⟨fun _=>rfl,by kernel_rfl⟩
theorem jqz (mx:Int):(∀vs,ja0 mx 12 vs=none)∧prog.get 12=some z_law18_behind.cfn:=⟨fun _=>rfl,by kernel_rfl⟩
theorem jtl (mx:Int):(∀vs,ja0 mx 13 vs=none)∧prog.get 13=some z_strips_Same.cfn:=⟨fun _=>rfl,by kernel_rfl⟩
theorem jtp (mx:Int):(∀vs,ja0 mx 14 vs=none)∧prog.get 14=some z_law18_lives.cfn:=⟨fun _=>rfl,by kernel_rfl⟩
theorem j49 (mx:Int):(∀vs,ja0 mx 15 vs=none)∧prog.get 15=some z_ends_Do.cfn:=⟨fun _=>rfl,by kernel_rfl⟩
theorem jqx (mx:Int):(∀vs,ja0 mx 16 vs=none)∧prog.get 16=some z_law18_orders.cfn:=⟨fun _=>rfl,by kernel_rfl⟩
theorem jtn (mx:Int):(∀vs,ja0 mx 17 vs=none)∧prog.get 17=some z_piles_Check.cfn:=⟨fun _=>rfl,by kernel_rfl⟩
theorem jx6 (mx:Int):(∀vs,ja0 mx 18 vs=none)∧prog.get 18=some z_ends_Pile.cfn:=⟨fun _=>rfl,by kernel_rfl⟩
theorem jpv (mx:Int):(∀vs,ja0 mx 19 vs=none)∧prog.get 19=some z_law18_EndsAny.cfn:=⟨fun _=>rfl,by kernel_rfl⟩
theorem jnr (mx:Int):(∀vs,ja0 mx 20 vs=none)∧prog.get 20=some z_law18_EndsBack.cfn:=⟨fun _=>rfl,by kernel_rfl⟩
theorem jvt (mx:Int):(∀vs,ja0 mx 21 vs=none)∧prog.get 21=some z_law16_T_Of.cfn:=⟨fun _=>rfl,by kernel_rfl⟩
theorem jq0 (mx:Int):(∀vs,ja0 mx 22 vs=none)∧prog.get 22=some z_ends_decided.cfn:=⟨fun _=>rfl,by kernel_rfl⟩
theorem j1s (mx:Int):(∀vs,ja0 mx 23 vs=none)∧prog.get 23=some z_ends_own.cfn:=⟨fun _=>rfl,by kernel_rfl⟩
theorem jvu (mx:Int):(∀vs,ja0 mx 24 vs=none)∧prog.get 24=some z_ends_steps.cfn:=⟨fun _=>rfl,by kernel_rfl⟩
theorem jx5 (mx:Int):(∀vs,ja0 mx 25 vs=none)∧prog.get 25=some z_ends_done.cfn:=⟨fun _=>rfl,by kernel_rfl⟩
theorem jef (mx:Int):(∀vs,ja0 mx 26 vs=none)∧prog.get 26=some z_slices_Clip_ends_Step.cfn:=⟨fun _=>rfl,by kernel_rfl⟩
theorem jls (mx:Int):(∀vs,ja0 mx 27 vs=none)∧prog.get 27=some z_slices_Equal_int.cfn:=⟨fun _=>rfl,by kernel_rfl⟩
theorem jhj (mx:Int):(∀vs,ja0 mx 28 vs=none)∧prog.get 28=some z_slices_Equal_api_Kind.cfn:=⟨fun _=>rfl,by kernel_rfl⟩
theorem jto (mx:Int):(∀vs,ja0 mx 29 vs=none)∧prog.get 29=some z_law18_strip.cfn:=⟨fun _=>rfl,by kernel_rfl⟩
theorem jtk (mx:Int):(∀vs,ja0 mx 30 vs=none)∧prog.get 30=some z_strips_Text.cfn:=⟨fun _=>rfl,by kernel_rfl⟩
theorem jm9 (mx:Int):(∀vs,ja0 mx 31 vs=none)∧prog.get 31=some z_law18_list.cfn:=⟨fun _=>rfl,by kernel_rfl⟩
theorem jqw (mx:Int):(∀vs,ja0 mx 32 vs=none)∧prog.get 32=some z_piles_listed.cfn:=⟨fun _=>rfl,by kernel_rfl⟩
theorem jtm (mx:Int):(∀vs,ja0 mx 33 vs=none)∧prog.get 33=some z_piles_ranks.cfn:=⟨fun _=>rfl,by kernel_rfl⟩
theorem jhu (mx:Int):(∀vs,ja0 mx 34 vs=none)∧prog.get 34=some z_piles_folded_crosses.cfn:=⟨fun _=>rfl,by kernel_rfl⟩
theorem jvr (mx:Int):(∀vs,ja0 mx 35 vs=none)∧prog.get 35=some z_piles_kind.cfn:=⟨fun _=>rfl,by kernel_rfl⟩
theorem jq2 (mx:Int):(∀vs,ja0 mx 36 vs=none)∧prog.get 36=some z_ends_Pile_c1.cfn:=⟨fun _=>rfl,by kernel_rfl⟩
theorem jx3 (mx:Int):(∀vs,ja0 mx 37 vs=none)∧prog.get 37=some z_ends_undo.cfn:=⟨fun _=>rfl,by kernel_rfl⟩
theorem jez (mx:Int):(∀vs,ja0 mx 38 vs=none)∧prog.get 38=some z_slices_Clip_int.cfn:=⟨fun _=>rfl,by kernel_rfl⟩
theorem jvs (mx:Int):(∀vs,ja0 mx 39 vs=none)∧prog.get 39=some z_law18_pair.cfn:=⟨fun _=>rfl,by kernel_rfl⟩
theorem jqy (mx:Int):(∀vs,ja0 mx 40 vs=none)∧prog.get 40=some z_law18_higher.cfn:=⟨fun _=>rfl,by kernel_rfl⟩
theorem jjy (mx:Int):(∀vs,ja0 mx 41 vs=none)∧prog.get 41=some z_strips_Check.cfn:=⟨fun _=>rfl,by kernel_rfl⟩
theorem jf2 (mx:Int):(∀vs,ja0 mx 42 vs=none)∧prog.get 42=some z_slices_Contains_api_Kind.cfn:=⟨fun _=>rfl,by kernel_rfl⟩
theorem jga (mx:Int):(∀vs,ja0 mx 43 vs=none)∧prog.get 43=some z_slices_Clone_int.cfn:=⟨fun _=>rfl,by kernel_rfl⟩
theorem jem (mx:Int):(∀vs,ja0 mx 44 vs=none)∧prog.get 44=some z_slices_Clip_api_Kind.cfn:=⟨fun _=>rfl,by kernel_rfl⟩
theorem jee (mx:Int):(∀vs,ja0 mx 45 vs=none)∧prog.get 45=some z_slices_Clone_api_Kind.cfn:=⟨fun _=>rfl,by kernel_rfl⟩
theorem jkr (mx:Int):(∀vs,ja0 mx 46 vs=none)∧prog.get 46=some z_slices_Concat_int.cfn:=⟨fun _=>rfl,by kernel_rfl⟩
theorem jgz (mx:Int):(∀vs,ja0 mx 47 vs=none)∧prog.get 47=some z_slices_Concat_api_Kind.cfn:=⟨fun _=>rfl,by kernel_rfl⟩
theorem jqu (mx:Int):(∀vs,ja0 mx 48 vs=none)∧prog.get 48=some z_strips_Parse.cfn:=⟨fun _=>rfl,by kernel_rfl⟩
theorem jqv (mx:Int):(∀vs,ja0 mx 49 vs=none)∧prog.get 49=some z_strconv_Itoa.cfn:=⟨fun _=>rfl,by kernel_rfl⟩
theorem j1r (mx:Int):(∀vs,ja0 mx 51 vs=none)∧prog.get 51=some z_piles_of.cfn:=⟨fun _=>rfl,by kernel_rfl⟩
theorem jiu (mx:Int):(∀vs,ja0 mx 52 vs=none)∧prog.get 52=some z_slices_Contains_int.cfn:=⟨fun _=>rfl,by kernel_rfl⟩
theorem jks (mx:Int):(∀vs,ja0 mx 53 vs=none)∧prog.get 53=some z_piles_folded_from.cfn:=⟨fun _=>rfl,by kernel_rfl⟩
theorem jmu (mx:Int):(∀vs,ja0 mx 54 vs=none)∧prog.get 54=some z_piles_folded_to.cfn:=⟨fun _=>rfl,by kernel_rfl⟩
theorem jpu (mx:Int):(∀vs,ja0 mx 55 vs=none)∧prog.get 55=some z_piles_between.cfn:=⟨fun _=>rfl,by kernel_rfl⟩
theorem jjo (mx:Int):(∀vs,ja0 mx 56 vs=none)∧prog.get 56=some z_piles_folded_loops.cfn:=⟨fun _=>rfl,by kernel_rfl⟩
theorem jq1 (mx:Int):(∀vs,ja0 mx 57 vs=none)∧prog.get 57=some z_ends_counted.cfn:=⟨fun _=>rfl,by kernel_rfl⟩
theorem jjn (mx:Int):(∀vs,ja0 mx 58 vs=none)∧prog.get 58=some z_slices_Reverse_int.cfn:=⟨fun _=>rfl,by kernel_rfl⟩
theorem jlr (mx:Int):(∀vs,ja0 mx 59 vs=none)∧prog.get 59=some z_slices_Index_int.cfn:=⟨fun _=>rfl,by kernel_rfl⟩
theorem jvx (mx:Int):(∀vs,ja0 mx 60 vs=none)∧prog.get 60=some z_ends_above.cfn:=⟨fun _=>rfl,by kernel_rfl⟩
theorem jhi (mx:Int):(∀vs,ja0 mx 63 vs=none)∧prog.get 63=some z_slices_Index_api_Kind.cfn:=⟨fun _=>rfl,by kernel_rfl⟩
theorem jit (mx:Int):(∀vs,ja0 mx 67 vs=none)∧prog.get 67=some z_slices_Index_string.cfn:=⟨fun _=>rfl,by kernel_rfl⟩
theorem jpw (mx:Int):(∀vs,ja0 mx 69 vs=none)∧prog.get 69=some z_istrconv_Itoa.cfn:=⟨fun _=>rfl,by kernel_rfl⟩
theorem jjr (mx:Int):(∀vs,ja0 mx 81 vs=none)∧prog.get 81=some z_istrconv_FormatInt.cfn:=⟨fun _=>rfl,by kernel_rfl⟩
theorem jns (mx:Int):(∀vs,ja0 mx 94 vs=none)∧prog.get 94=some z_istrconv_small.cfn:=⟨fun _=>rfl,by kernel_rfl⟩
theorem jjp (mx:Int):(∀vs,ja0 mx 95 vs=none)∧prog.get 95=some z_istrconv_numDigits.cfn:=⟨fun _=>rfl,by kernel_rfl⟩
theorem jhk (mx:Int):(∀vs,ja0 mx 96 vs=none)∧prog.get 96=some z_istrconv_formatBase10.cfn:=⟨fun _=>rfl,by kernel_rfl⟩
theorem jjq (mx:Int):(∀vs,ja0 mx 110 vs=none)∧prog.get 110=some z_istrconv_bool2_int.cfn:=⟨fun _=>rfl,by kernel_rfl⟩
theorem jx4 (mx:Int):(∀vs,ja0 mx 144 vs=none)∧prog.get 144=some z_ends_left.cfn:=⟨fun _=>rfl,by kernel_rfl⟩
theorem jvv (mx:Int):(∀vs,ja0 mx 145 vs=none)∧prog.get 145=some z_ends_right.cfn:=⟨fun _=>rfl,by kernel_rfl⟩
theorem jvw (mx:Int):(∀vs,ja0 mx 146 vs=none)∧prog.get 146=some z_ends_crimp.cfn:=⟨fun _=>rfl,by kernel_rfl⟩
theorem jkd (mx:Int):OKs (BB mx) (ja0 mx) prog 1 [⟨43,[(.dn (.int .i64))],[(.own (.int .i64))],jau jak⟩]:=jbd (m:=0) (d:=0) jan jaf (gok mx) (jga mx) (fun a=>jj5 jak a)
theorem jkc (mx:Int):OKs (BB mx) (ja0 mx) prog 1 [⟨43,[.nl],[(.own (.int .i64))],fun _=>jau jak []⟩]:=jbd (m:=0) (d:=0) jan jaf (gok mx) (jga mx) (fun a=>jh6 jak a)
theorem jd9 (mx:Int):OKs (BB mx) (ja0 mx) prog 1 [⟨43,[(.d (.sl (.int .i64)))],[(.own (.int .i64))],jau jak⟩]:=fun t ht n hn=>by
 rw[List.mem_singleton.1 ht]
 exact juw (jkc mx _ (List.mem_singleton.2 rfl) n (by omega)) (jkd mx _ (List.mem_singleton.2 rfl) n (by omega)) (by simp[Ty.size])
theorem jgp (mx:Int):OKs (BB mx) (ja0 mx) prog 1 [⟨45,[(.dn (.int .u8))],[(.own (.int .u8))],jav jak⟩]:=jbd (m:=0) (d:=0) jan jaf (gok mx) (jee mx) (fun a=>jgm jak a)
theorem jgo (mx:Int):OKs (BB mx) (ja0 mx) prog 1 [⟨45,[.nl],[(.own (.int .u8))],fun _=>jav jak []⟩]:=jbd (m:=0) (d:=0) jan jaf (gok mx) (jee mx) (fun a=>jf0 jak a)
theorem jhc (mx:Int):OKs (BB mx) (ja0 mx) prog 1 [⟨45,[(.d (.sl (.int .u8)))],[(.own (.int .u8))],jav jak⟩]:=fun t ht n hn=>by
 rw[List.mem_singleton.1 ht]
 exact juw (jgo mx _ (List.mem_singleton.2 rfl) n (by omega)) (jgp mx _ (List.mem_singleton.2 rfl) n (by omega)) (by simp[Ty.size])
theorem jgf (mx:Int):OKs (BB mx) (ja0 mx) prog 1 [⟨41,[(.d (.prod (.sl (.int .i64)) (.sl (.int .u8))))],[(.d (.int .i64))],ja5 jak⟩]:=jbd (m:=0) (d:=0) jan jaf (gok mx) (jjy mx) (fun a=>jh2 jak a)
theorem jut (mx:Int):OKs (BB mx) (ja0 mx) prog 1 [⟨21,[(.d (.prod (.sl (.int .u8)) (.sl (.int .u8))))],[(.p (.own (.int .i64)) (.own (.int .u8)))],jdz jak⟩]:=jbd (m:=0) (d:=0) jan jaf (gok mx) (jvt mx) (fun a=>jsw jak a)
theorem jk9 (mx:Int):OKs (BB mx) (ja0 mx) prog 1 [⟨27,[(.d (.sl (.int .i64))),(.d (.sl (.int .i64)))],[(.d .bool)],jb1 jak⟩]:=jbd (m:=0) (d:=0) jan jaf (gok mx) (jls mx) (fun a=>jj4 jak a)
theorem jhb (mx:Int):OKs (BB mx) (ja0 mx) prog 1 [⟨28,[(.d (.sl (.int .u8))),(.d (.sl (.int .u8)))],[(.d .bool)],jba jak⟩]:=jbd (m:=0) (d:=0) jan jaf (gok mx) (jhj mx) (fun a=>jgl jak a)
theorem jk8 (mx:Int):OKs (BB mx) (ja0 mx) prog 2 [⟨13,[(.d (.prod (.sl (.int .i64)) (.sl (.int .u8)))),(.d (.prod (.sl (.int .i64)) (.sl (.int .u8))))],[(.d .bool)],jcy jak⟩]:=jbd (m:=1) (d:=0) (jae (jaj (jk9 mx) (Nat.le_of_ble_eq_true rfl)) (jae (jaj (jhb mx) (Nat.le_of_ble_eq_true rfl)) jan)) jaf (gok mx) (jtl mx) (fun a=>jqd jak a)
theorem jmc (mx:Int):OKs (BB mx) (ja0 mx) prog 1 [⟨109,[(.d (.int .u64))],[(.d (.int .i64))],jfs jak⟩]:=j9g fun az g h=>by simp only[ja0,jdi,jjd,jje,jfo,jne,j2r,j2q,Nat.beq,cond_false] at h ⊢;first | exact h | simp only[h]
theorem jjj (mx:Int):OKs (BB mx) (ja0 mx) prog 1 [⟨108,[(.d (.int .i64))],[(.d (.int .i64))],jec jak⟩]:=j9e fun az g h=>by simp only[ja0,jdi,jjd,jje,jfo,jne,j2r,j2q,Nat.beq,cond_false] at h ⊢;first | exact h | simp only[h]
theorem jji (mx:Int):OKs (BB mx) (ja0 mx) prog 3 [⟨95,[(.d (.int .u64))],[(.d (.int .i64))],jb6 jak⟩]:=jbd (m:=1) (d:=1) (jae (jaj (jjj mx) (Nat.le_of_ble_eq_true rfl)) (jae (jaj (jmc mx) (Nat.le_of_ble_eq_true rfl)) jan)) (ja3 (jjq mx) jaf) (gok mx) (jjp mx) (fun a=>jil jak a)
theorem jjt (mx:Int):OKs (BB mx) (ja0 mx) prog 7 [⟨49,[(.d (.int .i64))],[(.d .str)],jcz jak⟩]:=jbd (m:=3) (d:=3) (jae (jaj (jji mx) (Nat.le_of_ble_eq_true rfl)) jan) (ja3 (jpw mx) (ja3 (jjr mx) (ja3 (jns mx) (ja3 (jhk mx) jaf)))) (gok mx) (jqv mx) (fun a=>jog jak a)
theorem jnh (mx:Int):OKs (BB mx) mm0 prog 1 [⟨41,[(.d (.prod (.sl (.int .i64)) (.sl (.int .u8))))],[(.d (.int .i64))],ja5 jak⟩]:=jbd (m:=0) (d:=0) jan jaf (gok mx) ⟨fun _=>rfl,(jjy mx).2⟩ (fun a=>jh2 jak a)
theorem jsj (mx:Int):OKs (BB mx) (ja0 mx) prog 1 [⟨73,[(.d (.prod (.sl (.int .i64)) (.sl (.int .u8))))],[(.ownx (.int .i64)),(.d (.int .i64))],jdq jak⟩]:=j6g (jnh mx _ (List.mem_singleton.2 rfl) 3 (by decide)) fun az g h=>by simp only[ja0,jdi,h]
theorem joz (mx:Int):OKs (BB mx) (ja0 mx) prog 1 [⟨66,[(.d .str),(.d .str)],[(.ownx .str)],strings_Split jak⟩]:=j2p fun az g h=>by simp only[ja0,jdi,jjd,jje,jfo,Nat.beq,cond_false] at h ⊢;first | exact h | simp only[h]
theorem jqk (mx:Int):OKs (BB mx) (ja0 mx) prog 1 [⟨68,[(.d .str)],[(.d (.int .i64)),.err],jh3 jak⟩]:=j6i (ty:=133) fun az g h=>by simp only[ja0,jdi,jjd,jje,jfo,Nat.beq,cond_false] at h ⊢;first | exact h | simp only[h]
theorem jqj (mx:Int):OKs (BB mx) (ja0 mx) prog 1 [⟨50,[(.d (.sl .str)),(.d .str)],[(.d .str)],strings_Join jak⟩]:=j6c fun az g h=>by simp only[ja0,jdi,jjd,jje,jfo,Nat.beq,cond_false] at h ⊢;first | exact h | simp only[h]
theorem jig (mx:Int):OKs (BB mx) (ja0 mx) prog 1 [⟨67,[(.d (.sl .str)),(.d .str)],[(.d (.int .i64))],jcl jak⟩]:=jbd (m:=0) (d:=0) jan jaf (gok mx) (jit mx) (fun a=>jhq jak a)
theorem jsi (mx:Int):OKs (BB mx) (ja0 mx) prog 8 [⟨30,[(.d (.prod (.sl (.int .i64)) (.sl (.int .u8))))],[(.d .str)],jg8 jak⟩]:=jbd (m:=7) (d:=0) (jae (jaj (jgf mx) (Nat.le_of_ble_eq_true rfl)) (jae (jaj (jjt mx) (Nat.le_of_ble_eq_true rfl)) (jae (jaj (jqj mx) (Nat.le_of_ble_eq_true rfl)) jan))) jaf (gok mx) (jtk mx) (fun a=>jqc jak a)
theorem jqi (mx:Int):OKs (BB mx) (ja0 mx) prog 9 [⟨48,[(.d .str)],[(.p (.ownx (.int .i64)) (.ownx (.int .u8))),(.d (.int .i64))],jf3 jak⟩]:=jbd (m:=7) (d:=1) (jae (jaj (jgf mx) (Nat.le_of_ble_eq_true rfl)) (jae (jaj (jjt mx) (Nat.le_of_ble_eq_true rfl)) (jae (jaj (joz mx) (Nat.le_of_ble_eq_true rfl)) (jae (jaj (jig mx) (Nat.le_of_ble_eq_true rfl)) (jae (jaj (jqk mx) (Nat.le_of_ble_eq_true rfl)) jan))))) (ja3 (jez mx) (ja3 (jem mx) jaf)) (gok mx) (jqu mx) (fun a=>jof jak a)
theorem jke (mx:Int):OKs (BB mx) (ja0 mx) prog 1 [⟨61,[(.own (.int .i64)),(.d (.int .i64)),(.own (.int .i64))],[(.own (.int .i64))],ja9 jak⟩]:=j9i (fun az g h=>by simp only[ja0,jdi,jjd,jje,jfo,jne,j2r,j2q,j6d,j6a,job,Nat.beq,cond_false] at h ⊢;first | exact h | simp only[h])
theorem jjh (mx:Int):OKs (BB mx) (ja0 mx) prog 1 [⟨62,[(.own (.int .i64)),(.d (.int .i64)),(.d (.int .i64)),(.own (.int .i64))],[(.own (.int .i64))],jb3 jak⟩]:=j9c (fun az g h=>by simp only[ja0,jdi,jjd,jje,jfo,jne,j2r,j2q,j6d,j6a,job,Nat.beq,cond_false] at h ⊢;first | exact h | simp only[h])
theorem jma (mx:Int):OKs (BB mx) (ja0 mx) prog 1 [⟨64,[.nl,(.d (.int .i64))],[(.own (.int .i64))],jd5 jak⟩]:=jyo (by rfl) (fun az g h=>by simp only[ja0,jdi,jjd,jje,jfo,jne,j2r,j2q,j6d,j6a,job,Nat.beq,cond_false] at h ⊢;first | exact h | simp only[h])
theorem jhs (mx:Int):OKs (BB mx) (ja0 mx) prog 1 [⟨65,[.nl,(.d (.int .i64))],[(.own (.int .u8))],jcc jak⟩]:=jyo (by rfl) (fun az g h=>by simp only[ja0,jdi,jjd,jje,jfo,jne,j2r,j2q,j6d,j6a,job,Nat.beq,cond_false] at h ⊢;first | exact h | simp only[h])
theorem jf1 (mx:Int):OKs (BB mx) (ja0 mx) prog 2 [⟨42,[(.d (.sl (.int .u8))),(.d (.int .u8))],[(.d .bool)],jaz jak⟩]:=jbd (m:=0) (d:=1) jan (ja3 (jhi mx) jaf) (gok mx) (jf2 mx) (fun a=>jfq jak a)
theorem jgg (mx:Int):OKs (BB mx) (ja0 mx) prog 3 [⟨22,[(.d (.prod (.sl (.int .i64)) (.sl (.int .u8))))],[(.d (.int .i64))],jbt jak⟩]:=jbd (m:=2) (d:=0) (jae (jaj (jgf mx) (Nat.le_of_ble_eq_true rfl)) (jae (jaj (jf1 mx) (Nat.le_of_ble_eq_true rfl)) jan)) jaf (gok mx) (jq0 mx) (fun a=>jpn jak a)
theorem jo2 (mx:Int):OKs (BB mx) (ja0 mx) prog 1 [⟨144,[(.d (.prod (.sl (.int .i64)) (.sl (.int .u8)))),(.d (.int .i64))],[(.d .bool)],je6 jak⟩]:=jbd (m:=0) (d:=0) jan jaf (gok mx) (jx4 mx) (fun a=>jvh jak a)
theorem jm4 (mx:Int):OKs (BB mx) (ja0 mx) prog 1 [⟨145,[(.d (.prod (.sl (.int .i64)) (.sl (.int .u8)))),(.d (.int .i64))],[(.d .bool)],jd0 jak⟩]:=jbd (m:=0) (d:=0) jan jaf (gok mx) (jvv mx) (fun a=>jtc jak a)
theorem jm5 (mx:Int):OKs (BB mx) (ja0 mx) prog 1 [⟨146,[(.d (.prod (.sl (.int .i64)) (.sl (.int .u8)))),(.d (.int .i64))],[(.d .bool)],jd1 jak⟩]:=jbd (m:=0) (d:=0) jan jaf (gok mx) (jvw mx) (fun a=>jtd jak a)
theorem jii (mx:Int):OKs (BB mx) (ja0 mx) prog 3 [⟨24,[(.d (.prod (.sl (.int .i64)) (.sl (.int .u8))))],[(.ownx (.prod (.int .u8) (.int .i64)))],jch jak⟩]:=jbd (m:=1) (d:=1) (jae (jaj (jo2 mx) (Nat.le_of_ble_eq_true rfl)) (jae (jaj (jm4 mx) (Nat.le_of_ble_eq_true rfl)) (jae (jaj (jm5 mx) (Nat.le_of_ble_eq_true rfl)) jan))) (ja3 (jef mx) jaf) (gok mx) (jvu mx) (fun a=>jtb jak a)
theorem jf8 (mx:Int):OKs (BB mx) (ja0 mx) prog 4 [⟨11,[(.d (.prod (.sl (.int .i64)) (.sl (.int .u8))))],[(.ownx (.prod (.int .u8) (.int .i64))),(.d (.int .i64))],jbw jak⟩]:=jbd (m:=3) (d:=0) (jae (jaj (jgg mx) (Nat.le_of_ble_eq_true rfl)) (jae (jaj (jii mx) (Nat.le_of_ble_eq_true rfl)) jan)) jaf (gok mx) (jvy mx) (fun a=>jtf jak a)
theorem jrb (mx:Int):OKs (BB mx) (ja0 mx) prog 3 [⟨23,[(.d (.sl (.int .i64))),(.d (.sl (.int .u8)))],[(.p (.ownx (.int .i64)) (.ownx (.int .u8)))],je1 jak⟩]:=jbd (m:=1) (d:=1) (jae (jaj (jd9 mx) (Nat.le_of_ble_eq_true rfl)) (jae (jaj (jhc mx) (Nat.le_of_ble_eq_true rfl)) jan)) (ja3 (jez mx) (ja3 (jem mx) jaf)) (gok mx) (j1s mx) (fun a=>jxr jak a)
theorem jkf (mx:Int):OKs (BB mx) (ja0 mx) prog 2 [⟨46,[(.d (.sl (.sl (.int .i64))))],[(.own (.int .i64))],jbu jak⟩]:=jbd (m:=1) (d:=0) (jae (jaj (jma mx) (Nat.le_of_ble_eq_true rfl)) jan) jaf (gok mx) (jkr mx) (fun a=>jjf jak a)
theorem jgq (mx:Int):OKs (BB mx) (ja0 mx) prog 2 [⟨47,[(.d (.sl (.sl (.int .u8))))],[(.own (.int .u8))],ja6 jak⟩]:=jbd (m:=1) (d:=0) (jae (jaj (jhs mx) (Nat.le_of_ble_eq_true rfl)) jan) jaf (gok mx) (jgz mx) (fun a=>jgd jak a)
theorem jkh (mx:Int):OKs (BB mx) (ja0 mx) prog 4 [⟨25,[(.d (.prod (.sl (.int .i64)) (.sl (.int .u8)))),(.d (.prod (.int .u8) (.int .i64)))],[(.p (.ownx (.int .i64)) (.ownx (.int .u8)))],jbh jak⟩]:=jbd (m:=3) (d:=0) (jae (jaj (jrb mx) (Nat.le_of_ble_eq_true rfl)) (jae (jaj (jkf mx) (Nat.le_of_ble_eq_true rfl)) (jae (jaj (jgq mx) (Nat.le_of_ble_eq_true rfl)) jan))) jaf (gok mx) (jx5 mx) (fun a=>jvi jak a)
theorem jo3 (mx:Int):OKs (BB mx) (ja0 mx) prog 5 [⟨15,[(.d (.prod (.sl (.int .i64)) (.sl (.int .u8)))),(.d (.prod (.int .u8) (.int .i64)))],[(.p (.ownx (.int .i64)) (.ownx (.int .u8))),(.d (.int .i64))],jfw jak⟩]:=jbd (m:=4) (d:=0) (jae (jaj (jgg mx) (Nat.le_of_ble_eq_true rfl)) (jae (jaj (jkh mx) (Nat.le_of_ble_eq_true rfl)) (jae (jaj (jo2 mx) (Nat.le_of_ble_eq_true rfl)) (jae (jaj (jm4 mx) (Nat.le_of_ble_eq_true rfl)) (jae (jaj (jm5 mx) (Nat.le_of_ble_eq_true rfl)) jan))))) jaf (gok mx) (j49 mx) (fun a=>j1g jak a)
theorem jkj (mx:Int):OKs (BB mx) (ja0 mx) prog 6 [⟨9,[(.d (.prod (.sl (.int .i64)) (.sl (.int .u8))))],[(.ownx (.prod (.int .u8) (.int .i64))),(.p (.ownx (.int .i64)) (.ownx (.int .u8))),(.d (.int .i64))],jdk jak⟩]:=jbd (m:=4) (d:=1) (jae (jaj (jgg mx) (Nat.le_of_ble_eq_true rfl)) (jae (jaj (jrb mx) (Nat.le_of_ble_eq_true rfl)) (jae (jaj (jii mx) (Nat.le_of_ble_eq_true rfl)) (jae (jaj (jkh mx) (Nat.le_of_ble_eq_true rfl)) jan)))) (ja3 (jef mx) jaf) (gok mx) (jx7 mx) (fun a=>jvk jak a)
theorem jdx (mx:Int):OKs (BB mx) (ja0 mx) prog 7 [⟨10,[(.d (.prod (.sl (.int .i64)) (.sl (.int .u8))))],[(.d .bool),(.d (.int .i64))],ja2 jak⟩]:=jbd (m:=6) (d:=0) (jae (jaj (jkj mx) (Nat.le_of_ble_eq_true rfl)) jan) jaf (gok mx) (jvz mx) (fun a=>jtg jak a)
theorem juu (mx:Int):OKs (BB mx) (ja0 mx) prog 1 [⟨60,[(.d (.prod (.sl (.int .i64)) (.sl (.int .u8)))),(.d (.int .i64))],[(.d .bool)],jde jak⟩]:=jbd (m:=0) (d:=0) jan jaf (gok mx) (jvx mx) (fun a=>jte jak a)
theorem jqn (mx:Int):OKs (BB mx) (ja0 mx) prog 2 [⟨57,[(.d (.sl (.int .i64))),(.d (.int .i64)),(.d (.int .i64))],[(.own (.int .i64))],jc5 jak⟩]:=jbd (m:=1) (d:=0) (jae (jaj (jd9 mx) (Nat.le_of_ble_eq_true rfl)) jan) jaf (gok mx) (jq1 mx) (fun a=>jpo jak a)
theorem jf7 (mx:Int):OKs (BB mx) (ja0 mx) prog 1 [⟨59,[(.d (.sl (.int .i64))),(.d (.int .i64))],[(.d (.int .i64))],jax jak⟩]:=jbd (m:=0) (d:=0) jan jaf (gok mx) (jlr mx) (fun a=>jj3 jak a)
theorem jw8 (mx:Int):OKs (BB mx) (ja0 mx) prog 4 [⟨37,[(.d (.prod (.sl (.int .i64)) (.sl (.int .u8)))),(.d (.prod (.int .u8) (.int .i64))),(.d (.sl (.int .i64)))],[(.own (.int .i64))],jc4 jak⟩]:=jbd (m:=2) (d:=1) (jae (jaj (jd9 mx) (Nat.le_of_ble_eq_true rfl)) (jae (jaj (jqn mx) (Nat.le_of_ble_eq_true rfl)) (jae (jaj (jf7 mx) (Nat.le_of_ble_eq_true rfl)) (jae (jaj (juu mx) (Nat.le_of_ble_eq_true rfl)) (jae (jaj (jke mx) (Nat.le_of_ble_eq_true rfl)) (jae (jaj (jjh mx) (Nat.le_of_ble_eq_true rfl)) jan)))))) (ja3 (jjn mx) jaf) (gok mx) (jx3 mx) (fun a=>jvf jak a)
theorem jid (mx:Int):∀n,OKs (BB mx) (ja0 mx) prog (4+n*1) [⟨36,[(.d (.prod (.sl (.int .i64)) (.sl (.int .u8)))),(.sf 36)],[(.own (.int .i64))],jcb jak n⟩]
 | 0=>fun t ht n hn=>by
   rw[List.mem_singleton.1 ht]
   intro a r hr
   cases hr
 | n+1=>jaj (jbd (m:=4+n*1) (d:=0) (jae (jid mx n) (jae (jaj (jii mx) (by omega)) (jae (jaj (jkh mx) (by omega)) (jae (jaj (jw8 mx) (by omega)) jan)))) jaf (gok mx) (jq2 mx) (fun a=>jpp jak _ a)) (by omega)
theorem jqo (mx:Int):OKs (BB mx) (ja0 mx) prog 44 [⟨36,[(.d (.prod (.sl (.int .i64)) (.sl (.int .u8)))),(.sf 36)],[(.own (.int .i64))],jf9 jak⟩]:=jid mx 40
theorem jki (mx:Int):OKs (BB mx) (ja0 mx) prog 46 [⟨18,[(.d (.prod (.sl (.int .i64)) (.sl (.int .u8))))],[(.ownx (.int .i64)),(.d (.int .i64))],jb7 jak⟩]:=jbd (m:=44) (d:=1) (jae (jaj (jdx mx) (Nat.le_of_ble_eq_true rfl)) (jae (jaj (jqo mx) (Nat.le_of_ble_eq_true rfl)) jan)) (ja3 (jez mx) jaf) (gok mx) (jx6 mx) (fun a=>jvj jak a)
theorem jgr (mx:Int):OKs (BB mx) (ja0 mx) prog 2 [⟨8,[(.d (.prod (.sl (.int .u8)) (.sl (.int .u8))))],[(.p (.own (.int .i64)) (.own (.int .u8)))],jcw jak⟩]:=jbd (m:=1) (d:=0) (jae (jaj (jut mx) (Nat.le_of_ble_eq_true rfl)) jan) jaf (gok mx) (j48 mx) (fun a=>j05 jak a)
theorem jsl (mx:Int):OKs (BB mx) (ja0 mx) prog 10 [⟨29,[(.d .str)],[(.p (.ownx (.int .i64)) (.ownx (.int .u8)))],jhd jak⟩]:=jbd (m:=9) (d:=0) (jae (jaj (jqi mx) (Nat.le_of_ble_eq_true rfl)) jan) jaf (gok mx) (jto mx) (fun a=>jqp jak a)
theorem jco (mx:Int):OKs (BB mx) (ja0 mx) prog 48 [⟨14,[],[(.d .bool)],jao jak⟩]:=jbd (m:=46) (d:=1) (jae (jaj (jkj mx) (Nat.le_of_ble_eq_true rfl)) (jae (jaj (jdx mx) (Nat.le_of_ble_eq_true rfl)) (jae (jaj (jki mx) (Nat.le_of_ble_eq_true rfl)) (jae (jaj (jsl mx) (Nat.le_of_ble_eq_true rfl)) (jae (jaj (jsi mx) (Nat.le_of_ble_eq_true rfl)) jan))))) (ja3 (jm9 mx) jaf) (gok mx) (jtp mx) (fun a=>jqq jak a)
theorem jjv (mx:Int):OKs (BB mx) (ja0 mx) prog 1 [⟨12,[(.d (.prod (.sl (.int .i64)) (.sl (.int .u8)))),(.d (.prod (.int .u8) (.int .i64)))],[(.p (.own (.int .i64)) (.own (.int .u8))),(.d .bool)],jb5 jak⟩]:=jbd (m:=0) (d:=0) jan jaf (gok mx) (jqz mx) (fun a=>jpb jak a)
theorem jmd (mx:Int):OKs (BB mx) (ja0 mx) prog 49 [⟨4,[(.d (.prod (.sl (.int .u8)) (.sl (.int .u8)))),(.d (.prod (.int .u8) (.int .i64)))],[(.d .bool)],jcf jak⟩]:=jbd (m:=48) (d:=0) (jae (jaj (jgr mx) (Nat.le_of_ble_eq_true rfl)) (jae (jaj (jf8 mx) (Nat.le_of_ble_eq_true rfl)) (jae (jaj (jjv mx) (Nat.le_of_ble_eq_true rfl)) (jae (jaj (jk8 mx) (Nat.le_of_ble_eq_true rfl)) (jae (jaj (jco mx) (Nat.le_of_ble_eq_true rfl)) (jae (jaj (jo3 mx) (Nat.le_of_ble_eq_true rfl)) jan)))))) jaf (gok mx) (jmv mx) (fun a=>jlf jak a)
theorem jnj (mx:Int):OKs (BB mx) (ja0 mx) prog 49 [⟨3,[(.d (.prod (.sl (.int .u8)) (.sl (.int .u8))))],[(.d .bool)],jcu jak⟩]:=jbd (m:=48) (d:=0) (jae (jaj (jgr mx) (Nat.le_of_ble_eq_true rfl)) (jae (jaj (jkj mx) (Nat.le_of_ble_eq_true rfl)) (jae (jaj (jdx mx) (Nat.le_of_ble_eq_true rfl)) (jae (jaj (jf8 mx) (Nat.le_of_ble_eq_true rfl)) (jae (jaj (jjv mx) (Nat.le_of_ble_eq_true rfl)) (jae (jaj (jk8 mx) (Nat.le_of_ble_eq_true rfl)) (jae (jaj (jco mx) (Nat.le_of_ble_eq_true rfl)) jan))))))) jaf (gok mx) (jnq mx) (fun a=>jmn jak a)
theorem jo1 (mx:Int):OKs (BB mx) (ja0 mx) prog 49 [⟨19,[(.d (.prod (.sl (.int .u8)) (.sl (.int .u8)))),(.d (.sl (.int .u8)))],[(.d .bool)],jdc jak⟩]:=jbd (m:=48) (d:=0) (jae (jaj (jgr mx) (Nat.le_of_ble_eq_true rfl)) (jae (jaj (jdx mx) (Nat.le_of_ble_eq_true rfl)) (jae (jaj (jf8 mx) (Nat.le_of_ble_eq_true rfl)) (jae (jaj (jco mx) (Nat.le_of_ble_eq_true rfl)) (jae (jaj (jo3 mx) (Nat.le_of_ble_eq_true rfl)) jan))))) jaf (gok mx) (jpv mx) (fun a=>jnl jak a)
theorem jju (mx:Int):OKs (BB mx) (ja0 mx) prog 1 [⟨40,[(.d (.prod (.sl (.int .i64)) (.sl (.int .u8)))),(.d (.int .i64)),(.d (.int .i64))],[(.d .bool)],jbs jak⟩]:=jbd (m:=0) (d:=0) jan jaf (gok mx) (jqy mx) (fun a=>jpa jak a)
theorem jus (mx:Int):OKs (BB mx) (ja0 mx) prog 2 [⟨39,[(.d (.prod (.sl (.int .i64)) (.sl (.int .u8)))),(.d (.int .i64)),(.d .bool),(.d (.int .i64)),(.d (.int .i64))],[(.own (.int .i64))],jdb jak⟩]:=jbd (m:=1) (d:=0) (jae (jaj (jju mx) (Nat.le_of_ble_eq_true rfl)) jan) jaf (gok mx) (jvs mx) (fun a=>jsu jak a)
theorem jnk (mx:Int):OKs (BB mx) (ja0 mx) prog 50 [⟨20,[(.d (.prod (.sl (.int .u8)) (.sl (.int .u8))))],[(.d .bool)],jcv jak⟩]:=jbd (m:=48) (d:=1) (jae (jaj (jgr mx) (Nat.le_of_ble_eq_true rfl)) (jae (jaj (jf8 mx) (Nat.le_of_ble_eq_true rfl)) (jae (jaj (jco mx) (Nat.le_of_ble_eq_true rfl)) (jae (jaj (jo3 mx) (Nat.le_of_ble_eq_true rfl)) (jae (jaj (jki mx) (Nat.le_of_ble_eq_true rfl)) (jae (jaj (jus mx) (Nat.le_of_ble_eq_true rfl)) (jae (jaj (jju mx) (Nat.le_of_ble_eq_true rfl)) jan))))))) (ja3 (jm9 mx) jaf) (gok mx) (jnr mx) (fun a=>jmo jak a)
theorem j0z (mx:Int):OKs (BB mx) (ja0 mx) prog 2 [⟨51,[(.d (.prod (.sl (.int .i64)) (.sl (.int .u8))))],[(.p (.d (.prod (.sl (.int .i64)) (.sl (.int .u8)))) (.ownx (.int .i64))),(.d (.int .i64))],jf5 jak⟩]:=jbd (m:=1) (d:=0) (jae (jaj (jsj mx) (Nat.le_of_ble_eq_true rfl)) jan) jaf (gok mx) (j1r mx) (fun a=>jw2 jak a)
theorem jkg (mx:Int):OKs (BB mx) (ja0 mx) prog 1 [⟨53,[(.d (.prod (.prod (.sl (.int .i64)) (.sl (.int .u8))) (.sl (.int .i64)))),(.d (.int .i64))],[(.d (.int .i64))],jbv jak⟩]:=jbd (m:=0) (d:=0) jan jaf (gok mx) (jks mx) (fun a=>jjg jak a)
theorem jmb (mx:Int):OKs (BB mx) (ja0 mx) prog 1 [⟨54,[(.d (.prod (.prod (.sl (.int .i64)) (.sl (.int .u8))) (.sl (.int .i64)))),(.d (.int .i64))],[(.d (.int .i64))],jce jak⟩]:=jbd (m:=0) (d:=0) jan jaf (gok mx) (jmu mx) (fun a=>jk3 jak a)
theorem jsk (mx:Int):OKs (BB mx) (ja0 mx) prog 1 [⟨33,[(.d (.sl (.int .i64)))],[(.d (.arr 32 (.int .i64)))],jet jak⟩]:=jbd (m:=0) (d:=0) jan jaf (gok mx) (jtm mx) (fun a=>jqf jak a)
theorem jih (mx:Int):OKs (BB mx) (ja0 mx) prog 2 [⟨52,[(.d (.sl (.int .i64))),(.d (.int .i64))],[(.d .bool)],jbk jak⟩]:=jbd (m:=1) (d:=0) (jae (jaj (jf7 mx) (Nat.le_of_ble_eq_true rfl)) jan) jaf (gok mx) (jiu mx) (fun a=>jhr jak a)
theorem jql (mx:Int):OKs (BB mx) (ja0 mx) prog 3 [⟨32,[(.d (.prod (.sl (.int .i64)) (.sl (.int .u8)))),(.d (.sl (.int .i64)))],[(.p (.d (.prod (.sl (.int .i64)) (.sl (.int .u8)))) (.ownx (.int .i64))),(.d (.int .i64))],jc2 jak⟩]:=jbd (m:=2) (d:=0) (jae (jaj (j0z mx) (Nat.le_of_ble_eq_true rfl)) (jae (jaj (jih mx) (Nat.le_of_ble_eq_true rfl)) jan)) jaf (gok mx) (jqw mx) (fun a=>jor jak a)
theorem jo0 (mx:Int):OKs (BB mx) (ja0 mx) prog 1 [⟨55,[(.d (.arr 32 (.int .i64))),(.d (.int .i64)),(.d (.int .i64))],[(.d .bool)],jbq jak⟩]:=jbd (m:=0) (d:=0) jan jaf (gok mx) (jpu mx) (fun a=>jng jak a)
theorem jur (mx:Int):OKs (BB mx) (ja0 mx) prog 1 [⟨35,[(.d (.arr 32 (.int .i64))),(.d (.int .i64))],[(.d (.int .u8))],jeu jak⟩]:=jbd (m:=0) (d:=0) jan jaf (gok mx) (jvr mx) (fun a=>jse jak a)
theorem jht (mx:Int):OKs (BB mx) (ja0 mx) prog 3 [⟨34,[(.d (.prod (.prod (.sl (.int .i64)) (.sl (.int .u8))) (.sl (.int .i64)))),(.d (.arr 32 (.int .i64)))],[(.d .bool)],ja4 jak⟩]:=jbd (m:=1) (d:=1) (jae (jaj (jkg mx) (Nat.le_of_ble_eq_true rfl)) (jae (jaj (jmb mx) (Nat.le_of_ble_eq_true rfl)) (jae (jaj (jo0 mx) (Nat.le_of_ble_eq_true rfl)) jan))) (ja3 (jjo mx) jaf) (gok mx) (jhu mx) (fun a=>jg9 jak a)
theorem jla (mx:Int):OKs (BB mx) (ja0 mx) prog 4 [⟨17,[(.d (.prod (.sl (.int .i64)) (.sl (.int .u8)))),(.d (.sl (.int .i64)))],[(.d (.int .i64))],jca jak⟩]:=jbd (m:=3) (d:=0) (jae (jaj (jql mx) (Nat.le_of_ble_eq_true rfl)) (jae (jaj (jsk mx) (Nat.le_of_ble_eq_true rfl)) (jae (jaj (jht mx) (Nat.le_of_ble_eq_true rfl)) (jae (jaj (jur mx) (Nat.le_of_ble_eq_true rfl)) jan)))) jaf (gok mx) (jtn mx) (fun a=>jqg jak a)
theorem jqm (mx:Int):OKs (BB mx) (ja0 mx) prog 1 [⟨16,[(.d (.int .i64))],[(.own (.sl (.int .i64)))],jdy jak⟩]:=jbd (m:=0) (d:=0) jan jaf (gok mx) (jqx mx) (fun a=>jo9 jak a)
theorem jmf (mx:Int):OKs (BB mx) (ja0 mx) prog 49 [⟨5,[(.d (.prod (.sl (.int .u8)) (.sl (.int .u8))))],[(.d .bool)],jcg jak⟩]:=jbd (m:=48) (d:=0) (jae (jaj (jgr mx) (Nat.le_of_ble_eq_true rfl)) (jae (jaj (jdx mx) (Nat.le_of_ble_eq_true rfl)) (jae (jaj (jco mx) (Nat.le_of_ble_eq_true rfl)) (jae (jaj (jqm mx) (Nat.le_of_ble_eq_true rfl)) (jae (jaj (jla mx) (Nat.le_of_ble_eq_true rfl)) jan))))) jaf (gok mx) (jmx mx) (fun a=>jlh jak a)
theorem jni (mx:Int):OKs (BB mx) (ja0 mx) prog 49 [⟨6,[(.d (.prod (.sl (.int .u8)) (.sl (.int .u8)))),(.d .bool)],[(.d .bool)],jct jak⟩]:=jbd (m:=48) (d:=0) (jae (jaj (jgr mx) (Nat.le_of_ble_eq_true rfl)) (jae (jaj (jdx mx) (Nat.le_of_ble_eq_true rfl)) (jae (jaj (jco mx) (Nat.le_of_ble_eq_true rfl)) (jae (jaj (jla mx) (Nat.le_of_ble_eq_true rfl)) (jae (jaj (jki mx) (Nat.le_of_ble_eq_true rfl)) jan))))) jaf (gok mx) (jnp mx) (fun a=>jmm jak a)
theorem jme (mx:Int):OKs (BB mx) (ja0 mx) prog 51 [⟨7,[],[(.d .bool)],jeb jak⟩]:=jbd (m:=50) (d:=0) (jae (jaj (jnj mx) (Nat.le_of_ble_eq_true rfl)) (jae (jaj (jmd mx) (Nat.le_of_ble_eq_true rfl)) (jae (jaj (jmf mx) (Nat.le_of_ble_eq_true rfl)) (jae (jaj (jni mx) (Nat.le_of_ble_eq_true rfl)) (jae (jaj (jco mx) (Nat.le_of_ble_eq_true rfl)) (jae (jaj (jo1 mx) (Nat.le_of_ble_eq_true rfl)) (jae (jaj (jnk mx) (Nat.le_of_ble_eq_true rfl)) jan))))))) jaf (gok mx) (jmw mx) (fun a=>jlg jak a)
end
end Vm
end Go.Proofs.YtldgdgacdcenkaaGreatDoor
