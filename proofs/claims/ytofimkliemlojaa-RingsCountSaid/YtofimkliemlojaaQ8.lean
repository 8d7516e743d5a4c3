/-
  The contracts of the program's functions, one after another. (Printed by a program.)
-/
import Derived.Test.YtofimkliemlojaaQ7
import Derived.Test.YtofimkliemlojaaSM
set_option linter.unusedSimpArgs false
set_option linter.unusedVariables false
set_option linter.unusedSectionVars false
set_option linter.unnecessarySimpa false
namespace Go.Proofs.Ytofimkliemlojaa
namespace Vm
open Go Go.Vm Go.Vm.W Go.Vm.X
noncomputable section
set_option maxRecDepth 100000
theorem gok (mx:Int):GRel (BB mx) nu0 GG:=gok_of (B:=BB mx) (es:=ex++es) (H0_eq mx).symm (l:=GM) (by kernel_rfl) (by kernel_rfl)
theorem c_law22_RingsCount (mx:Int):(∀vs,told mx 4 vs=none)∧prog.get 4=some z_law22_RingsCount.cfn:=⟨fun _=>rfl,by kernel_rfl⟩
theorem c_law22_N_Of (mx:Int):(∀vs,told mx 9 vs=none)∧prog.get 9=some z_law22_N_Of.cfn:=⟨fun _=>rfl,by kernel_rfl⟩
theorem c_rings_Check (mx:Int):(∀vs,told mx 11 vs=none)∧prog.get 11=some z_rings_Check.cfn:=⟨fun _=>rfl,by kernel_rfl⟩
theorem c_rings_Valid (mx:Int):(∀vs,told mx 12 vs=none)∧prog.get 12=some z_rings_Valid.cfn:=⟨fun _=>rfl,by kernel_rfl⟩
theorem c_law22_check (mx:Int):(∀vs,told mx 13 vs=none)∧prog.get 13=some z_law22_check.cfn:=⟨fun _=>rfl,by kernel_rfl⟩
theorem c_law22_lives (mx:Int):(∀vs,told mx 14 vs=none)∧prog.get 14=some z_law22_lives.cfn:=⟨fun _=>rfl,by kernel_rfl⟩
theorem c_law22_orders (mx:Int):(∀vs,told mx 15 vs=none)∧prog.get 15=some z_law22_orders.cfn:=⟨fun _=>rfl,by kernel_rfl⟩
theorem c_rings_Least (mx:Int):(∀vs,told mx 16 vs=none)∧prog.get 16=some z_rings_Least.cfn:=⟨fun _=>rfl,by kernel_rfl⟩
theorem c_law22_list (mx:Int):(∀vs,told mx 17 vs=none)∧prog.get 17=some z_law22_list.cfn:=⟨fun _=>rfl,by kernel_rfl⟩
theorem c_rings_Count (mx:Int):(∀vs,told mx 18 vs=none)∧prog.get 18=some z_rings_Count.cfn:=⟨fun _=>rfl,by kernel_rfl⟩
theorem c_rings_First (mx:Int):(∀vs,told mx 19 vs=none)∧prog.get 19=some z_rings_First.cfn:=⟨fun _=>rfl,by kernel_rfl⟩
theorem c_law22_ends (mx:Int):(∀vs,told mx 20 vs=none)∧prog.get 20=some z_law22_ends.cfn:=⟨fun _=>rfl,by kernel_rfl⟩
theorem c_rings_Difference (mx:Int):(∀vs,told mx 26 vs=none)∧prog.get 26=some z_rings_Difference.cfn:=⟨fun _=>rfl,by kernel_rfl⟩
theorem c_rings_Kinds (mx:Int):(∀vs,told mx 27 vs=none)∧prog.get 27=some z_rings_Kinds.cfn:=⟨fun _=>rfl,by kernel_rfl⟩
theorem c_law16_T_Of (mx:Int):(∀vs,told mx 29 vs=none)∧prog.get 29=some z_law16_T_Of.cfn:=⟨fun _=>rfl,by kernel_rfl⟩
theorem c_rings_listed (mx:Int):(∀vs,told mx 30 vs=none)∧prog.get 30=some z_rings_listed.cfn:=⟨fun _=>rfl,by kernel_rfl⟩
theorem c_rings_of (mx:Int):(∀vs,told mx 31 vs=none)∧prog.get 31=some z_rings_of.cfn:=⟨fun _=>rfl,by kernel_rfl⟩
theorem c_rings_rank (mx:Int):(∀vs,told mx 32 vs=none)∧prog.get 32=some z_rings_rank.cfn:=⟨fun _=>rfl,by kernel_rfl⟩
theorem c_rings_folded_crosses (mx:Int):(∀vs,told mx 33 vs=none)∧prog.get 33=some z_rings_folded_crosses.cfn:=⟨fun _=>rfl,by kernel_rfl⟩
theorem c_rings_folded_wrong (mx:Int):(∀vs,told mx 34 vs=none)∧prog.get 34=some z_rings_folded_wrong.cfn:=⟨fun _=>rfl,by kernel_rfl⟩
theorem c_law22_fits (mx:Int):(∀vs,told mx 35 vs=none)∧prog.get 35=some z_law22_fits.cfn:=⟨fun _=>rfl,by kernel_rfl⟩
theorem c_rings_folded_least (mx:Int):(∀vs,told mx 36 vs=none)∧prog.get 36=some z_rings_folded_least.cfn:=⟨fun _=>rfl,by kernel_rfl⟩
theorem c_rings_searched (mx:Int):(∀vs,told mx 37 vs=none)∧prog.get 37=some z_rings_searched.cfn:=⟨fun _=>rfl,by kernel_rfl⟩
theorem c_rings_ways (mx:Int):(∀vs,told mx 38 vs=none)∧prog.get 38=some z_rings_ways.cfn:=⟨fun _=>rfl,by kernel_rfl⟩
theorem c_rings_folded_behind (mx:Int):(∀vs,told mx 41 vs=none)∧prog.get 41=some z_rings_folded_behind.cfn:=⟨fun _=>rfl,by kernel_rfl⟩
theorem c_slices_Clip_int (mx:Int):(∀vs,told mx 43 vs=none)∧prog.get 43=some z_slices_Clip_int.cfn:=⟨fun _=>rfl,by kernel_rfl⟩
theorem c_slices_Clone_int (mx:Int):(∀vs,told mx 44 vs=none)∧prog.get 44=some z_slices_Clone_int.cfn:=⟨fun _=>rfl,by kernel_rfl⟩
theorem c_rings_folded_kind (mx:Int):(∀vs,told mx 48 vs=none)∧prog.get 48=some z_rings_folded_kind.cfn:=⟨fun _=>rfl,by kernel_rfl⟩
theorem c_slices_Contains_int (mx:Int):(∀vs,told mx 53 vs=none)∧prog.get 53=some z_slices_Contains_int.cfn:=⟨fun _=>rfl,by kernel_rfl⟩
theorem c_rings_folded_from (mx:Int):(∀vs,told mx 54 vs=none)∧prog.get 54=some z_rings_folded_from.cfn:=⟨fun _=>rfl,by kernel_rfl⟩
theorem c_rings_folded_to (mx:Int):(∀vs,told mx 55 vs=none)∧prog.get 55=some z_rings_folded_to.cfn:=⟨fun _=>rfl,by kernel_rfl⟩
theorem c_rings_folded_between (mx:Int):(∀vs,told mx 56 vs=none)∧prog.get 56=some z_rings_folded_between.cfn:=⟨fun _=>rfl,by kernel_rfl⟩
theorem c_rings_folded_beside (mx:Int):(∀vs,told mx 57 vs=none)∧prog.get 57=some z_rings_folded_beside.cfn:=⟨fun _=>rfl,by kernel_rfl⟩
theorem c_rings_ways_c1 (mx:Int):(∀vs,told mx 58 vs=none)∧prog.get 58=some z_rings_ways_c1.cfn:=⟨fun _=>rfl,by kernel_rfl⟩
theorem c_slices_Index_int (mx:Int):(∀vs,told mx 70 vs=none)∧prog.get 70=some z_slices_Index_int.cfn:=⟨fun _=>rfl,by kernel_rfl⟩
theorem oa_slices_Clone_int (mx:Int):OKs (BB mx) (told mx) prog 1 [⟨44,[(.dn (.int .i64))],[(.own (.int .i64))],slices_Clone_int fuel⟩]:=fx_ok (m:=0) (d:=0) OKs_nil CodeOK_nil (gok mx) (c_slices_Clone_int mx) (fun a=>slices_Clone_int_eq fuel a)
theorem ob_slices_Clone_int (mx:Int):OKs (BB mx) (told mx) prog 1 [⟨44,[.nl],[(.own (.int .i64))],fun _=>slices_Clone_int fuel []⟩]:=fx_ok (m:=0) (d:=0) OKs_nil CodeOK_nil (gok mx) (c_slices_Clone_int mx) (fun a=>slices_Clone_int_n_eq fuel a)
theorem o_slices_Clone_int (mx:Int):OKs (BB mx) (told mx) prog 1 [⟨44,[(.d (.sl (.int .i64)))],[(.own (.int .i64))],slices_Clone_int fuel⟩]:=fun t ht n hn=>by
 rw[List.mem_singleton.1 ht]
 exact nil_split (ob_slices_Clone_int mx _ (List.mem_singleton.2 rfl) n (by omega)) (oa_slices_Clone_int mx _ (List.mem_singleton.2 rfl) n (by omega)) (by simp[Ty.size])
theorem o_slices_Insert_int (mx:Int):OKs (BB mx) (told mx) prog 1 [⟨59,[(.own (.int .i64)),(.d (.int .i64)),(.own (.int .i64))],[(.own (.int .i64))],slices_Insert_int fuel⟩]:=tIns_TE (fun az g h=>by simp only[told,memoOr,tIns,tRep,tGrow,Nat.beq,cond_false] at h ⊢;first | exact h | simp only[h])
theorem o_law16_T_Of (mx:Int):OKs (BB mx) (told mx) prog 1 [⟨29,[(.d (.prod (.sl (.int .u8)) (.sl (.int .u8))))],[(.p (.own (.int .i64)) (.own (.int .u8)))],law16_T_Of fuel⟩]:=fx_ok (m:=0) (d:=0) OKs_nil CodeOK_nil (gok mx) (c_law16_T_Of mx) (fun a=>law16_T_Of_eq fuel a)
theorem o_rings_Check (mx:Int):OKs (BB mx) (told mx) prog 1 [⟨11,[(.d (.prod (.sl (.int .i64)) (.sl (.int .u8))))],[(.d (.int .i64))],rings_Check fuel⟩]:=fx_ok (m:=0) (d:=0) OKs_nil CodeOK_nil (gok mx) (c_rings_Check mx) (fun a=>rings_Check_eq fuel a)
theorem o_rings_of (mx:Int):OKs (BB mx) (told mx) prog 1 [⟨31,[(.d (.prod (.sl (.int .i64)) (.sl (.int .u8))))],[(.p (.d (.prod (.sl (.int .i64)) (.sl (.int .u8)))) (.own (.int .i64)))],rings_of fuel⟩]:=fx_ok (m:=0) (d:=0) OKs_nil CodeOK_nil (gok mx) (c_rings_of mx) (fun a=>rings_of_eq fuel a)
theorem o_rings_folded_from (mx:Int):OKs (BB mx) (told mx) prog 1 [⟨54,[(.d (.prod (.prod (.sl (.int .i64)) (.sl (.int .u8))) (.sl (.int .i64)))),(.d (.int .i64))],[(.d (.int .i64))],rings_folded_from fuel⟩]:=fx_ok (m:=0) (d:=0) OKs_nil CodeOK_nil (gok mx) (c_rings_folded_from mx) (fun a=>rings_folded_from_eq fuel a)
theorem o_rings_folded_to (mx:Int):OKs (BB mx) (told mx) prog 1 [⟨55,[(.d (.prod (.prod (.sl (.int .i64)) (.sl (.int .u8))) (.sl (.int .i64)))),(.d (.int .i64))],[(.d (.int .i64))],rings_folded_to fuel⟩]:=fx_ok (m:=0) (d:=0) OKs_nil CodeOK_nil (gok mx) (c_rings_folded_to mx) (fun a=>rings_folded_to_eq fuel a)
theorem o_rings_folded_behind (mx:Int):OKs (BB mx) (told mx) prog 1 [⟨41,[(.d (.prod (.prod (.sl (.int .i64)) (.sl (.int .u8))) (.sl (.int .i64)))),(.d (.int .i64))],[(.d (.int .i64))],rings_folded_behind fuel⟩]:=fx_ok (m:=0) (d:=0) OKs_nil CodeOK_nil (gok mx) (c_rings_folded_behind mx) (fun a=>rings_folded_behind_eq fuel a)
theorem o_rings_rank (mx:Int):OKs (BB mx) (told mx) prog 1 [⟨32,[(.d (.sl (.int .i64)))],[(.d (.arr 32 (.int .i64)))],rings_rank fuel⟩]:=fx_ok (m:=0) (d:=0) OKs_nil CodeOK_nil (gok mx) (c_rings_rank mx) (fun a=>rings_rank_eq fuel a)
theorem o_rings_folded_between (mx:Int):OKs (BB mx) (told mx) prog 2 [⟨56,[(.d (.prod (.prod (.sl (.int .i64)) (.sl (.int .u8))) (.sl (.int .i64)))),(.d (.arr 32 (.int .i64))),(.d (.int .i64)),(.d (.int .i64))],[(.d .bool)],rings_folded_between fuel⟩]:=fx_ok (m:=1) (d:=0) (OKs_cons (OKs_up (o_rings_folded_behind mx) (Nat.le_of_ble_eq_true rfl)) OKs_nil) CodeOK_nil (gok mx) (c_rings_folded_between mx) (fun a=>rings_folded_between_eq fuel a)
theorem o_rings_folded_crosses (mx:Int):OKs (BB mx) (told mx) prog 4 [⟨33,[(.d (.prod (.prod (.sl (.int .i64)) (.sl (.int .u8))) (.sl (.int .i64)))),(.d (.arr 32 (.int .i64)))],[(.d .bool)],rings_folded_crosses fuel⟩]:=fx_ok (m:=2) (d:=1) (OKs_cons (OKs_up (o_rings_folded_behind mx) (Nat.le_of_ble_eq_true rfl)) (OKs_cons (OKs_up (o_rings_folded_from mx) (Nat.le_of_ble_eq_true rfl)) (OKs_cons (OKs_up (o_rings_folded_to mx) (Nat.le_of_ble_eq_true rfl)) (OKs_cons (OKs_up (o_rings_folded_between mx) (Nat.le_of_ble_eq_true rfl)) OKs_nil)))) (CodeOK_cons (c_rings_folded_beside mx) CodeOK_nil) (gok mx) (c_rings_folded_crosses mx) (fun a=>rings_folded_crosses_eq fuel a)
theorem o_rings_folded_kind (mx:Int):OKs (BB mx) (told mx) prog 2 [⟨48,[(.d (.prod (.prod (.sl (.int .i64)) (.sl (.int .u8))) (.sl (.int .i64)))),(.d (.arr 32 (.int .i64))),(.d (.int .i64))],[(.d (.int .u8))],rings_folded_kind fuel⟩]:=fx_ok (m:=1) (d:=0) (OKs_cons (OKs_up (o_rings_folded_behind mx) (Nat.le_of_ble_eq_true rfl)) OKs_nil) CodeOK_nil (gok mx) (c_rings_folded_kind mx) (fun a=>rings_folded_kind_eq fuel a)
theorem o_rings_folded_wrong (mx:Int):OKs (BB mx) (told mx) prog 3 [⟨34,[(.d (.prod (.prod (.sl (.int .i64)) (.sl (.int .u8))) (.sl (.int .i64)))),(.d (.arr 32 (.int .i64)))],[(.d .bool)],rings_folded_wrong fuel⟩]:=fx_ok (m:=2) (d:=0) (OKs_cons (OKs_up (o_rings_folded_behind mx) (Nat.le_of_ble_eq_true rfl)) (OKs_cons (OKs_up (o_rings_folded_kind mx) (Nat.le_of_ble_eq_true rfl)) OKs_nil)) CodeOK_nil (gok mx) (c_rings_folded_wrong mx) (fun a=>rings_folded_wrong_eq fuel a)
theorem o_slices_Contains_int (mx:Int):OKs (BB mx) (told mx) prog 2 [⟨53,[(.d (.sl (.int .i64))),(.d (.int .i64))],[(.d .bool)],slices_Contains_int fuel⟩]:=fx_ok (m:=0) (d:=1) OKs_nil (CodeOK_cons (c_slices_Index_int mx) CodeOK_nil) (gok mx) (c_slices_Contains_int mx) (fun a=>slices_Contains_int_eq fuel a)
theorem o_rings_listed (mx:Int):OKs (BB mx) (told mx) prog 3 [⟨30,[(.d (.prod (.sl (.int .i64)) (.sl (.int .u8)))),(.d (.sl (.int .i64)))],[(.d (.int .i64))],rings_listed fuel⟩]:=fx_ok (m:=2) (d:=0) (OKs_cons (OKs_up (o_rings_Check mx) (Nat.le_of_ble_eq_true rfl)) (OKs_cons (OKs_up (o_slices_Contains_int mx) (Nat.le_of_ble_eq_true rfl)) OKs_nil)) CodeOK_nil (gok mx) (c_rings_listed mx) (fun a=>rings_listed_eq fuel a)
theorem o_rings_Valid (mx:Int):OKs (BB mx) (told mx) prog 5 [⟨12,[(.d (.prod (.sl (.int .i64)) (.sl (.int .u8)))),(.d (.sl (.int .i64)))],[(.d (.int .i64))],rings_Valid fuel⟩]:=fx_ok (m:=4) (d:=0) (OKs_cons (OKs_up (o_rings_listed mx) (Nat.le_of_ble_eq_true rfl)) (OKs_cons (OKs_up (o_rings_of mx) (Nat.le_of_ble_eq_true rfl)) (OKs_cons (OKs_up (o_rings_rank mx) (Nat.le_of_ble_eq_true rfl)) (OKs_cons (OKs_up (o_rings_folded_crosses mx) (Nat.le_of_ble_eq_true rfl)) (OKs_cons (OKs_up (o_rings_folded_wrong mx) (Nat.le_of_ble_eq_true rfl)) OKs_nil))))) CodeOK_nil (gok mx) (c_rings_Valid mx) (fun a=>rings_Valid_eq fuel a)
theorem o_rings_folded_least (mx:Int):OKs (BB mx) (told mx) prog 2 [⟨36,[(.d (.prod (.prod (.sl (.int .i64)) (.sl (.int .u8))) (.sl (.int .i64)))),(.d (.sl (.int .i64)))],[(.dx (.int .i64))],rings_folded_least fuel⟩]:=fx_ok (m:=1) (d:=0) (OKs_cons (OKs_up (o_rings_rank mx) (Nat.le_of_ble_eq_true rfl)) (OKs_cons (OKs_up (o_rings_folded_from mx) (Nat.le_of_ble_eq_true rfl)) (OKs_cons (OKs_up (o_rings_folded_to mx) (Nat.le_of_ble_eq_true rfl)) OKs_nil))) CodeOK_nil (gok mx) (c_rings_folded_least mx) (fun a=>rings_folded_least_eq fuel a)
theorem o_rings_Least (mx:Int):OKs (BB mx) (told mx) prog 4 [⟨16,[(.d (.prod (.sl (.int .i64)) (.sl (.int .u8)))),(.d (.sl (.int .i64)))],[(.d (.slx (.int .i64))),(.d (.int .i64))],rings_Least fuel⟩]:=fx_ok (m:=3) (d:=0) (OKs_cons (OKs_up (o_rings_listed mx) (Nat.le_of_ble_eq_true rfl)) (OKs_cons (OKs_up (o_rings_of mx) (Nat.le_of_ble_eq_true rfl)) (OKs_cons (OKs_up (o_rings_folded_least mx) (Nat.le_of_ble_eq_true rfl)) OKs_nil))) CodeOK_nil (gok mx) (c_rings_Least mx) (fun a=>rings_Least_eq fuel a)
theorem o_rings_Kinds (mx:Int):OKs (BB mx) (told mx) prog 7 [⟨27,[(.d (.prod (.sl (.int .i64)) (.sl (.int .u8)))),(.d (.sl (.int .i64)))],[(.p (.ownx (.int .i64)) (.ownx (.int .u8))),(.d (.int .i64))],rings_Kinds fuel⟩]:=fx_ok (m:=5) (d:=1) (OKs_cons (OKs_up (o_rings_Valid mx) (Nat.le_of_ble_eq_true rfl)) (OKs_cons (OKs_up (o_rings_of mx) (Nat.le_of_ble_eq_true rfl)) (OKs_cons (OKs_up (o_rings_rank mx) (Nat.le_of_ble_eq_true rfl)) (OKs_cons (OKs_up (o_slices_Clone_int mx) (Nat.le_of_ble_eq_true rfl)) (OKs_cons (OKs_up (o_rings_folded_kind mx) (Nat.le_of_ble_eq_true rfl)) OKs_nil))))) (CodeOK_cons (c_slices_Clip_int mx) CodeOK_nil) (gok mx) (c_rings_Kinds mx) (fun a=>rings_Kinds_eq fuel a)
theorem o_slices_SortFunc_Lint (mx:Int):OKRs (BB mx) (told mx) prog 1 [⟨60,2,[(.row (.slx (.int .i64))),(.v (.fn 61))],[],slices_SortFunc_Lint fuel⟩]:=tSort_TR Srt.ord_sort (fun az g h=>by simp only[told,memoOr,tIns,tRep,tGrow,Nat.beq,cond_false] at h ⊢;first | exact h | simp only[h])
theorem orr_rings_ways_c1 (mx:Int):∀n,OKRs (BB mx) (told mx) prog (4+n*1) [⟨58,1,[(.v (.d (.sl (.int .i64)))),(.pd (.prod (.prod (.sl (.int .i64)) (.sl (.int .u8))) (.sl (.int .i64)))),(.pd (.prod (.sl (.int .i64)) (.sl (.int .u8)))),.self,(.cell (.p (.mp (.arr 8 (.int .i64)) .bool) .u)),(.cell (.p (.own (.slx (.int .i64))) .u))],[],rings_ways_c1_r fuel n⟩]
 | 0=>fun t ht n hn=>by
   rw[List.mem_singleton.1 ht]
   intro a r y hr
   cases hr
 | n+1=>OKRs_up (frR_ok (m:=4+n*1) (d:=0) (OKs_cons (OKs_up (o_rings_rank mx) (by omega)) (OKs_cons (OKs_up (o_rings_folded_crosses mx) (by omega)) (OKs_cons (OKs_up (o_rings_folded_wrong mx) (by omega)) (OKs_cons (OKs_up (o_rings_folded_least mx) (by omega)) (OKs_cons (OKs_up (o_slices_Clone_int mx) (by omega)) (OKs_cons (OKs_up (o_slices_Insert_int mx) (by omega)) OKs_nil)))))) (OKRs_cons (orr_rings_ways_c1 mx n) OKRs_nil) CodeOK_nil (gok mx) (c_rings_ways_c1 mx) (fun a=>rings_ways_c1_eq fuel _ a)) (by omega)
theorem o_rings_ways_c1 (mx:Int):OKRs (BB mx) (told mx) prog 16 [⟨58,1,[(.v (.d (.sl (.int .i64)))),(.pd (.prod (.prod (.sl (.int .i64)) (.sl (.int .u8))) (.sl (.int .i64)))),(.pd (.prod (.sl (.int .i64)) (.sl (.int .u8)))),.self,(.cell (.p (.mp (.arr 8 (.int .i64)) .bool) .u)),(.cell (.p (.own (.slx (.int .i64))) .u))],[],rings_ways_c1 fuel⟩]:=orr_rings_ways_c1 mx 12
theorem o_rings_ways (mx:Int):OKs (BB mx) (told mx) prog 17 [⟨38,[(.d (.prod (.sl (.int .i64)) (.sl (.int .u8))))],[(.own (.slx (.int .i64)))],rings_ways fuel⟩]:=fxR_ok (m:=16) (d:=0) (OKs_cons (OKs_up (o_rings_of mx) (Nat.le_of_ble_eq_true rfl)) OKs_nil) (OKRs_cons (OKRs_up (o_rings_ways_c1 mx) (Nat.le_of_ble_eq_true rfl)) (OKRs_cons (OKRs_up (o_slices_SortFunc_Lint mx) (Nat.le_of_ble_eq_true rfl)) OKRs_nil)) CodeOK_nil (gok mx) (c_rings_ways mx) (fun a=>rings_ways_eq fuel a)
theorem o_rings_searched (mx:Int):OKs (BB mx) (told mx) prog 2 [⟨37,[(.d (.prod (.sl (.int .i64)) (.sl (.int .u8))))],[(.d (.int .i64))],rings_searched fuel⟩]:=fx_ok (m:=1) (d:=0) (OKs_cons (OKs_up (o_rings_Check mx) (Nat.le_of_ble_eq_true rfl)) OKs_nil) CodeOK_nil (gok mx) (c_rings_searched mx) (fun a=>rings_searched_eq fuel a)
theorem o_rings_Count (mx:Int):OKs (BB mx) (told mx) prog 18 [⟨18,[(.d (.prod (.sl (.int .i64)) (.sl (.int .u8))))],[(.d (.int .i64)),(.d (.int .i64))],rings_Count fuel⟩]:=fx_ok (m:=17) (d:=0) (OKs_cons (OKs_up (o_rings_searched mx) (Nat.le_of_ble_eq_true rfl)) (OKs_cons (OKs_up (o_rings_ways mx) (Nat.le_of_ble_eq_true rfl)) OKs_nil)) CodeOK_nil (gok mx) (c_rings_Count mx) (fun a=>rings_Count_eq fuel a)
theorem o_rings_First (mx:Int):OKs (BB mx) (told mx) prog 18 [⟨19,[(.d (.prod (.sl (.int .i64)) (.sl (.int .u8))))],[(.d (.slx (.int .i64))),(.d (.int .i64))],rings_First fuel⟩]:=fx_ok (m:=17) (d:=0) (OKs_cons (OKs_up (o_rings_searched mx) (Nat.le_of_ble_eq_true rfl)) (OKs_cons (OKs_up (o_rings_ways mx) (Nat.le_of_ble_eq_true rfl)) OKs_nil)) CodeOK_nil (gok mx) (c_rings_First mx) (fun a=>rings_First_eq fuel a)
theorem o_rings_Difference (mx:Int):OKs (BB mx) (told mx) prog 2 [⟨26,[(.d (.prod (.sl (.int .i64)) (.sl (.int .u8))))],[(.d (.int .i64)),(.d (.int .i64))],rings_Difference fuel⟩]:=fx_ok (m:=1) (d:=0) (OKs_cons (OKs_up (o_rings_Check mx) (Nat.le_of_ble_eq_true rfl)) OKs_nil) CodeOK_nil (gok mx) (c_rings_Difference mx) (fun a=>rings_Difference_eq fuel a)
theorem o_law22_lives (mx:Int):OKs (BB mx) (told mx) prog 20 [⟨14,[],[(.d .bool)],law22_lives fuel⟩]:=fx_ok (m:=18) (d:=1) (OKs_cons (OKs_up (o_rings_Check mx) (Nat.le_of_ble_eq_true rfl)) (OKs_cons (OKs_up (o_rings_Count mx) (Nat.le_of_ble_eq_true rfl)) (OKs_cons (OKs_up (o_rings_First mx) (Nat.le_of_ble_eq_true rfl)) (OKs_cons (OKs_up (o_rings_Difference mx) (Nat.le_of_ble_eq_true rfl)) (OKs_cons (OKs_up (o_rings_Kinds mx) (Nat.le_of_ble_eq_true rfl)) OKs_nil))))) (CodeOK_cons (c_law22_list mx) CodeOK_nil) (gok mx) (c_law22_lives mx) (fun a=>law22_lives_eq fuel a)
theorem o_law22_N_Of (mx:Int):OKs (BB mx) (told mx) prog 2 [⟨9,[(.d (.prod (.prod (.sl (.int .u8)) (.sl (.int .u8))) (.prod (.int .u8) .unit)))],[(.p (.own (.int .i64)) (.own (.int .u8)))],law22_N_Of fuel⟩]:=fx_ok (m:=1) (d:=0) (OKs_cons (OKs_up (o_law16_T_Of mx) (Nat.le_of_ble_eq_true rfl)) OKs_nil) CodeOK_nil (gok mx) (c_law22_N_Of mx) (fun a=>law22_N_Of_eq fuel a)
theorem o_law22_ends (mx:Int):OKs (BB mx) (told mx) prog 1 [⟨20,[(.d (.prod (.sl (.int .i64)) (.sl (.int .u8))))],[(.own (.int .i64))],law22_ends fuel⟩]:=fx_ok (m:=0) (d:=0) OKs_nil CodeOK_nil (gok mx) (c_law22_ends mx) (fun a=>law22_ends_eq fuel a)
theorem o_law22_fits (mx:Int):OKs (BB mx) (told mx) prog 2 [⟨35,[(.d (.prod (.sl (.int .i64)) (.sl (.int .u8)))),(.d (.sl (.int .i64))),(.d (.int .i64)),(.d .bool)],[(.d .bool)],law22_fits fuel⟩]:=fx_ok (m:=1) (d:=0) (OKs_cons (OKs_up (o_law22_ends mx) (Nat.le_of_ble_eq_true rfl)) OKs_nil) CodeOK_nil (gok mx) (c_law22_fits mx) (fun a=>law22_fits_eq fuel a)
theorem o_law22_check (mx:Int):OKs (BB mx) (told mx) prog 3 [⟨13,[(.d (.prod (.sl (.int .i64)) (.sl (.int .u8)))),(.d (.sl (.int .i64)))],[(.d (.int .i64))],law22_check fuel⟩]:=fx_ok (m:=2) (d:=0) (OKs_cons (OKs_up (o_law22_ends mx) (Nat.le_of_ble_eq_true rfl)) (OKs_cons (OKs_up (o_law22_fits mx) (Nat.le_of_ble_eq_true rfl)) OKs_nil)) CodeOK_nil (gok mx) (c_law22_check mx) (fun a=>law22_check_eq fuel a)
theorem or_law22_orders (mx:Int):∀n,OKs (BB mx) (told mx) prog (0+n*1) [⟨15,[(.d (.int .i64))],[(.own (.sl (.int .i64)))],law22_orders_r fuel n⟩]
 | 0=>fun t ht n hn=>by
   rw[List.mem_singleton.1 ht]
   intro a r hr
   cases hr
 | n+1=>OKs_up (fx_ok (m:=0+n*1) (d:=0) (OKs_cons (or_law22_orders mx n) OKs_nil) CodeOK_nil (gok mx) (c_law22_orders mx) (fun a=>law22_orders_eq fuel _ a)) (by omega)
theorem o_law22_orders (mx:Int):OKs (BB mx) (told mx) prog 10 [⟨15,[(.d (.int .i64))],[(.own (.sl (.int .i64)))],law22_orders fuel⟩]:=or_law22_orders mx 10
theorem o_law22_RingsCount (mx:Int):OKs (BB mx) (told mx) prog 22 [⟨4,[(.d (.prod (.prod (.sl (.int .u8)) (.sl (.int .u8))) (.prod (.int .u8) .unit)))],[(.d .bool)],law22_RingsCount fuel⟩]:=fx_ok (m:=20) (d:=1) (OKs_cons (OKs_up (o_law22_N_Of mx) (Nat.le_of_ble_eq_true rfl)) (OKs_cons (OKs_up (o_law22_check mx) (Nat.le_of_ble_eq_true rfl)) (OKs_cons (OKs_up (o_law22_lives mx) (Nat.le_of_ble_eq_true rfl)) (OKs_cons (OKs_up (o_law22_orders mx) (Nat.le_of_ble_eq_true rfl)) (OKs_cons (OKs_up (o_rings_Least mx) (Nat.le_of_ble_eq_true rfl)) (OKs_cons (OKs_up (o_rings_Count mx) (Nat.le_of_ble_eq_true rfl)) (OKs_cons (OKs_up (o_rings_First mx) (Nat.le_of_ble_eq_true rfl)) OKs_nil))))))) (CodeOK_cons (c_law22_list mx) CodeOK_nil) (gok mx) (c_law22_RingsCount mx) (fun a=>law22_RingsCount_eq fuel a)
end
end Vm
end Go.Proofs.Ytofimkliemlojaa
