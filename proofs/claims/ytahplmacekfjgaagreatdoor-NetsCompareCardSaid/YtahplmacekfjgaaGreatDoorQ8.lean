/-
  The contracts of the program's functions, one after another. (Printed by a program.)
-/
import Derived.Test.YtahplmacekfjgaaGreatDoorQ7
import Derived.Test.YtahplmacekfjgaaGreatDoorSM
set_option linter.unusedSimpArgs false
set_option linter.unusedVariables false
set_option linter.unusedSectionVars false
set_option linter.unnecessarySimpa false
namespace Go.Proofs.YtahplmacekfjgaaGreatDoor
namespace Vm
open Go Go.Vm Go.Vm.W Go.Vm.X
noncomputable section
set_option maxRecDepth 100000
theorem gok (mx:Int):GRel (BB mx) nu0 GG:=gok_of (B:=BB mx) (es:=ex++es) (H0_eq mx).symm (l:=GM) (by kernel_rfl) (by kernel_rfl)
abbrev OK (mx:Int) (l:Nat) (t:TE):Prop:=OKs (BB mx) (told mx) prog l [t]
abbrev CK (mx:Int) (x:FuncId×Fx):Prop:=(∀vs,told mx x.1 vs=none)∧prog.get x.1=some x.2.cfn
theorem c_law38_NetsCompare (mx:Int):CK mx z_law38_NetsCompare:=⟨fun _=>rfl,by kernel_rfl⟩
theorem c_nets_Compare (mx:Int):CK mx z_nets_Compare:=⟨fun _=>rfl,by kernel_rfl⟩
theorem c_law38_lives (mx:Int):CK mx z_law38_lives:=⟨fun _=>rfl,by kernel_rfl⟩
theorem c_law38_less (mx:Int):CK mx z_law38_less:=⟨fun _=>rfl,by kernel_rfl⟩
theorem c_nets_Place (mx:Int):CK mx z_nets_Place:=⟨fun _=>rfl,by kernel_rfl⟩
theorem c_nets_Spots (mx:Int):CK mx z_nets_Spots:=⟨fun _=>rfl,by kernel_rfl⟩
theorem c_nets_Turned (mx:Int):CK mx z_nets_Turned:=⟨fun _=>rfl,by kernel_rfl⟩
theorem c_nets_Check (mx:Int):CK mx z_nets_Check:=⟨fun _=>rfl,by kernel_rfl⟩
theorem c_strconv_Itoa (mx:Int):CK mx z_strconv_Itoa:=⟨fun _=>rfl,by kernel_rfl⟩
theorem c_law38_N_Tree (mx:Int):CK mx z_law38_N_Tree:=⟨fun _=>rfl,by kernel_rfl⟩
theorem c_law38_has (mx:Int):CK mx z_law38_has:=⟨fun _=>rfl,by kernel_rfl⟩
theorem c_law38_beside (mx:Int):CK mx z_law38_beside:=⟨fun _=>rfl,by kernel_rfl⟩
theorem c_law38_hinges (mx:Int):CK mx z_law38_hinges:=⟨fun _=>rfl,by kernel_rfl⟩
theorem c_cmp_Compare_int (mx:Int):CK mx z_cmp_Compare_int:=⟨fun _=>rfl,by kernel_rfl⟩
theorem c_slices_CompareFunc_nets_Square (mx:Int):CK mx z_slices_CompareFunc_nets_Square:=⟨fun _=>rfl,by kernel_rfl⟩
theorem c_nets_Square_compare (mx:Int):CK mx z_nets_Square_compare:=⟨fun _=>rfl,by kernel_rfl⟩
theorem c_slices_CompareFunc_nets_Hinge (mx:Int):CK mx z_slices_CompareFunc_nets_Hinge:=⟨fun _=>rfl,by kernel_rfl⟩
theorem c_nets_Compare_c1 (mx:Int):CK mx z_nets_Compare_c1:=⟨fun _=>rfl,by kernel_rfl⟩
theorem c_cmp_Or_int (mx:Int):CK mx z_cmp_Or_int:=⟨fun _=>rfl,by kernel_rfl⟩
theorem c_nets_Hinge_place (mx:Int):CK mx z_nets_Hinge_place:=⟨fun _=>rfl,by kernel_rfl⟩
theorem c_cmp_Compare_int8 (mx:Int):CK mx z_cmp_Compare_int8:=⟨fun _=>rfl,by kernel_rfl⟩
theorem c_nets_Hinge_way (mx:Int):CK mx z_nets_Hinge_way:=⟨fun _=>rfl,by kernel_rfl⟩
theorem c_nets_Net_index (mx:Int):CK mx z_nets_Net_index:=⟨fun _=>rfl,by kernel_rfl⟩
theorem c_nets_Hinge_other (mx:Int):CK mx z_nets_Hinge_other:=⟨fun _=>rfl,by kernel_rfl⟩
theorem c_nets_Frame_over (mx:Int):CK mx z_nets_Frame_over:=⟨fun _=>rfl,by kernel_rfl⟩
theorem c_nets_Frame_back (mx:Int):CK mx z_nets_Frame_back:=⟨fun _=>rfl,by kernel_rfl⟩
theorem c_nets_Frame_spot (mx:Int):CK mx z_nets_Frame_spot:=⟨fun _=>rfl,by kernel_rfl⟩
theorem c_slices_Contains_nets_Spot (mx:Int):CK mx z_slices_Contains_nets_Spot:=⟨fun _=>rfl,by kernel_rfl⟩
theorem c_nets_Net_turned (mx:Int):CK mx z_nets_Net_turned:=⟨fun _=>rfl,by kernel_rfl⟩
theorem c_nets_Net_joined (mx:Int):CK mx z_nets_Net_joined:=⟨fun _=>rfl,by kernel_rfl⟩
theorem c_nets_Frame_front (mx:Int):CK mx z_nets_Frame_front:=⟨fun _=>rfl,by kernel_rfl⟩
theorem c_istrconv_Itoa (mx:Int):CK mx z_istrconv_Itoa:=⟨fun _=>rfl,by kernel_rfl⟩
theorem c_law38_sorted (mx:Int):CK mx z_law38_sorted:=⟨fun _=>rfl,by kernel_rfl⟩
theorem c_cmp_isNaN_int (mx:Int):CK mx z_cmp_isNaN_int:=⟨fun _=>rfl,by kernel_rfl⟩
theorem c_cmp_isNaN_int8 (mx:Int):CK mx z_cmp_isNaN_int8:=⟨fun _=>rfl,by kernel_rfl⟩
theorem c_slices_BinarySearchFunc_nets_Square (mx:Int):CK mx z_slices_BinarySearchFunc_nets_Square:=⟨fun _=>rfl,by kernel_rfl⟩
theorem c_nets_Vec_plus (mx:Int):CK mx z_nets_Vec_plus:=⟨fun _=>rfl,by kernel_rfl⟩
theorem c_nets_bent (mx:Int):CK mx z_nets_bent:=⟨fun _=>rfl,by kernel_rfl⟩
theorem c_slices_Index_nets_Spot (mx:Int):CK mx z_slices_Index_nets_Spot:=⟨fun _=>rfl,by kernel_rfl⟩
theorem c_nets_Square_turned (mx:Int):CK mx z_nets_Square_turned:=⟨fun _=>rfl,by kernel_rfl⟩
theorem c_nets_Net_turned_c1 (mx:Int):CK mx z_nets_Net_turned_c1:=⟨fun _=>rfl,by kernel_rfl⟩
theorem c_nets_between (mx:Int):CK mx z_nets_between:=⟨fun _=>rfl,by kernel_rfl⟩
theorem c_slices_Contains_int (mx:Int):CK mx z_slices_Contains_int:=⟨fun _=>rfl,by kernel_rfl⟩
theorem c_nets_Vec_times (mx:Int):CK mx z_nets_Vec_times:=⟨fun _=>rfl,by kernel_rfl⟩
theorem c_istrconv_FormatInt (mx:Int):CK mx z_istrconv_FormatInt:=⟨fun _=>rfl,by kernel_rfl⟩
theorem c_nets_Square_turned_c1 (mx:Int):CK mx z_nets_Square_turned_c1:=⟨fun _=>rfl,by kernel_rfl⟩
theorem c_nets_Square_stay (mx:Int):CK mx z_nets_Square_stay:=⟨fun _=>rfl,by kernel_rfl⟩
theorem c_nets_Square_quarter (mx:Int):CK mx z_nets_Square_quarter:=⟨fun _=>rfl,by kernel_rfl⟩
theorem c_nets_Square_half (mx:Int):CK mx z_nets_Square_half:=⟨fun _=>rfl,by kernel_rfl⟩
theorem c_nets_Square_three (mx:Int):CK mx z_nets_Square_three:=⟨fun _=>rfl,by kernel_rfl⟩
theorem c_nets_Square_left (mx:Int):CK mx z_nets_Square_left:=⟨fun _=>rfl,by kernel_rfl⟩
theorem c_nets_Square_down (mx:Int):CK mx z_nets_Square_down:=⟨fun _=>rfl,by kernel_rfl⟩
theorem c_nets_Square_below (mx:Int):CK mx z_nets_Square_below:=⟨fun _=>rfl,by kernel_rfl⟩
theorem c_nets_Square_cross (mx:Int):CK mx z_nets_Square_cross:=⟨fun _=>rfl,by kernel_rfl⟩
theorem c_slices_Index_int (mx:Int):CK mx z_slices_Index_int:=⟨fun _=>rfl,by kernel_rfl⟩
theorem c_istrconv_small (mx:Int):CK mx z_istrconv_small:=⟨fun _=>rfl,by kernel_rfl⟩
theorem c_istrconv_numDigits (mx:Int):CK mx z_istrconv_numDigits:=⟨fun _=>rfl,by kernel_rfl⟩
theorem c_istrconv_formatBase10 (mx:Int):CK mx z_istrconv_formatBase10:=⟨fun _=>rfl,by kernel_rfl⟩
theorem c_istrconv_bool2_int (mx:Int):CK mx z_istrconv_bool2_int:=⟨fun _=>rfl,by kernel_rfl⟩
theorem o_cmp_isNaN_int8 (mx:Int):OK mx 1 (t_cmp_isNaN_int8 fuel):=fx_ok (m:=0) (d:=0) OKs_nil CodeOK_nil (gok mx) (c_cmp_isNaN_int8 mx) (fun a=>cmp_isNaN_int8_eq fuel a)
theorem o_cmp_Compare_int8 (mx:Int):OK mx 2 (t_cmp_Compare_int8 fuel):=fx_ok (m:=1) (d:=0) (OKs_cons (OKs_up (o_cmp_isNaN_int8 mx) (Nat.le_of_ble_eq_true rfl)) OKs_nil) CodeOK_nil (gok mx) (c_cmp_Compare_int8 mx) (fun a=>cmp_Compare_int8_eq fuel a)
theorem o_cmp_isNaN_int (mx:Int):OK mx 1 (t_cmp_isNaN_int fuel):=fx_ok (m:=0) (d:=0) OKs_nil CodeOK_nil (gok mx) (c_cmp_isNaN_int mx) (fun a=>cmp_isNaN_int_eq fuel a)
theorem o_cmp_Compare_int (mx:Int):OK mx 2 (t_cmp_Compare_int fuel):=fx_ok (m:=1) (d:=0) (OKs_cons (OKs_up (o_cmp_isNaN_int mx) (Nat.le_of_ble_eq_true rfl)) OKs_nil) CodeOK_nil (gok mx) (c_cmp_Compare_int mx) (fun a=>cmp_Compare_int_eq fuel a)
theorem o_cmp_Or_int (mx:Int):OK mx 1 (t_cmp_Or_int fuel):=fx_ok (m:=0) (d:=0) OKs_nil CodeOK_nil (gok mx) (c_cmp_Or_int mx) (fun a=>cmp_Or_int_eq fuel a)
theorem o_nets_Square_compare (mx:Int):OK mx 3 (t_nets_Square_compare fuel):=fx_ok (m:=2) (d:=0) (OKs_cons (OKs_up (o_cmp_Compare_int mx) (Nat.le_of_ble_eq_true rfl)) (OKs_cons (OKs_up (o_cmp_Or_int mx) (Nat.le_of_ble_eq_true rfl)) OKs_nil)) CodeOK_nil (gok mx) (c_nets_Square_compare mx) (fun a=>nets_Square_compare_eq fuel a)
theorem o_nets_Hinge_way (mx:Int):OK mx 1 (t_nets_Hinge_way fuel):=fx_ok (m:=0) (d:=0) OKs_nil CodeOK_nil (gok mx) (c_nets_Hinge_way mx) (fun a=>nets_Hinge_way_eq fuel a)
theorem o_nets_Hinge_place (mx:Int):OK mx 4 (t_nets_Hinge_place fuel):=fx_ok (m:=3) (d:=0) (OKs_cons (OKs_up (o_cmp_Compare_int mx) (Nat.le_of_ble_eq_true rfl)) (OKs_cons (OKs_up (o_nets_Square_compare mx) (Nat.le_of_ble_eq_true rfl)) (OKs_cons (OKs_up (o_cmp_Or_int mx) (Nat.le_of_ble_eq_true rfl)) (OKs_cons (OKs_up (o_nets_Hinge_way mx) (Nat.le_of_ble_eq_true rfl)) OKs_nil)))) CodeOK_nil (gok mx) (c_nets_Hinge_place mx) (fun a=>nets_Hinge_place_eq fuel a)
theorem o_nets_Hinge_other (mx:Int):OK mx 1 (t_nets_Hinge_other fuel):=fx_ok (m:=0) (d:=0) OKs_nil CodeOK_nil (gok mx) (c_nets_Hinge_other mx) (fun a=>nets_Hinge_other_eq fuel a)
theorem o_slices_BinarySearchFunc_nets_Square (mx:Int):OK mx 4 (t_slices_BinarySearchFunc_nets_Square fuel):=fx_ok (m:=3) (d:=0) (OKs_cons (OKs_up (o_nets_Square_compare mx) (Nat.le_of_ble_eq_true rfl)) OKs_nil) CodeOK_nil (gok mx) (c_slices_BinarySearchFunc_nets_Square mx) (fun a=>slices_BinarySearchFunc_nets_Square_eq fuel a)
theorem o_nets_Net_index (mx:Int):OK mx 5 (t_nets_Net_index fuel):=fx_ok (m:=4) (d:=0) (OKs_cons (OKs_up (o_slices_BinarySearchFunc_nets_Square mx) (Nat.le_of_ble_eq_true rfl)) OKs_nil) CodeOK_nil (gok mx) (c_nets_Net_index mx) (fun a=>nets_Net_index_eq fuel a)
theorem o_slices_Index_int (mx:Int):OK mx 1 (t_slices_Index_int fuel):=fx_ok (m:=0) (d:=0) OKs_nil CodeOK_nil (gok mx) (c_slices_Index_int mx) (fun a=>slices_Index_int_eq fuel a)
theorem o_slices_Contains_int (mx:Int):OK mx 2 (t_slices_Contains_int fuel):=fx_ok (m:=1) (d:=0) (OKs_cons (OKs_up (o_slices_Index_int mx) (Nat.le_of_ble_eq_true rfl)) OKs_nil) CodeOK_nil (gok mx) (c_slices_Contains_int mx) (fun a=>slices_Contains_int_eq fuel a)
theorem o_nets_Net_joined (mx:Int):OK mx 6 (t_nets_Net_joined fuel):=fx_ok (m:=5) (d:=0) (OKs_cons (OKs_up (o_nets_Net_index mx) (Nat.le_of_ble_eq_true rfl)) (OKs_cons (OKs_up (o_nets_Hinge_other mx) (Nat.le_of_ble_eq_true rfl)) (OKs_cons (OKs_up (o_slices_Contains_int mx) (Nat.le_of_ble_eq_true rfl)) OKs_nil))) CodeOK_nil (gok mx) (c_nets_Net_joined mx) (fun a=>nets_Net_joined_eq fuel a)
theorem o_nets_Check (mx:Int):OK mx 7 (t_nets_Check fuel):=fx_ok (m:=6) (d:=0) (OKs_cons (OKs_up (o_nets_Square_compare mx) (Nat.le_of_ble_eq_true rfl)) (OKs_cons (OKs_up (o_nets_Hinge_place mx) (Nat.le_of_ble_eq_true rfl)) (OKs_cons (OKs_up (o_nets_Net_index mx) (Nat.le_of_ble_eq_true rfl)) (OKs_cons (OKs_up (o_nets_Hinge_other mx) (Nat.le_of_ble_eq_true rfl)) (OKs_cons (OKs_up (o_nets_Net_joined mx) (Nat.le_of_ble_eq_true rfl)) OKs_nil))))) CodeOK_nil (gok mx) (c_nets_Check mx) (fun a=>nets_Check_eq fuel a)
theorem o_nets_Vec_plus (mx:Int):OK mx 1 (t_nets_Vec_plus fuel):=fx_ok (m:=0) (d:=0) OKs_nil CodeOK_nil (gok mx) (c_nets_Vec_plus mx) (fun a=>nets_Vec_plus_eq fuel a)
theorem o_nets_Vec_times (mx:Int):OK mx 1 (t_nets_Vec_times fuel):=fx_ok (m:=0) (d:=0) OKs_nil CodeOK_nil (gok mx) (c_nets_Vec_times mx) (fun a=>nets_Vec_times_eq fuel a)
theorem o_nets_Frame_front (mx:Int):OK mx 2 (t_nets_Frame_front fuel):=fx_ok (m:=1) (d:=0) (OKs_cons (OKs_up (o_nets_Vec_times mx) (Nat.le_of_ble_eq_true rfl)) OKs_nil) CodeOK_nil (gok mx) (c_nets_Frame_front mx) (fun a=>nets_Frame_front_eq fuel a)
theorem o_nets_bent (mx:Int):OK mx 2 (t_nets_bent fuel):=fx_ok (m:=1) (d:=0) (OKs_cons (OKs_up (o_nets_Vec_plus mx) (Nat.le_of_ble_eq_true rfl)) OKs_nil) CodeOK_nil (gok mx) (c_nets_bent mx) (fun a=>nets_bent_eq fuel a)
theorem o_nets_Frame_over (mx:Int):OK mx 3 (t_nets_Frame_over fuel):=fx_ok (m:=2) (d:=0) (OKs_cons (OKs_up (o_nets_Frame_front mx) (Nat.le_of_ble_eq_true rfl)) (OKs_cons (OKs_up (o_nets_Vec_plus mx) (Nat.le_of_ble_eq_true rfl)) (OKs_cons (OKs_up (o_nets_bent mx) (Nat.le_of_ble_eq_true rfl)) OKs_nil))) CodeOK_nil (gok mx) (c_nets_Frame_over mx) (fun a=>nets_Frame_over_eq fuel a)
theorem o_nets_Frame_back (mx:Int):OK mx 3 (t_nets_Frame_back fuel):=fx_ok (m:=2) (d:=0) (OKs_cons (OKs_up (o_nets_Frame_front mx) (Nat.le_of_ble_eq_true rfl)) (OKs_cons (OKs_up (o_nets_Vec_plus mx) (Nat.le_of_ble_eq_true rfl)) (OKs_cons (OKs_up (o_nets_bent mx) (Nat.le_of_ble_eq_true rfl)) OKs_nil))) CodeOK_nil (gok mx) (c_nets_Frame_back mx) (fun a=>nets_Frame_back_eq fuel a)
theorem o_nets_Place (mx:Int):OK mx 8 (t_nets_Place fuel):=fx_ok (m:=7) (d:=0) (OKs_cons (OKs_up (o_nets_Check mx) (Nat.le_of_ble_eq_true rfl)) (OKs_cons (OKs_up (o_nets_Net_index mx) (Nat.le_of_ble_eq_true rfl)) (OKs_cons (OKs_up (o_nets_Hinge_other mx) (Nat.le_of_ble_eq_true rfl)) (OKs_cons (OKs_up (o_nets_Frame_over mx) (Nat.le_of_ble_eq_true rfl)) (OKs_cons (OKs_up (o_nets_Frame_back mx) (Nat.le_of_ble_eq_true rfl)) OKs_nil))))) CodeOK_nil (gok mx) (c_nets_Place mx) (fun a=>nets_Place_eq fuel a)
theorem o_nets_Frame_spot (mx:Int):OK mx 1 (t_nets_Frame_spot fuel):=fx_ok (m:=0) (d:=0) OKs_nil CodeOK_nil (gok mx) (c_nets_Frame_spot mx) (fun a=>nets_Frame_spot_eq fuel a)
theorem o_slices_Index_nets_Spot (mx:Int):OK mx 1 (t_slices_Index_nets_Spot fuel):=fx_ok (m:=0) (d:=0) OKs_nil CodeOK_nil (gok mx) (c_slices_Index_nets_Spot mx) (fun a=>slices_Index_nets_Spot_eq fuel a)
theorem o_slices_Contains_nets_Spot (mx:Int):OK mx 2 (t_slices_Contains_nets_Spot fuel):=fx_ok (m:=1) (d:=0) (OKs_cons (OKs_up (o_slices_Index_nets_Spot mx) (Nat.le_of_ble_eq_true rfl)) OKs_nil) CodeOK_nil (gok mx) (c_slices_Contains_nets_Spot mx) (fun a=>slices_Contains_nets_Spot_eq fuel a)
theorem o_nets_Spots (mx:Int):OK mx 9 (t_nets_Spots fuel):=fx_ok (m:=8) (d:=0) (OKs_cons (OKs_up (o_nets_Place mx) (Nat.le_of_ble_eq_true rfl)) (OKs_cons (OKs_up (o_nets_Frame_spot mx) (Nat.le_of_ble_eq_true rfl)) (OKs_cons (OKs_up (o_slices_Contains_nets_Spot mx) (Nat.le_of_ble_eq_true rfl)) OKs_nil))) CodeOK_nil (gok mx) (c_nets_Spots mx) (fun a=>nets_Spots_eq fuel a)
theorem o_slices_SortFunc_nets_Square (mx:Int):OKRs (BB mx) (told mx) prog 1 [⟨72,2,[(.row tqb),(.v (.fn 31))],[],slices_SortFunc_nets_Square fuel⟩]:=tSortK_TR (t:=tSQ) rfl (fun L=>(sortC_perm cfS L).length_eq) (fun L h=>svK_enc rfl L h) (fun az g h=>memoOr_r rfl (memoOr_r rfl (memoOr_l h)))
theorem o_slices_SortFunc_nets_Hinge (mx:Int):OKRs (BB mx) (told mx) prog 1 [⟨73,2,[(.row tqf),(.v (.fn 35))],[],slices_SortFunc_nets_Hinge fuel⟩]:=tSortK_TR (t:=tHG) rfl (fun L=>(sortC_perm cfH L).length_eq) (fun L h=>svK_enc rfl L h) (fun az g h=>memoOr_r rfl (memoOr_r rfl (memoOr_r rfl (memoOr_l h))))
theorem o_nets_Square_stay (mx:Int):OK mx 1 (t_nets_Square_stay fuel):=fx_ok (m:=0) (d:=0) OKs_nil CodeOK_nil (gok mx) (c_nets_Square_stay mx) (fun a=>nets_Square_stay_eq fuel a)
theorem o_nets_Square_quarter (mx:Int):OK mx 1 (t_nets_Square_quarter fuel):=fx_ok (m:=0) (d:=0) OKs_nil CodeOK_nil (gok mx) (c_nets_Square_quarter mx) (fun a=>nets_Square_quarter_eq fuel a)
theorem o_nets_Square_half (mx:Int):OK mx 1 (t_nets_Square_half fuel):=fx_ok (m:=0) (d:=0) OKs_nil CodeOK_nil (gok mx) (c_nets_Square_half mx) (fun a=>nets_Square_half_eq fuel a)
theorem o_nets_Square_three (mx:Int):OK mx 1 (t_nets_Square_three fuel):=fx_ok (m:=0) (d:=0) OKs_nil CodeOK_nil (gok mx) (c_nets_Square_three mx) (fun a=>nets_Square_three_eq fuel a)
theorem o_nets_Square_left (mx:Int):OK mx 1 (t_nets_Square_left fuel):=fx_ok (m:=0) (d:=0) OKs_nil CodeOK_nil (gok mx) (c_nets_Square_left mx) (fun a=>nets_Square_left_eq fuel a)
theorem o_nets_Square_down (mx:Int):OK mx 1 (t_nets_Square_down fuel):=fx_ok (m:=0) (d:=0) OKs_nil CodeOK_nil (gok mx) (c_nets_Square_down mx) (fun a=>nets_Square_down_eq fuel a)
theorem o_nets_Square_below (mx:Int):OK mx 1 (t_nets_Square_below fuel):=fx_ok (m:=0) (d:=0) OKs_nil CodeOK_nil (gok mx) (c_nets_Square_below mx) (fun a=>nets_Square_below_eq fuel a)
theorem o_nets_Square_cross (mx:Int):OK mx 1 (t_nets_Square_cross fuel):=fx_ok (m:=0) (d:=0) OKs_nil CodeOK_nil (gok mx) (c_nets_Square_cross mx) (fun a=>nets_Square_cross_eq fuel a)
theorem o_nets_Square_turned (mx:Int):OK mx 3 (t_nets_Square_turned fuel):=fx_ok (m:=1) (d:=1) (OKs_cons (OKs_up (o_nets_Square_stay mx) (Nat.le_of_ble_eq_true rfl)) (OKs_cons (OKs_up (o_nets_Square_quarter mx) (Nat.le_of_ble_eq_true rfl)) (OKs_cons (OKs_up (o_nets_Square_half mx) (Nat.le_of_ble_eq_true rfl)) (OKs_cons (OKs_up (o_nets_Square_three mx) (Nat.le_of_ble_eq_true rfl)) (OKs_cons (OKs_up (o_nets_Square_left mx) (Nat.le_of_ble_eq_true rfl)) (OKs_cons (OKs_up (o_nets_Square_down mx) (Nat.le_of_ble_eq_true rfl)) (OKs_cons (OKs_up (o_nets_Square_below mx) (Nat.le_of_ble_eq_true rfl)) (OKs_cons (OKs_up (o_nets_Square_cross mx) (Nat.le_of_ble_eq_true rfl)) OKs_nil)))))))) (CodeOK_cons (c_nets_Square_turned_c1 mx) CodeOK_nil) (gok mx) (c_nets_Square_turned mx) (fun a=>nets_Square_turned_eq fuel a)
theorem o_nets_between (mx:Int):OK mx 4 (t_nets_between fuel):=fx_ok (m:=3) (d:=0) (OKs_cons (OKs_up (o_nets_Square_compare mx) (Nat.le_of_ble_eq_true rfl)) OKs_nil) CodeOK_nil (gok mx) (c_nets_between mx) (fun a=>nets_between_eq fuel a)
theorem o_nets_Net_turned (mx:Int):OK mx 6 (t_nets_Net_turned fuel):=fxR_ok (m:=4) (d:=1) (OKs_cons (OKs_up (o_nets_Hinge_other mx) (Nat.le_of_ble_eq_true rfl)) (OKs_cons (OKs_up (o_nets_Square_turned mx) (Nat.le_of_ble_eq_true rfl)) (OKs_cons (OKs_up (o_nets_between mx) (Nat.le_of_ble_eq_true rfl)) OKs_nil))) (OKRs_cons (OKRs_up (o_slices_SortFunc_nets_Square mx) (Nat.le_of_ble_eq_true rfl)) (OKRs_cons (OKRs_up (o_slices_SortFunc_nets_Hinge mx) (Nat.le_of_ble_eq_true rfl)) OKRs_nil)) (CodeOK_cons (c_nets_Net_turned_c1 mx) CodeOK_nil) (gok mx) (c_nets_Net_turned mx) (fun a=>nets_Net_turned_eq fuel a)
theorem o_nets_Turned (mx:Int):OK mx 8 (t_nets_Turned fuel):=fx_ok (m:=7) (d:=0) (OKs_cons (OKs_up (o_nets_Check mx) (Nat.le_of_ble_eq_true rfl)) (OKs_cons (OKs_up (o_nets_Net_turned mx) (Nat.le_of_ble_eq_true rfl)) OKs_nil)) CodeOK_nil (gok mx) (c_nets_Turned mx) (fun a=>nets_Turned_eq fuel a)
theorem o_law38_less (mx:Int):OK mx 1 (t_law38_less fuel):=fx_ok (m:=0) (d:=0) OKs_nil CodeOK_nil (gok mx) (c_law38_less mx) (fun a=>law38_less_eq fuel a)
theorem o0_cmp_isNaN_int (mx:Int):OKs (BB mx) mm0 prog 1 [t_cmp_isNaN_int fuel]:=fx_ok (m:=0) (d:=0) OKs_nil CodeOK_nil (gok mx) ⟨fun _=>rfl,(c_cmp_isNaN_int mx).2⟩ (fun a=>cmp_isNaN_int_eq fuel a)
theorem o0_cmp_Compare_int (mx:Int):OKs (BB mx) mm0 prog 2 [t_cmp_Compare_int fuel]:=fx_ok (m:=1) (d:=0) (OKs_cons (OKs_up (o0_cmp_isNaN_int mx) (Nat.le_of_ble_eq_true rfl)) OKs_nil) CodeOK_nil (gok mx) ⟨fun _=>rfl,(c_cmp_Compare_int mx).2⟩ (fun a=>cmp_Compare_int_eq fuel a)
theorem o0_cmp_Or_int (mx:Int):OKs (BB mx) mm0 prog 1 [t_cmp_Or_int fuel]:=fx_ok (m:=0) (d:=0) OKs_nil CodeOK_nil (gok mx) ⟨fun _=>rfl,(c_cmp_Or_int mx).2⟩ (fun a=>cmp_Or_int_eq fuel a)
theorem o0_nets_Square_compare (mx:Int):OKs (BB mx) mm0 prog 3 [t_nets_Square_compare fuel]:=fx_ok (m:=2) (d:=0) (OKs_cons (OKs_up (o0_cmp_Compare_int mx) (Nat.le_of_ble_eq_true rfl)) (OKs_cons (OKs_up (o0_cmp_Or_int mx) (Nat.le_of_ble_eq_true rfl)) OKs_nil)) CodeOK_nil (gok mx) ⟨fun _=>rfl,(c_nets_Square_compare mx).2⟩ (fun a=>nets_Square_compare_eq fuel a)
theorem o0_nets_Hinge_way (mx:Int):OKs (BB mx) mm0 prog 1 [t_nets_Hinge_way fuel]:=fx_ok (m:=0) (d:=0) OKs_nil CodeOK_nil (gok mx) ⟨fun _=>rfl,(c_nets_Hinge_way mx).2⟩ (fun a=>nets_Hinge_way_eq fuel a)
theorem o0_nets_Hinge_place (mx:Int):OKs (BB mx) mm0 prog 4 [t_nets_Hinge_place fuel]:=fx_ok (m:=3) (d:=0) (OKs_cons (OKs_up (o0_cmp_Compare_int mx) (Nat.le_of_ble_eq_true rfl)) (OKs_cons (OKs_up (o0_nets_Square_compare mx) (Nat.le_of_ble_eq_true rfl)) (OKs_cons (OKs_up (o0_cmp_Or_int mx) (Nat.le_of_ble_eq_true rfl)) (OKs_cons (OKs_up (o0_nets_Hinge_way mx) (Nat.le_of_ble_eq_true rfl)) OKs_nil)))) CodeOK_nil (gok mx) ⟨fun _=>rfl,(c_nets_Hinge_place mx).2⟩ (fun a=>nets_Hinge_place_eq fuel a)
theorem o0_nets_Hinge_other (mx:Int):OKs (BB mx) mm0 prog 1 [t_nets_Hinge_other fuel]:=fx_ok (m:=0) (d:=0) OKs_nil CodeOK_nil (gok mx) ⟨fun _=>rfl,(c_nets_Hinge_other mx).2⟩ (fun a=>nets_Hinge_other_eq fuel a)
theorem o0_slices_BinarySearchFunc_nets_Square (mx:Int):OKs (BB mx) mm0 prog 4 [t_slices_BinarySearchFunc_nets_Square fuel]:=fx_ok (m:=3) (d:=0) (OKs_cons (OKs_up (o0_nets_Square_compare mx) (Nat.le_of_ble_eq_true rfl)) OKs_nil) CodeOK_nil (gok mx) ⟨fun _=>rfl,(c_slices_BinarySearchFunc_nets_Square mx).2⟩ (fun a=>slices_BinarySearchFunc_nets_Square_eq fuel a)
theorem o0_nets_Net_index (mx:Int):OKs (BB mx) mm0 prog 5 [t_nets_Net_index fuel]:=fx_ok (m:=4) (d:=0) (OKs_cons (OKs_up (o0_slices_BinarySearchFunc_nets_Square mx) (Nat.le_of_ble_eq_true rfl)) OKs_nil) CodeOK_nil (gok mx) ⟨fun _=>rfl,(c_nets_Net_index mx).2⟩ (fun a=>nets_Net_index_eq fuel a)
theorem o0_slices_Index_int (mx:Int):OKs (BB mx) mm0 prog 1 [t_slices_Index_int fuel]:=fx_ok (m:=0) (d:=0) OKs_nil CodeOK_nil (gok mx) ⟨fun _=>rfl,(c_slices_Index_int mx).2⟩ (fun a=>slices_Index_int_eq fuel a)
theorem o0_slices_Contains_int (mx:Int):OKs (BB mx) mm0 prog 2 [t_slices_Contains_int fuel]:=fx_ok (m:=1) (d:=0) (OKs_cons (OKs_up (o0_slices_Index_int mx) (Nat.le_of_ble_eq_true rfl)) OKs_nil) CodeOK_nil (gok mx) ⟨fun _=>rfl,(c_slices_Contains_int mx).2⟩ (fun a=>slices_Contains_int_eq fuel a)
theorem o0_nets_Net_joined (mx:Int):OKs (BB mx) mm0 prog 6 [t_nets_Net_joined fuel]:=fx_ok (m:=5) (d:=0) (OKs_cons (OKs_up (o0_nets_Net_index mx) (Nat.le_of_ble_eq_true rfl)) (OKs_cons (OKs_up (o0_nets_Hinge_other mx) (Nat.le_of_ble_eq_true rfl)) (OKs_cons (OKs_up (o0_slices_Contains_int mx) (Nat.le_of_ble_eq_true rfl)) OKs_nil))) CodeOK_nil (gok mx) ⟨fun _=>rfl,(c_nets_Net_joined mx).2⟩ (fun a=>nets_Net_joined_eq fuel a)
theorem o0_nets_Check (mx:Int):OKs (BB mx) mm0 prog 7 [t_nets_Check fuel]:=fx_ok (m:=6) (d:=0) (OKs_cons (OKs_up (o0_nets_Square_compare mx) (Nat.le_of_ble_eq_true rfl)) (OKs_cons (OKs_up (o0_nets_Hinge_place mx) (Nat.le_of_ble_eq_true rfl)) (OKs_cons (OKs_up (o0_nets_Net_index mx) (Nat.le_of_ble_eq_true rfl)) (OKs_cons (OKs_up (o0_nets_Hinge_other mx) (Nat.le_of_ble_eq_true rfl)) (OKs_cons (OKs_up (o0_nets_Net_joined mx) (Nat.le_of_ble_eq_true rfl)) OKs_nil))))) CodeOK_nil (gok mx) ⟨fun _=>rfl,(c_nets_Check mx).2⟩ (fun a=>nets_Check_eq fuel a)
theorem o0_law38_less (mx:Int):OKs (BB mx) mm0 prog 1 [t_law38_less fuel]:=fx_ok (m:=0) (d:=0) OKs_nil CodeOK_nil (gok mx) ⟨fun _=>rfl,(c_law38_less mx).2⟩ (fun a=>law38_less_eq fuel a)
theorem o0_law38_has (mx:Int):OKs (BB mx) mm0 prog 1 [t_law38_has fuel]:=fx_ok (m:=0) (d:=0) OKs_nil CodeOK_nil (gok mx) ⟨fun _=>rfl,(c_law38_has mx).2⟩ (fun a=>law38_has_eq fuel a)
theorem o0_law38_beside (mx:Int):OKs (BB mx) mm0 prog 1 [t_law38_beside fuel]:=fx_ok (m:=0) (d:=0) OKs_nil CodeOK_nil (gok mx) ⟨fun _=>rfl,(c_law38_beside mx).2⟩ (fun a=>law38_beside_eq fuel a)
theorem o0_law38_sorted (mx:Int):OKs (BB mx) mm0 prog 2 [t_law38_sorted fuel]:=fx_ok (m:=1) (d:=0) (OKs_cons (OKs_up (o0_law38_less mx) (Nat.le_of_ble_eq_true rfl)) OKs_nil) CodeOK_nil (gok mx) ⟨fun _=>rfl,(c_law38_sorted mx).2⟩ (fun a=>law38_sorted_eq fuel a)
theorem o0_law38_hinges (mx:Int):OKs (BB mx) mm0 prog 1 [t_law38_hinges fuel]:=fx_ok (m:=0) (d:=0) OKs_nil CodeOK_nil (gok mx) ⟨fun _=>rfl,(c_law38_hinges mx).2⟩ (fun a=>law38_hinges_eq fuel a)
theorem o0_law38_N_Tree (mx:Int):OKs (BB mx) mm0 prog 3 [t_law38_N_Tree fuel]:=fx_ok (m:=2) (d:=0) (OKs_cons (OKs_up (o0_law38_has mx) (Nat.le_of_ble_eq_true rfl)) (OKs_cons (OKs_up (o0_law38_beside mx) (Nat.le_of_ble_eq_true rfl)) (OKs_cons (OKs_up (o0_law38_hinges mx) (Nat.le_of_ble_eq_true rfl)) (OKs_cons (OKs_up (o0_law38_sorted mx) (Nat.le_of_ble_eq_true rfl)) OKs_nil)))) CodeOK_nil (gok mx) ⟨fun _=>rfl,(c_law38_N_Tree mx).2⟩ (fun a=>law38_N_Tree_eq fuel a)
theorem o0_math_bits_Len64 (mx:Int):OKs (BB mx) mm0 prog 1 [t_math_bits_Len64 fuel]:=tLen_TE (fun az g h=>memoOr_l h)
theorem o0_istrconv_log10Pow2 (mx:Int):OKs (BB mx) mm0 prog 1 [t_istrconv_log10Pow2 fuel]:=tLog_TE (fun az g h=>memoOr_r rfl h)
theorem o0_istrconv_numDigits (mx:Int):OKs (BB mx) mm0 prog 3 [t_istrconv_numDigits fuel]:=fx_ok (m:=1) (d:=1) (OKs_cons (OKs_up (o0_math_bits_Len64 mx) (Nat.le_of_ble_eq_true rfl)) (OKs_cons (OKs_up (o0_istrconv_log10Pow2 mx) (Nat.le_of_ble_eq_true rfl)) OKs_nil)) (CodeOK_cons ⟨fun _=>rfl,(c_istrconv_bool2_int mx).2⟩ CodeOK_nil) (gok mx) ⟨fun _=>rfl,(c_istrconv_numDigits mx).2⟩ (fun a=>istrconv_numDigits_eq fuel a)
theorem o0_strconv_Itoa (mx:Int):OKs (BB mx) mm0 prog 7 [t_strconv_Itoa fuel]:=fx_ok (m:=3) (d:=3) (OKs_cons (OKs_up (o0_istrconv_numDigits mx) (Nat.le_of_ble_eq_true rfl)) OKs_nil) (CodeOK_cons ⟨fun _=>rfl,(c_istrconv_Itoa mx).2⟩ (CodeOK_cons ⟨fun _=>rfl,(c_istrconv_FormatInt mx).2⟩ (CodeOK_cons ⟨fun _=>rfl,(c_istrconv_small mx).2⟩ (CodeOK_cons ⟨fun _=>rfl,(c_istrconv_formatBase10 mx).2⟩ CodeOK_nil)))) (gok mx) ⟨fun _=>rfl,(c_strconv_Itoa mx).2⟩ (fun a=>strconv_Itoa_eq fuel a)
theorem o_law38_N_Of (mx:Int):OKs (BB mx) (told mx) prog 1 [t_law38_N_Of fuel]:=tOf_TE (o0_law38_N_Tree mx _ (List.mem_singleton.2 rfl) 7 (by decide)) (o0_law38_hinges mx _ (List.mem_singleton.2 rfl) 7 (by decide)) (fun az g h=>memoOr_l h)
theorem o_law38_lives (mx:Int):OK mx 10 (t_law38_lives fuel):=fx_ok (m:=9) (d:=0) (OKs_cons (OKs_up (o_nets_Place mx) (Nat.le_of_ble_eq_true rfl)) (OKs_cons (OKs_up (o_nets_Spots mx) (Nat.le_of_ble_eq_true rfl)) (OKs_cons (OKs_up (o_nets_Turned mx) (Nat.le_of_ble_eq_true rfl)) OKs_nil))) CodeOK_nil (gok mx) (c_law38_lives mx) (fun a=>law38_lives_eq fuel a)
theorem o_nets_Compare_c1 (mx:Int):OK mx 5 (t_nets_Compare_c1 fuel):=fx_ok (m:=4) (d:=0) (OKs_cons (OKs_up (o_cmp_Or_int mx) (Nat.le_of_ble_eq_true rfl)) (OKs_cons (OKs_up (o_nets_Hinge_place mx) (Nat.le_of_ble_eq_true rfl)) (OKs_cons (OKs_up (o_cmp_Compare_int8 mx) (Nat.le_of_ble_eq_true rfl)) OKs_nil))) CodeOK_nil (gok mx) (c_nets_Compare_c1 mx) (fun a=>nets_Compare_c1_eq fuel a)
theorem o_slices_CompareFunc_nets_Square (mx:Int):OK mx 4 (t_slices_CompareFunc_nets_Square fuel):=fx_ok (m:=3) (d:=0) (OKs_cons (OKs_up (o_nets_Square_compare mx) (Nat.le_of_ble_eq_true rfl)) OKs_nil) CodeOK_nil (gok mx) (c_slices_CompareFunc_nets_Square mx) (fun a=>slices_CompareFunc_nets_Square_eq fuel a)
theorem o_slices_CompareFunc_nets_Hinge (mx:Int):OK mx 6 (t_slices_CompareFunc_nets_Hinge fuel):=fx_ok (m:=5) (d:=0) (OKs_cons (OKs_up (o_nets_Compare_c1 mx) (Nat.le_of_ble_eq_true rfl)) OKs_nil) CodeOK_nil (gok mx) (c_slices_CompareFunc_nets_Hinge mx) (fun a=>slices_CompareFunc_nets_Hinge_eq fuel a)
theorem o_nets_Text (mx:Int):OKs (BB mx) (told mx) prog 1 [t_nets_Text fuel]:=tText_TE (runC:=nets_Check fuel) (runI:=strconv_Itoa fuel) (o0_nets_Check mx _ (List.mem_singleton.2 rfl) 7 (by decide)) (o0_strconv_Itoa mx _ (List.mem_singleton.2 rfl) 7 (by decide)) (fun az g h=>memoOr_r rfl (memoOr_l h))
theorem o_nets_Compare (mx:Int):OK mx 7 (t_nets_Compare fuel):=fx_ok (m:=6) (d:=0) (OKs_cons (OKs_up (o_cmp_Compare_int mx) (Nat.le_of_ble_eq_true rfl)) (OKs_cons (OKs_up (o_slices_CompareFunc_nets_Square mx) (Nat.le_of_ble_eq_true rfl)) (OKs_cons (OKs_up (o_slices_CompareFunc_nets_Hinge mx) (Nat.le_of_ble_eq_true rfl)) OKs_nil))) CodeOK_nil (gok mx) (c_nets_Compare mx) (fun a=>nets_Compare_eq fuel a)
theorem o_law38_NetsCompare (mx:Int):OK mx 11 (t_law38_NetsCompare fuel):=fx_ok (m:=10) (d:=0) (OKs_cons (OKs_up (o_law38_N_Of mx) (Nat.le_of_ble_eq_true rfl)) (OKs_cons (OKs_up (o_nets_Compare mx) (Nat.le_of_ble_eq_true rfl)) (OKs_cons (OKs_up (o_nets_Text mx) (Nat.le_of_ble_eq_true rfl)) (OKs_cons (OKs_up (o_law38_lives mx) (Nat.le_of_ble_eq_true rfl)) (OKs_cons (OKs_up (o_law38_less mx) (Nat.le_of_ble_eq_true rfl)) OKs_nil))))) CodeOK_nil (gok mx) (c_law38_NetsCompare mx) (fun a=>law38_NetsCompare_eq fuel a)
end
end Vm
end Go.Proofs.YtahplmacekfjgaaGreatDoor
