/-
  The program's text for the machine. (Printed by a program.)
-/
import Derived.Test.YtldgdgacdcenkaaGreatDoorVmH
import Derived.Test.YtldgdgacdcenkaaGreatDoorZ
set_option linter.unusedSimpArgs false
set_option linter.unusedVariables false
namespace Go.Proofs.YtldgdgacdcenkaaGreatDoor
namespace Vm
open Go Go.Vm Go.Vm.W
noncomputable section
set_option maxRecDepth 100000
def k3:CFn:=X.z_law18_EndsFold.cfn
theorem kgf:cfn Tryz.prog gl Tryz.f3=some k3:=by kernel_rfl
def k4:CFn:=X.z_law18_EndsSteps.cfn
theorem kge:cfn Tryz.prog gl Tryz.f4=some k4:=by kernel_rfl
def k5:CFn:=X.z_law18_EndsFolds.cfn
theorem kgd:cfn Tryz.prog gl Tryz.f5=some k5:=by kernel_rfl
def k6:CFn:=X.z_law18_EndsPile.cfn
theorem kgc:cfn Tryz.prog gl Tryz.f6=some k6:=by kernel_rfl
def k7:CFn:=X.z_law18_EndsKnown.cfn
theorem kgb:cfn Tryz.prog gl Tryz.f7=some k7:=by kernel_rfl
def k8:CFn:=X.z_law18_D.cfn
theorem kga:cfn Tryz.prog gl Tryz.f8=some k8:=by kernel_rfl
def k9:CFn:=X.z_ends_Fold.cfn
theorem kf9:cfn Tryz.prog gl Tryz.f9=some k9:=by kernel_rfl
def k10:CFn:=X.z_ends_Folds.cfn
theorem ker:cfn Tryz.prog gl Tryz.f10=some k10:=by kernel_rfl
def k11:CFn:=X.z_ends_Steps.cfn
theorem kep:cfn Tryz.prog gl Tryz.f11=some k11:=by kernel_rfl
def k12:CFn:=X.z_law18_behind.cfn
theorem keo:cfn Tryz.prog gl Tryz.f12=some k12:=by kernel_rfl
def k13:CFn:=X.z_strips_Same.cfn
theorem ken:cfn Tryz.prog gl Tryz.f13=some k13:=by kernel_rfl
def k14:CFn:=X.z_law18_lives.cfn
theorem kem:cfn Tryz.prog gl Tryz.f14=some k14:=by kernel_rfl
def k15:CFn:=X.z_ends_Do.cfn
theorem kel:cfn Tryz.prog gl Tryz.f15=some k15:=by kernel_rfl
def k16:CFn:=X.z_law18_orders.cfn
theorem kek:cfn Tryz.prog gl Tryz.f16=some k16:=by kernel_rfl
def k17:CFn:=X.z_piles_Check.cfn
theorem kej:cfn Tryz.prog gl Tryz.f17=some k17:=by kernel_rfl
def k18:CFn:=X.z_ends_Pile.cfn
theorem kei:cfn Tryz.prog gl Tryz.f18=some k18:=by kernel_rfl
def k19:CFn:=X.z_law18_EndsAny.cfn
theorem keh:cfn Tryz.prog gl Tryz.f19=some k19:=by kernel_rfl
def k20:CFn:=X.z_law18_EndsBack.cfn
theorem keg:cfn Tryz.prog gl Tryz.f20=some k20:=by kernel_rfl
def k21:CFn:=X.z_law16_T_Of.cfn
theorem kef:cfn Tryz.prog gl Tryz.f21=some k21:=by kernel_rfl
def k22:CFn:=X.z_ends_decided.cfn
theorem kee:cfn Tryz.prog gl Tryz.f22=some k22:=by kernel_rfl
def k23:CFn:=X.z_ends_own.cfn
theorem ked:cfn Tryz.prog gl Tryz.f23=some k23:=by kernel_rfl
def k24:CFn:=X.z_ends_steps.cfn
theorem kec:cfn Tryz.prog gl Tryz.f24=some k24:=by kernel_rfl
def k25:CFn:=X.z_ends_done.cfn
theorem keb:cfn Tryz.prog gl Tryz.f25=some k25:=by kernel_rfl
def k26:CFn:=X.z_slices_Clip_ends_Step.cfn
theorem kea:cfn Tryz.prog gl Tryz.f26=some k26:=by kernel_rfl
def k27:CFn:=X.z_slices_Equal_int.cfn
theorem kd9:cfn Tryz.prog gl Tryz.f27=some k27:=by kernel_rfl
def k28:CFn:=X.z_slices_Equal_api_Kind.cfn
theorem kd8:cfn Tryz.prog gl Tryz.f28=some k28:=by kernel_rfl
def k29:CFn:=X.z_law18_strip.cfn
theorem kd7:cfn Tryz.prog gl Tryz.f29=some k29:=by kernel_rfl
def k30:CFn:=X.z_strips_Text.cfn
theorem kd6:cfn Tryz.prog gl Tryz.f30=some k30:=by kernel_rfl
def k31:CFn:=X.z_law18_list.cfn
theorem kd5:cfn Tryz.prog gl Tryz.f31=some k31:=by kernel_rfl
def k32:CFn:=X.z_piles_listed.cfn
theorem kd4:cfn Tryz.prog gl Tryz.f32=some k32:=by kernel_rfl
def k33:CFn:=X.z_piles_ranks.cfn
theorem kd3:cfn Tryz.prog gl Tryz.f33=some k33:=by kernel_rfl
def k34:CFn:=X.z_piles_folded_crosses.cfn
theorem kd0:cfn Tryz.prog gl Tryz.f34 its=some k34:=by kernel_rfl
def k35:CFn:=X.z_piles_kind.cfn
theorem kdz:cfn Tryz.prog gl Tryz.f35=some k35:=by kernel_rfl
def k36:CFn:=X.z_ends_Pile_c1.cfn
theorem kdy:cfn Tryz.prog gl Tryz.f36=some k36:=by kernel_rfl
def k37:CFn:=X.z_ends_undo.cfn
theorem kdx:cfn Tryz.prog gl Tryz.f37=some k37:=by kernel_rfl
def k38:CFn:=X.z_slices_Clip_int.cfn
theorem kdw:cfn Tryz.prog gl Tryz.f38=some k38:=by kernel_rfl
def k39:CFn:=X.z_law18_pair.cfn
theorem kdv:cfn Tryz.prog gl Tryz.f39=some k39:=by kernel_rfl
def k40:CFn:=X.z_law18_higher.cfn
theorem kdu:cfn Tryz.prog gl Tryz.f40=some k40:=by kernel_rfl
def k41:CFn:=X.z_strips_Check.cfn
theorem kdt:cfn Tryz.prog gl Tryz.f41=some k41:=by kernel_rfl
def k42:CFn:=X.z_slices_Contains_api_Kind.cfn
theorem kds:cfn Tryz.prog gl Tryz.f42=some k42:=by kernel_rfl
def k43:CFn:=X.z_slices_Clone_int.cfn
theorem kdr:cfn Tryz.prog gl Tryz.f43=some k43:=by kernel_rfl
def k44:CFn:=X.z_slices_Clip_api_Kind.cfn
theorem kdq:cfn Tryz.prog gl Tryz.f44=some k44:=by kernel_rfl
def k45:CFn:=X.z_slices_Clone_api_Kind.cfn
theorem kdp:cfn Tryz.prog gl Tryz.f45=some k45:=by kernel_rfl
def k46:CFn:=X.z_slices_Concat_int.cfn
theorem kdo:cfn Tryz.prog gl Tryz.f46=some k46:=by kernel_rfl
def k47:CFn:=X.z_slices_Concat_api_Kind.cfn
theorem kdn:cfn Tryz.prog gl Tryz.f47=some k47:=by kernel_rfl
def k48:CFn:=X.z_strips_Parse.cfn
theorem kdm:cfn Tryz.prog gl Tryz.f48=some k48:=by kernel_rfl
def k49:CFn:=X.z_strconv_Itoa.cfn
theorem kdl:cfn Tryz.prog gl Tryz.f49=some k49:=by kernel_rfl
def k51:CFn:=X.z_piles_of.cfn
theorem kdk:cfn Tryz.prog gl Tryz.f51=some k51:=by kernel_rfl
def k52:CFn:=X.z_slices_Contains_int.cfn
theorem kdj:cfn Tryz.prog gl Tryz.f52=some k52:=by kernel_rfl
def k53:CFn:=X.z_piles_folded_from.cfn
theorem kdi:cfn Tryz.prog gl Tryz.f53=some k53:=by kernel_rfl
def k54:CFn:=X.z_piles_folded_to.cfn
theorem kdh:cfn Tryz.prog gl Tryz.f54=some k54:=by kernel_rfl
def k55:CFn:=X.z_piles_between.cfn
theorem kdg:cfn Tryz.prog gl Tryz.f55=some k55:=by kernel_rfl
def k56:CFn:=X.z_piles_folded_loops.cfn
theorem kdf:cfn Tryz.prog gl Tryz.f56=some k56:=by kernel_rfl
def k57:CFn:=X.z_ends_counted.cfn
theorem kde:cfn Tryz.prog gl Tryz.f57=some k57:=by kernel_rfl
def k58:CFn:=X.z_slices_Reverse_int.cfn
theorem kdd:cfn Tryz.prog gl Tryz.f58=some k58:=by kernel_rfl
def k59:CFn:=X.z_slices_Index_int.cfn
theorem kdc:cfn Tryz.prog gl Tryz.f59=some k59:=by kernel_rfl
def k60:CFn:=X.z_ends_above.cfn
theorem kdb:cfn Tryz.prog gl Tryz.f60=some k60:=by kernel_rfl
def k63:CFn:=X.z_slices_Index_api_Kind.cfn
theorem kda:cfn Tryz.prog gl Tryz.f63=some k63:=by kernel_rfl
def k67:CFn:=X.z_slices_Index_string.cfn
theorem kc9:cfn Tryz.prog gl Tryz.f67=some k67:=by kernel_rfl
def k69:CFn:=X.z_istrconv_Itoa.cfn
theorem kc8:cfn Tryz.prog gl Tryz.f69=some k69:=by kernel_rfl
def k74:CFn:=⟨39,[],(.seq (.region [
 ⟨(some 6),none,(.p (.fad 0 (.t 1))),false,[]⟩,
 ⟨(some 7),none,(.p (.fad 1 (.t 6))),false,[]⟩,
 ⟨(some 8),none,(.h (.load false 1 (.t 7))),false,[]⟩,
 ⟨(some 9),none,(.p (.len (.t 8))),false,[]⟩,
 ⟨(some 10),none,(.p (.mov (.c (.int .i64 0)))),false,[]⟩]) (.block 0 (.loop (.seq (.region [
 ⟨(some 11),none,(.p (.bin .lss (.t 10) (.t 9))),false,[]⟩]) (.seq (.cond (.t 11) .skip (.exit 0)) (.seq (.block 1 (.seq (.region [
 ⟨(some 12),none,(.p (.mov (.t 10))),false,[]⟩,
 ⟨(some 5),none,(.p (.mov (.t 12))),false,[]⟩]) (.seq (.region [
 ⟨(some 13),none,(.p (.fad 2 (.t 1))),false,[]⟩,
 ⟨(some 14),none,(.h (.load false 1 (.t 13))),true,[]⟩,
 ⟨(some 15),none,(.p (.mov (.t 5))),false,[]⟩,
 ⟨(some 16),none,(.p (.bin .add (.t 15) (.c (.int .i64 1)))),false,[]⟩,
 ⟨(some 17),none,(.p (.iadS 1 (.t 14) (.t 16))),false,[]⟩,
 ⟨(some 18),none,(.h (.load false 1 (.t 17))),true,[]⟩,
 ⟨(some 19),none,(.h (.load false 1 (.t 2))),true,[]⟩,
 ⟨(some 20),none,(.p (.bin .eql (.t 18) (.t 19))),false,[]⟩,
 ⟨(some 21),none,(.p (.mov (.t 20))),false,[]⟩,
 ⟨(some 22),(some (21,true)),(.p (.fad 2 (.t 1))),false,[]⟩,
 ⟨(some 23),(some (21,true)),(.h (.load false 1 (.t 22))),true,[]⟩,
 ⟨(some 24),(some (21,true)),(.p (.mov (.t 5))),false,[]⟩,
 ⟨(some 25),(some (21,true)),(.p (.iadS 1 (.t 23) (.t 24))),false,[]⟩,
 ⟨(some 26),(some (21,true)),(.h (.load false 1 (.t 25))),true,[]⟩,
 ⟨(some 27),(some (21,true)),(.h (.load false 1 (.t 2))),true,[]⟩,
 ⟨(some 28),(some (21,true)),(.p (.bin .gtr (.t 26) (.t 27))),false,[]⟩,
 ⟨(some 29),(some (21,true)),(.h (.load false 1 (.t 3))),true,[]⟩,
 ⟨(some 30),(some (21,true)),(.p (.eqf false false [0] (.t 28) (.t 29))),false,[]⟩,
 ⟨(some 31),none,(.p (.pick (.t 21) (.t 30) (.c (.bool false)))),false,[]⟩,
 ⟨(some 32),none,(.p (.mov (.t 31))),false,[]⟩,
 ⟨(some 33),(some (32,true)),(.p (.mov (.t 0))),false,[]⟩,
 ⟨(some 34),(some (32,true)),(.p (.mov (.t 5))),false,[]⟩,
 ⟨(some 35),(some (32,true)),(.h (.calld (.t 33) [(.t 34)])),false,[]⟩,
 ⟨(some 36),(some (32,true)),(.p (.not (.t 35))),false,[]⟩,
 ⟨(some 37),none,(.p (.pick (.t 32) (.t 36) (.c (.bool false)))),false,[]⟩]) (.cond (.t 37) .ret .skip)))) (.region [
 ⟨(some 38),none,(.p (.bin .add (.t 10) (.c (.int .i64 1)))),false,[]⟩,
 ⟨(some 10),none,(.p (.mov (.t 38))),false,[]⟩])))))))⟩
theorem kc7:cfn Tryz.prog gl Tryz.f74=some k74:=by kernel_rfl
def k81:CFn:=X.z_istrconv_FormatInt.cfn
theorem kc6:cfn Tryz.prog gl Tryz.f81=some k81:=by kernel_rfl
def k94:CFn:=X.z_istrconv_small.cfn
theorem kc5:cfn Tryz.prog gl Tryz.f94=some k94:=by kernel_rfl
def k95:CFn:=X.z_istrconv_numDigits.cfn
theorem kc4:cfn Tryz.prog gl Tryz.f95=some k95:=by kernel_rfl
def k96:CFn:=X.z_istrconv_formatBase10.cfn
theorem kc3:cfn Tryz.prog gl Tryz.f96=some k96:=by kernel_rfl
def k97:CFn:=⟨102,[(.t 10),(.t 11)],(.seq (.region [
 ⟨(some 10),none,(.p (.mov (.c .nils))),false,[]⟩,
 ⟨(some 11),none,(.p (.mov (.c (.str [])))),false,[]⟩]) (.seq (.seq (.region [
 ⟨(some 19),none,(.p (.mov (.t 2))),false,[]⟩,
 ⟨(some 20),none,(.p (.bin .lss (.t 19) (.c (.int .i64 2)))),false,[]⟩,
 ⟨(some 21),none,(.p (.mov (.t 20))),false,[]⟩,
 ⟨(some 22),(some (21,false)),(.p (.mov (.t 2))),false,[]⟩,
 ⟨(some 23),(some (21,false)),(.p (.bin .eql (.t 22) (.c (.int .i64 10)))),false,[]⟩,
 ⟨(some 24),none,(.p (.pick (.t 21) (.c (.bool true)) (.t 23))),false,[]⟩,
 ⟨(some 25),none,(.p (.mov (.t 24))),false,[]⟩,
 ⟨(some 26),(some (25,false)),(.p (.mov (.t 2))),false,[]⟩,
 ⟨(some 27),(some (25,false)),(.p (.bin .gtr (.t 26) (.c (.int .i64 36)))),false,[]⟩,
 ⟨(some 28),none,(.p (.pick (.t 25) (.c (.bool true)) (.t 27))),false,[]⟩]) (.cond (.t 28) (.region [
 ⟨(some 29),none,(.p (.mkif 9 (.c (.str [115,116,114,99,111,110,118,58,32,105,108,108,101,103,97,108,32,65,112,112,101,110,100,73,110,116,47,70,111,114,109,97,116,73,110,116,32,98,97,115,101])))),false,[]⟩,
 ⟨none,none,(.h .bad),false,[]⟩]) .skip)) (.seq (.region [
 ⟨(some 12),none,(.h (.alloc [(.int .u8 0),(.int .u8 0),(.int .u8 0),(.int .u8 0),(.int .u8 0),(.int .u8 0),(.int .u8 0),(.int .u8 0),(.int .u8 0),(.int .u8 0),(.int .u8 0),(.int .u8 0),(.int .u8 0),(.int .u8 0),(.int .u8 0),(.int .u8 0),(.int .u8 0),(.int .u8 0),(.int .u8 0),(.int .u8 0),(.int .u8 0),(.int .u8 0),(.int .u8 0),(.int .u8 0),(.int .u8 0),(.int .u8 0),(.int .u8 0),(.int .u8 0),(.int .u8 0),(.int .u8 0),(.int .u8 0),(.int .u8 0),(.int .u8 0),(.int .u8 0),(.int .u8 0),(.int .u8 0),(.int .u8 0),(.int .u8 0),(.int .u8 0),(.int .u8 0),(.int .u8 0),(.int .u8 0),(.int .u8 0),(.int .u8 0),(.int .u8 0),(.int .u8 0),(.int .u8 0),(.int .u8 0),(.int .u8 0),(.int .u8 0),(.int .u8 0),(.int .u8 0),(.int .u8 0),(.int .u8 0),(.int .u8 0),(.int .u8 0),(.int .u8 0),(.int .u8 0),(.int .u8 0),(.int .u8 0),(.int .u8 0),(.int .u8 0),(.int .u8 0),(.int .u8 0),(.int .u8 0)])),false,[]⟩]) (.seq (.region [
 ⟨(some 13),none,(.p (.mov (.c (.int .i64 65)))),false,[]⟩]) (.seq (.seq (.region [
 ⟨(some 30),none,(.p (.mov (.t 3))),false,[]⟩]) (.cond (.t 30) (.region [
 ⟨(some 31),none,(.p (.mov (.t 1))),false,[]⟩,
 ⟨(some 32),none,(.p (.neg (.t 31))),false,[]⟩,
 ⟨(some 1),none,(.p (.mov (.t 32))),false,[]⟩]) .skip)) (.seq (.seq (.region [
 ⟨(some 33),none,(.p (.mov (.t 2))),false,[]⟩,
 ⟨(some 34),none,(.h (.call 111 [(.t 33)])),false,[]⟩]) (.cond (.t 34) (.seq (.region [
 ⟨(some 35),none,(.p (.mov (.t 2))),false,[]⟩,
 ⟨(some 36),none,(.p (.cvi .u64 (.t 35))),false,[]⟩,
 ⟨(some 37),none,(.h (.call 112 [(.t 36)])),false,[]⟩,
 ⟨(some 38),none,(.p (.cvi .u64 (.t 37))),false,[]⟩,
 ⟨(some 14),none,(.p (.mov (.t 38))),false,[]⟩]) (.seq (.region [
 ⟨(some 39),none,(.p (.mov (.t 2))),false,[]⟩,
 ⟨(some 40),none,(.p (.cvi .u64 (.t 39))),false,[]⟩,
 ⟨(some 15),none,(.p (.mov (.t 40))),false,[]⟩]) (.seq (.region [
 ⟨(some 41),none,(.p (.mov (.t 2))),false,[]⟩,
 ⟨(some 42),none,(.p (.cvi .u64 (.t 41))),false,[]⟩,
 ⟨(some 43),none,(.p (.bin .sub (.t 42) (.c (.int .u64 1)))),false,[]⟩,
 ⟨(some 16),none,(.p (.mov (.t 43))),false,[]⟩]) (.seq (.block 0 (.loop (.seq (.seq (.region [
 ⟨(some 44),none,(.p (.mov (.t 1))),false,[]⟩,
 ⟨(some 45),none,(.p (.mov (.t 15))),false,[]⟩,
 ⟨(some 46),none,(.p (.bin .geq (.t 44) (.t 45))),false,[]⟩]) (.cond (.t 46) .skip (.exit 0))) (.block 1 (.seq (.region [
 ⟨(some 47),none,(.p (.mov (.t 13))),false,[]⟩,
 ⟨(some 48),none,(.p (.bin .sub (.t 47) (.c (.int .i64 1)))),false,[]⟩,
 ⟨(some 13),none,(.p (.mov (.t 48))),false,[]⟩]) (.seq (.region [
 ⟨(some 49),none,(.p (.mov (.t 13))),false,[]⟩,
 ⟨(some 50),none,(.p (.mov (.t 1))),false,[]⟩,
 ⟨(some 51),none,(.p (.mov (.t 16))),false,[]⟩,
 ⟨(some 52),none,(.p (.bin .and (.t 50) (.t 51))),false,[]⟩,
 ⟨(some 53),none,(.p (.idxS (.c (.str [48,49,50,51,52,53,54,55,56,57,97,98,99,100,101,102,103,104,105,106,107,108,109,110,111,112,113,114,115,116,117,118,119,120,121,122])) (.t 52))),false,[]⟩,
 ⟨(some 54),none,(.p (.iadA 65 1 (.t 12) (.t 49))),false,[]⟩,
 ⟨none,none,(.h (.store 1 (.t 54) (.t 53))),false,[]⟩]) (.region [
 ⟨(some 55),none,(.p (.mov (.t 1))),false,[]⟩,
 ⟨(some 56),none,(.p (.mov (.t 14))),false,[]⟩,
 ⟨(some 57),none,(.p (.bin .shr (.t 55) (.t 56))),false,[]⟩,
 ⟨(some 1),none,(.p (.mov (.t 57))),false,[]⟩]))))))) (.seq (.region [
 ⟨(some 58),none,(.p (.mov (.t 13))),false,[]⟩,
 ⟨(some 59),none,(.p (.bin .sub (.t 58) (.c (.int .i64 1)))),false,[]⟩,
 ⟨(some 13),none,(.p (.mov (.t 59))),false,[]⟩]) (.region [
 ⟨(some 60),none,(.p (.mov (.t 13))),false,[]⟩,
 ⟨(some 61),none,(.p (.mov (.t 1))),false,[]⟩,
 ⟨(some 62),none,(.p (.idxS (.c (.str [48,49,50,51,52,53,54,55,56,57,97,98,99,100,101,102,103,104,105,106,107,108,109,110,111,112,113,114,115,116,117,118,119,120,121,122])) (.t 61))),false,[]⟩,
 ⟨(some 63),none,(.p (.iadA 65 1 (.t 12) (.t 60))),false,[]⟩,
 ⟨none,none,(.h (.store 1 (.t 63) (.t 62))),false,[]⟩])))))) (.seq (.region [
 ⟨(some 64),none,(.p (.mov (.t 2))),false,[]⟩,
 ⟨(some 65),none,(.p (.cvi .u64 (.t 64))),false,[]⟩,
 ⟨(some 17),none,(.p (.mov (.t 65))),false,[]⟩]) (.seq (.block 2 (.loop (.seq (.seq (.region [
 ⟨(some 66),none,(.p (.mov (.t 1))),false,[]⟩,
 ⟨(some 67),none,(.p (.mov (.t 17))),false,[]⟩,
 ⟨(some 68),none,(.p (.bin .geq (.t 66) (.t 67))),false,[]⟩]) (.cond (.t 68) .skip (.exit 2))) (.block 3 (.seq (.region [
 ⟨(some 69),none,(.p (.mov (.t 13))),false,[]⟩,
 ⟨(some 70),none,(.p (.bin .sub (.t 69) (.c (.int .i64 1)))),false,[]⟩,
 ⟨(some 13),none,(.p (.mov (.t 70))),false,[]⟩]) (.seq (.region [
 ⟨(some 71),none,(.p (.mov (.t 1))),false,[]⟩,
 ⟨(some 72),none,(.p (.mov (.t 17))),false,[]⟩,
 ⟨(some 73),none,(.p (.bin .quo (.t 71) (.t 72))),false,[]⟩,
 ⟨(some 18),none,(.p (.mov (.t 73))),false,[]⟩]) (.seq (.region [
 ⟨(some 74),none,(.p (.mov (.t 13))),false,[]⟩,
 ⟨(some 75),none,(.p (.mov (.t 1))),false,[]⟩,
 ⟨(some 76),none,(.p (.mov (.t 18))),false,[]⟩,
 ⟨(some 77),none,(.p (.mov (.t 17))),false,[]⟩,
 ⟨(some 78),none,(.p (.bin .mul (.t 76) (.t 77))),false,[]⟩,
 ⟨(some 79),none,(.p (.bin .sub (.t 75) (.t 78))),false,[]⟩,
 ⟨(some 80),none,(.p (.idxS (.c (.str [48,49,50,51,52,53,54,55,56,57,97,98,99,100,101,102,103,104,105,106,107,108,109,110,111,112,113,114,115,116,117,118,119,120,121,122])) (.t 79))),false,[]⟩,
 ⟨(some 81),none,(.p (.iadA 65 1 (.t 12) (.t 74))),false,[]⟩,
 ⟨none,none,(.h (.store 1 (.t 81) (.t 80))),false,[]⟩]) (.region [
 ⟨(some 82),none,(.p (.mov (.t 18))),false,[]⟩,
 ⟨(some 1),none,(.p (.mov (.t 82))),false,[]⟩])))))))) (.seq (.region [
 ⟨(some 83),none,(.p (.mov (.t 13))),false,[]⟩,
 ⟨(some 84),none,(.p (.bin .sub (.t 83) (.c (.int .i64 1)))),false,[]⟩,
 ⟨(some 13),none,(.p (.mov (.t 84))),false,[]⟩]) (.region [
 ⟨(some 85),none,(.p (.mov (.t 13))),false,[]⟩,
 ⟨(some 86),none,(.p (.mov (.t 1))),false,[]⟩,
 ⟨(some 87),none,(.p (.idxS (.c (.str [48,49,50,51,52,53,54,55,56,57,97,98,99,100,101,102,103,104,105,106,107,108,109,110,111,112,113,114,115,116,117,118,119,120,121,122])) (.t 86))),false,[]⟩,
 ⟨(some 88),none,(.p (.iadA 65 1 (.t 12) (.t 85))),false,[]⟩,
 ⟨none,none,(.h (.store 1 (.t 88) (.t 87))),false,[]⟩])))))) (.seq (.seq (.region [
 ⟨(some 89),none,(.p (.mov (.t 3))),false,[]⟩]) (.cond (.t 89) (.seq (.region [
 ⟨(some 90),none,(.p (.mov (.t 13))),false,[]⟩,
 ⟨(some 91),none,(.p (.bin .sub (.t 90) (.c (.int .i64 1)))),false,[]⟩,
 ⟨(some 13),none,(.p (.mov (.t 91))),false,[]⟩]) (.region [
 ⟨(some 92),none,(.p (.mov (.t 13))),false,[]⟩,
 ⟨(some 93),none,(.p (.iadA 65 1 (.t 12) (.t 92))),false,[]⟩,
 ⟨none,none,(.h (.store 1 (.t 93) (.c (.int .u8 45)))),false,[]⟩])) .skip)) (.seq (.seq (.region [
 ⟨(some 94),none,(.p (.mov (.t 4))),false,[]⟩]) (.cond (.t 94) (.seq (.region [
 ⟨(some 95),none,(.p (.mov (.t 0))),false,[]⟩,
 ⟨(some 96),none,(.p (.mov (.t 13))),false,[]⟩,
 ⟨(some 97),none,(.h (.slA 65 1 (.t 12) (some (.t 96)) none none)),false,[]⟩,
 ⟨(some 98),none,(.h (.app 1 1 (.t 95) (.t 97))),false,[]⟩,
 ⟨(some 10),none,(.p (.mov (.t 98))),false,[]⟩]) .ret) .skip)) (.seq (.region [
 ⟨(some 99),none,(.p (.mov (.t 13))),false,[]⟩,
 ⟨(some 100),none,(.h (.slA 65 1 (.t 12) (some (.t 99)) none none)),false,[]⟩,
 ⟨(some 101),none,(.h (.b2s (.t 100))),false,[]⟩,
 ⟨(some 11),none,(.p (.mov (.t 101))),false,[]⟩]) .ret)))))))))⟩
theorem kc2:cfn Tryz.prog gl Tryz.f97=some k97:=by kernel_rfl
def kgn:CFn:=X.z_istrconv_bool2_int.cfn
theorem kao:cfn Tryz.prog gl Tryz.f110=some kgn:=by kernel_rfl
def kgm:CFn:=⟨8,[(.t 2)],(.seq (.region [
 ⟨(some 2),none,(.p (.mov (.c (.bool false)))),false,[]⟩]) (.seq (.region [
 ⟨(some 3),none,(.p (.mov (.t 0))),false,[]⟩,
 ⟨(some 4),none,(.p (.mov (.t 0))),false,[]⟩,
 ⟨(some 5),none,(.p (.bin .sub (.t 4) (.c (.int .i64 1)))),false,[]⟩,
 ⟨(some 6),none,(.p (.bin .and (.t 3) (.t 5))),false,[]⟩,
 ⟨(some 7),none,(.p (.bin .eql (.t 6) (.c (.int .i64 0)))),false,[]⟩,
 ⟨(some 2),none,(.p (.mov (.t 7))),false,[]⟩]) .ret))⟩
theorem kan:cfn Tryz.prog gl Tryz.f111=some kgm:=by kernel_rfl
def kgl:CFn:=⟨8,[(.t 2)],(.seq (.region [
 ⟨(some 2),none,(.p (.mov (.c (.int .i64 0)))),false,[]⟩]) (.seq (.cond (.c (.bool false)) (.seq (.region [
 ⟨(some 3),none,(.p (.mov (.t 0))),false,[]⟩,
 ⟨(some 4),none,(.p (.cvi .u32 (.t 3))),false,[]⟩,
 ⟨(some 5),none,(.h (.call 120 [(.t 4)])),false,[]⟩,
 ⟨(some 2),none,(.p (.mov (.t 5))),false,[]⟩]) .ret) .skip) (.seq (.region [
 ⟨(some 6),none,(.p (.mov (.t 0))),false,[]⟩,
 ⟨(some 7),none,(.h (.call 121 [(.t 6)])),false,[]⟩,
 ⟨(some 2),none,(.p (.mov (.t 7))),false,[]⟩]) .ret)))⟩
theorem kam:cfn Tryz.prog gl Tryz.f112=some kgl:=by kernel_rfl
def kgk:CFn:=⟨14,[(.t 2)],(.seq (.region [
 ⟨(some 2),none,(.p (.mov (.c (.int .i64 0)))),false,[]⟩]) (.seq (.seq (.region [
 ⟨(some 3),none,(.p (.mov (.t 0))),false,[]⟩,
 ⟨(some 4),none,(.p (.bin .eql (.t 3) (.c (.int .u32 0)))),false,[]⟩]) (.cond (.t 4) (.seq (.region [
 ⟨(some 2),none,(.p (.mov (.c (.int .i64 32)))),false,[]⟩]) .ret) .skip)) (.seq (.region [
 ⟨(some 5),none,(.p (.mov (.t 0))),false,[]⟩,
 ⟨(some 6),none,(.p (.mov (.t 0))),false,[]⟩,
 ⟨(some 7),none,(.p (.neg (.t 6))),false,[]⟩,
 ⟨(some 8),none,(.p (.bin .and (.t 5) (.t 7))),false,[]⟩,
 ⟨(some 9),none,(.p (.bin .mul (.t 8) (.c (.int .u32 125613361)))),false,[]⟩,
 ⟨(some 10),none,(.p (.bin .shr (.t 9) (.c (.int .u64 27)))),false,[]⟩,
 ⟨(some 11),none,(.p (.iadA 32 1 (.c (.ptr 8 0)) (.t 10))),false,[]⟩,
 ⟨(some 12),none,(.h (.load false 1 (.t 11))),false,[]⟩,
 ⟨(some 13),none,(.p (.cvi .i64 (.t 12))),false,[]⟩,
 ⟨(some 2),none,(.p (.mov (.t 13))),false,[]⟩]) .ret)))⟩
theorem kal:cfn Tryz.prog gl Tryz.f120=some kgk:=by kernel_rfl
def kgj:CFn:=⟨14,[(.t 2)],(.seq (.region [
 ⟨(some 2),none,(.p (.mov (.c (.int .i64 0)))),false,[]⟩]) (.seq (.seq (.region [
 ⟨(some 3),none,(.p (.mov (.t 0))),false,[]⟩,
 ⟨(some 4),none,(.p (.bin .eql (.t 3) (.c (.int .u64 0)))),false,[]⟩]) (.cond (.t 4) (.seq (.region [
 ⟨(some 2),none,(.p (.mov (.c (.int .i64 64)))),false,[]⟩]) .ret) .skip)) (.seq (.region [
 ⟨(some 5),none,(.p (.mov (.t 0))),false,[]⟩,
 ⟨(some 6),none,(.p (.mov (.t 0))),false,[]⟩,
 ⟨(some 7),none,(.p (.neg (.t 6))),false,[]⟩,
 ⟨(some 8),none,(.p (.bin .and (.t 5) (.t 7))),false,[]⟩,
 ⟨(some 9),none,(.p (.bin .mul (.t 8) (.c (.int .u64 285870213051353865)))),false,[]⟩,
 ⟨(some 10),none,(.p (.bin .shr (.t 9) (.c (.int .u64 58)))),false,[]⟩,
 ⟨(some 11),none,(.p (.iadA 64 1 (.c (.ptr 9 0)) (.t 10))),false,[]⟩,
 ⟨(some 12),none,(.h (.load false 1 (.t 11))),false,[]⟩,
 ⟨(some 13),none,(.p (.cvi .i64 (.t 12))),false,[]⟩,
 ⟨(some 2),none,(.p (.mov (.t 13))),false,[]⟩]) .ret)))⟩
theorem kak:cfn Tryz.prog gl Tryz.f121=some kgj:=by kernel_rfl
def kgi:CFn:=X.z_ends_left.cfn
theorem kaj:cfn Tryz.prog gl Tryz.f144=some kgi:=by kernel_rfl
def kgh:CFn:=X.z_ends_right.cfn
theorem kai:cfn Tryz.prog gl Tryz.f145=some kgh:=by kernel_rfl
def kgg:CFn:=X.z_ends_crimp.cfn
theorem kah:cfn Tryz.prog gl Tryz.f146=some kgg:=by kernel_rfl
end
end Vm
end Go.Proofs.YtldgdgacdcenkaaGreatDoor
