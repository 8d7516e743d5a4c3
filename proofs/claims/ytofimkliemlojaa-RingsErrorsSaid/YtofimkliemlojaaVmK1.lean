/-
  The program's text for the machine. (Printed by a program.)
-/
import Derived.Test.YtofimkliemlojaaVmH
import Derived.KernelRfl
import Derived.Test.YtofimkliemlojaaZ
set_option linter.unusedSimpArgs false
set_option linter.unusedVariables false
set_option linter.unusedSectionVars false
set_option linter.unnecessarySimpa false
namespace Go.Proofs.Ytofimkliemlojaa
namespace Vm
open Go Go.Vm Go.Vm.W
noncomputable section
set_option maxRecDepth 100000
def k7:CFn:=X.z_law22_RingsErrors.cfn
theorem k7_ok:cfn Try.prog gl Try.f7=some k7:=by kernel_rfl
def k11:CFn:=X.z_rings_Check.cfn
theorem k11_ok:cfn Try.prog gl Try.f11=some k11:=by kernel_rfl
def k12:CFn:=X.z_rings_Valid.cfn
theorem k12_ok:cfn Try.prog gl Try.f12=some k12:=by kernel_rfl
def k13:CFn:=X.z_law22_check.cfn
theorem k13_ok:cfn Try.prog gl Try.f13=some k13:=by kernel_rfl
def k14:CFn:=X.z_law22_lives.cfn
theorem k14_ok:cfn Try.prog gl Try.f14=some k14:=by kernel_rfl
def k16:CFn:=X.z_rings_Least.cfn
theorem k16_ok:cfn Try.prog gl Try.f16=some k16:=by kernel_rfl
def k17:CFn:=X.z_law22_list.cfn
theorem k17_ok:cfn Try.prog gl Try.f17=some k17:=by kernel_rfl
def k18:CFn:=X.z_rings_Count.cfn
theorem k18_ok:cfn Try.prog gl Try.f18=some k18:=by kernel_rfl
def k19:CFn:=X.z_rings_First.cfn
theorem k19_ok:cfn Try.prog gl Try.f19=some k19:=by kernel_rfl
def k20:CFn:=X.z_law22_ends.cfn
theorem k20_ok:cfn Try.prog gl Try.f20=some k20:=by kernel_rfl
def k21:CFn:=X.z_rings_Turn.cfn
theorem k21_ok:cfn Try.prog gl Try.f21=some k21:=by kernel_rfl
def k22:CFn:=X.z_rings_Open.cfn
theorem k22_ok:cfn Try.prog gl Try.f22=some k22:=by kernel_rfl
def k25:CFn:=X.z_rings_Unit.cfn
theorem k25_ok:cfn Try.prog gl Try.f25=some k25:=by kernel_rfl
def k26:CFn:=X.z_rings_Difference.cfn
theorem k26_ok:cfn Try.prog gl Try.f26=some k26:=by kernel_rfl
def k27:CFn:=X.z_rings_Kinds.cfn
theorem k27_ok:cfn Try.prog gl Try.f27=some k27:=by kernel_rfl
def k30:CFn:=X.z_rings_listed.cfn
theorem k30_ok:cfn Try.prog gl Try.f30=some k30:=by kernel_rfl
def k31:CFn:=X.z_rings_of.cfn
theorem k31_ok:cfn Try.prog gl Try.f31=some k31:=by kernel_rfl
def k32:CFn:=X.z_rings_rank.cfn
theorem k32_ok:cfn Try.prog gl Try.f32=some k32:=by kernel_rfl
def k33:CFn:=X.z_rings_folded_crosses.cfn
theorem k33_ok:cfn Try.prog gl Try.f33 its=some k33:=by kernel_rfl
def k34:CFn:=X.z_rings_folded_wrong.cfn
theorem k34_ok:cfn Try.prog gl Try.f34=some k34:=by kernel_rfl
def k35:CFn:=X.z_law22_fits.cfn
theorem k35_ok:cfn Try.prog gl Try.f35=some k35:=by kernel_rfl
def k36:CFn:=X.z_rings_folded_least.cfn
theorem k36_ok:cfn Try.prog gl Try.f36=some k36:=by kernel_rfl
def k37:CFn:=X.z_rings_searched.cfn
theorem k37_ok:cfn Try.prog gl Try.f37=some k37:=by kernel_rfl
def k38:CFn:=X.z_rings_ways.cfn
theorem k38_ok:cfn Try.prog gl Try.f38=some k38:=by kernel_rfl
def k39:CFn:=X.z_rings_begun_int.cfn
theorem k39_ok:cfn Try.prog gl Try.f39=some k39:=by kernel_rfl
def k40:CFn:=X.z_rings_begun_api_Kind.cfn
theorem k40_ok:cfn Try.prog gl Try.f40=some k40:=by kernel_rfl
def k41:CFn:=X.z_rings_folded_behind.cfn
theorem k41_ok:cfn Try.prog gl Try.f41=some k41:=by kernel_rfl
def k42:CFn:=X.z_slices_Clip_api_Kind.cfn
theorem k42_ok:cfn Try.prog gl Try.f42=some k42:=by kernel_rfl
def k43:CFn:=X.z_slices_Clip_int.cfn
theorem k43_ok:cfn Try.prog gl Try.f43=some k43:=by kernel_rfl
def k44:CFn:=X.z_slices_Clone_int.cfn
theorem k44_ok:cfn Try.prog gl Try.f44=some k44:=by kernel_rfl
def k46:CFn:=X.z_slices_Repeat_int.cfn
theorem k46_ok:cfn Try.prog gl Try.f46=some k46:=by kernel_rfl
def k47:CFn:=X.z_slices_Repeat_api_Kind.cfn
theorem k47_ok:cfn Try.prog gl Try.f47=some k47:=by kernel_rfl
def k48:CFn:=X.z_rings_folded_kind.cfn
theorem k48_ok:cfn Try.prog gl Try.f48=some k48:=by kernel_rfl
def k53:CFn:=X.z_slices_Contains_int.cfn
theorem k53_ok:cfn Try.prog gl Try.f53=some k53:=by kernel_rfl
def k54:CFn:=X.z_rings_folded_from.cfn
theorem k54_ok:cfn Try.prog gl Try.f54=some k54:=by kernel_rfl
def k55:CFn:=X.z_rings_folded_to.cfn
theorem k55_ok:cfn Try.prog gl Try.f55=some k55:=by kernel_rfl
def k56:CFn:=X.z_rings_folded_between.cfn
theorem k56_ok:cfn Try.prog gl Try.f56=some k56:=by kernel_rfl
def k57:CFn:=X.z_rings_folded_beside.cfn
theorem k57_ok:cfn Try.prog gl Try.f57=some k57:=by kernel_rfl
def k58:CFn:=X.z_rings_ways_c1.cfn
theorem k58_ok:cfn Try.prog gl Try.f58=some k58:=by kernel_rfl
def k61:CFn:=⟨36,[(.t 4)],(.seq (.region [
 ⟨(some 4),none,(.p (.mov (.c (.int .i64 0)))),false,[]⟩]) (.seq (.seq (.region [
 ⟨(some 9),none,(.p (.mov (.t 0))),false,[]⟩,
 ⟨(some 10),none,(.p (.len (.t 9))),false,[]⟩,
 ⟨(some 11),none,(.p (.mov (.c (.int .i64 0)))),false,[]⟩]) (.block 0 (.loop (.seq (.region [
 ⟨(some 12),none,(.p (.bin .lss (.t 11) (.t 10))),false,[]⟩]) (.seq (.cond (.t 12) .skip (.exit 0)) (.seq (.block 1 (.seq (.region [
 ⟨(some 13),none,(.p (.mov (.t 11))),false,[]⟩,
 ⟨(some 14),none,(.p (.iadS 1 (.t 9) (.t 11))),false,[]⟩,
 ⟨(some 15),none,(.h (.load false 1 (.t 14))),false,[]⟩,
 ⟨(some 5),none,(.p (.mov (.t 13))),false,[]⟩,
 ⟨(some 6),none,(.p (.mov (.t 15))),false,[]⟩]) (.seq (.seq (.region [
 ⟨(some 16),none,(.p (.mov (.t 5))),false,[]⟩,
 ⟨(some 17),none,(.p (.mov (.t 1))),false,[]⟩,
 ⟨(some 18),none,(.p (.len (.t 17))),false,[]⟩,
 ⟨(some 19),none,(.p (.bin .geq (.t 16) (.t 18))),false,[]⟩]) (.cond (.t 19) (.seq (.region [
 ⟨(some 4),none,(.p (.mov (.c (.int .i64 1)))),false,[]⟩]) .ret) .skip)) (.seq (.region [
 ⟨(some 20),none,(.p (.mov (.t 1))),false,[]⟩,
 ⟨(some 21),none,(.p (.mov (.t 5))),false,[]⟩,
 ⟨(some 22),none,(.p (.iadS 1 (.t 20) (.t 21))),false,[]⟩,
 ⟨(some 23),none,(.h (.load false 1 (.t 22))),false,[]⟩,
 ⟨(some 7),none,(.p (.mov (.t 23))),false,[]⟩]) (.seq (.region [
 ⟨(some 24),none,(.p (.mov (.t 6))),false,[]⟩,
 ⟨(some 25),none,(.p (.mov (.t 7))),false,[]⟩,
 ⟨(some 26),none,(.h (.call 76 [(.t 24),(.t 25)])),false,[]⟩,
 ⟨(some 8),none,(.p (.mov (.t 26))),false,[]⟩]) (.seq (.region [
 ⟨(some 27),none,(.p (.mov (.t 8))),false,[]⟩,
 ⟨(some 28),none,(.p (.bin .neq (.t 27) (.c (.int .i64 0)))),false,[]⟩]) (.cond (.t 28) (.seq (.region [
 ⟨(some 29),none,(.p (.mov (.t 8))),false,[]⟩,
 ⟨(some 4),none,(.p (.mov (.t 29))),false,[]⟩]) .ret) .skip))))))) (.region [
 ⟨(some 30),none,(.p (.bin .add (.t 11) (.c (.int .i64 1)))),false,[]⟩,
 ⟨(some 11),none,(.p (.mov (.t 30))),false,[]⟩]))))))) (.seq (.seq (.region [
 ⟨(some 31),none,(.p (.mov (.t 0))),false,[]⟩,
 ⟨(some 32),none,(.p (.len (.t 31))),false,[]⟩,
 ⟨(some 33),none,(.p (.mov (.t 1))),false,[]⟩,
 ⟨(some 34),none,(.p (.len (.t 33))),false,[]⟩,
 ⟨(some 35),none,(.p (.bin .lss (.t 32) (.t 34))),false,[]⟩]) (.cond (.t 35) (.seq (.region [
 ⟨(some 4),none,(.p (.mov (.c (.int .i64 (-1))))),false,[]⟩]) .ret) .skip)) (.seq (.region [
 ⟨(some 4),none,(.p (.mov (.c (.int .i64 0)))),false,[]⟩]) .ret))))⟩
theorem k61_ok:cfn Try.prog gl Try.f61=some k61:=by kernel_rfl
def k62:CFn:=X.z_slices_Concat_int.cfn
theorem k62_ok:cfn Try.prog gl Try.f62=some k62:=by kernel_rfl
def k63:CFn:=X.z_slices_Concat_api_Kind.cfn
theorem k63_ok:cfn Try.prog gl Try.f63=some k63:=by kernel_rfl
def k64:CFn:=X.z_math_bits_Mul.cfn
theorem k64_ok:cfn Try.prog gl Try.f64=some k64:=by kernel_rfl
def k70:CFn:=X.z_slices_Index_int.cfn
theorem k70_ok:cfn Try.prog gl Try.f70=some k70:=by kernel_rfl
def k76:CFn:=⟨20,[(.t 4)],(.seq (.region [
 ⟨(some 4),none,(.p (.mov (.c (.int .i64 0)))),false,[]⟩]) (.seq (.region [
 ⟨(some 7),none,(.p (.mov (.t 0))),false,[]⟩,
 ⟨(some 8),none,(.h (.call 94 [(.t 7)])),false,[]⟩,
 ⟨(some 5),none,(.p (.mov (.t 8))),false,[]⟩]) (.seq (.region [
 ⟨(some 9),none,(.p (.mov (.t 1))),false,[]⟩,
 ⟨(some 10),none,(.h (.call 94 [(.t 9)])),false,[]⟩,
 ⟨(some 6),none,(.p (.mov (.t 10))),false,[]⟩]) (.seq (.seq (.region [
 ⟨(some 11),none,(.p (.mov (.t 5))),false,[]⟩]) (.cond (.t 11) (.seq (.seq (.region [
 ⟨(some 12),none,(.p (.mov (.t 6))),false,[]⟩]) (.cond (.t 12) (.seq (.region [
 ⟨(some 4),none,(.p (.mov (.c (.int .i64 0)))),false,[]⟩]) .ret) .skip)) (.seq (.region [
 ⟨(some 4),none,(.p (.mov (.c (.int .i64 (-1))))),false,[]⟩]) .ret)) .skip)) (.seq (.seq (.region [
 ⟨(some 13),none,(.p (.mov (.t 6))),false,[]⟩]) (.cond (.t 13) (.seq (.region [
 ⟨(some 4),none,(.p (.mov (.c (.int .i64 1)))),false,[]⟩]) .ret) .skip)) (.seq (.seq (.region [
 ⟨(some 14),none,(.p (.mov (.t 0))),false,[]⟩,
 ⟨(some 15),none,(.p (.mov (.t 1))),false,[]⟩,
 ⟨(some 16),none,(.p (.bin .lss (.t 14) (.t 15))),false,[]⟩]) (.cond (.t 16) (.seq (.region [
 ⟨(some 4),none,(.p (.mov (.c (.int .i64 (-1))))),false,[]⟩]) .ret) .skip)) (.seq (.seq (.region [
 ⟨(some 17),none,(.p (.mov (.t 0))),false,[]⟩,
 ⟨(some 18),none,(.p (.mov (.t 1))),false,[]⟩,
 ⟨(some 19),none,(.p (.bin .gtr (.t 17) (.t 18))),false,[]⟩]) (.cond (.t 19) (.seq (.region [
 ⟨(some 4),none,(.p (.mov (.c (.int .i64 1)))),false,[]⟩]) .ret) .skip)) (.seq (.region [
 ⟨(some 4),none,(.p (.mov (.c (.int .i64 0)))),false,[]⟩]) .ret))))))))⟩
theorem k76_ok:cfn Try.prog gl Try.f76=some k76:=by kernel_rfl
def k79:CFn:=⟨17,[(.t 4),(.t 5)],(.seq (.region [
 ⟨(some 4),none,(.p (.mov (.c (.int .u32 0)))),false,[]⟩,
 ⟨(some 5),none,(.p (.mov (.c (.int .u32 0)))),false,[]⟩]) (.seq (.region [
 ⟨(some 7),none,(.p (.mov (.t 0))),false,[]⟩,
 ⟨(some 8),none,(.p (.cvi .u64 (.t 7))),false,[]⟩,
 ⟨(some 9),none,(.p (.mov (.t 1))),false,[]⟩,
 ⟨(some 10),none,(.p (.cvi .u64 (.t 9))),false,[]⟩,
 ⟨(some 11),none,(.p (.bin .mul (.t 8) (.t 10))),false,[]⟩,
 ⟨(some 6),none,(.p (.mov (.t 11))),false,[]⟩]) (.seq (.region [
 ⟨(some 12),none,(.p (.mov (.t 6))),false,[]⟩,
 ⟨(some 13),none,(.p (.bin .shr (.t 12) (.c (.int .u64 32)))),false,[]⟩,
 ⟨(some 14),none,(.p (.cvi .u32 (.t 13))),false,[]⟩,
 ⟨(some 15),none,(.p (.mov (.t 6))),false,[]⟩,
 ⟨(some 16),none,(.p (.cvi .u32 (.t 15))),false,[]⟩,
 ⟨(some 4),none,(.p (.mov (.t 14))),false,[]⟩,
 ⟨(some 5),none,(.p (.mov (.t 16))),false,[]⟩]) .ret)))⟩
theorem k79_ok:cfn Try.prog gl Try.f79=some k79:=by kernel_rfl
def k80:CFn:=X.z_math_bits_Mul64.cfn
theorem k80_ok:cfn Try.prog gl Try.f80=some k80:=by kernel_rfl
def k94:CFn:=⟨6,[(.t 2)],(.seq (.region [
 ⟨(some 2),none,(.p (.mov (.c (.bool false)))),false,[]⟩]) (.seq (.region [
 ⟨(some 3),none,(.p (.mov (.t 0))),false,[]⟩,
 ⟨(some 4),none,(.p (.mov (.t 0))),false,[]⟩,
 ⟨(some 5),none,(.p (.bin .neq (.t 3) (.t 4))),false,[]⟩,
 ⟨(some 2),none,(.p (.mov (.t 5))),false,[]⟩]) .ret))⟩
theorem k94_ok:cfn Try.prog gl Try.f94=some k94:=by kernel_rfl
end
end Vm
end Go.Proofs.Ytofimkliemlojaa
