/-
  The program's text for the machine. (Printed by a program.)
-/
import Derived.Test.YtgncjbodicabnaaDoorVmH
import Derived.KernelRfl
set_option linter.unusedSimpArgs false
set_option linter.unusedVariables false

namespace Go.Proofs.YtgncjbodicabnaaDoor
namespace Vm
open Go Go.Vm Go.Vm.W
noncomputable section
set_option maxRecDepth 100000
def k78 : CFn := ⟨167, [], (.seq (.region [
 ⟨some 17,none,.p (.mov (.t 0)),false,[]⟩,
 ⟨some 18,none,.p (.len (.t 17)),false,[]⟩,
 ⟨some 4,none,.p (.mov (.t 18)),false,[]⟩]) (.seq (.block 0 (.loop (.seq (.seq (.region [
 ⟨some 19,none,.p (.mov (.t 4)),false,[]⟩,
 ⟨some 20,none,.p (.bin .geq (.t 19) (.c (.int .i64 8))),false,[]⟩]) (.cond (.t 20) .skip (.exit 0))) (.block 1 (.seq (.region [
 ⟨some 21,none,.p (.mov (.t 1)),false,[]⟩,
 ⟨some 22,none,.p (.bin .rem (.t 21) (.c (.int .u64 100000000))),false,[]⟩,
 ⟨some 23,none,.p (.cvi .u32 (.t 22)),false,[]⟩,
 ⟨some 5,none,.p (.mov (.t 23)),false,[]⟩]) (.seq (.region [
 ⟨some 24,none,.p (.mov (.t 1)),false,[]⟩,
 ⟨some 25,none,.p (.bin .quo (.t 24) (.c (.int .u64 100000000))),false,[]⟩,
 ⟨some 1,none,.p (.mov (.t 25)),false,[]⟩]) (.seq (.region [
 ⟨some 26,none,.p (.mov (.t 5)),false,[]⟩,
 ⟨some 27,none,.p (.bin .quo (.t 26) (.c (.int .u32 10000))),false,[]⟩,
 ⟨some 28,none,.p (.mov (.t 5)),false,[]⟩,
 ⟨some 29,none,.p (.bin .rem (.t 28) (.c (.int .u32 10000))),false,[]⟩,
 ⟨some 6,none,.p (.mov (.t 27)),false,[]⟩,
 ⟨some 7,none,.p (.mov (.t 29)),false,[]⟩]) (.seq (.region [
 ⟨some 30,none,.p (.mov (.t 7)),false,[]⟩,
 ⟨some 31,none,.p (.bin .quo (.t 30) (.c (.int .u32 100))),false,[]⟩,
 ⟨some 32,none,.p (.bin .mul (.t 31) (.c (.int .u32 2))),false,[]⟩,
 ⟨some 33,none,.p (.mov (.t 7)),false,[]⟩,
 ⟨some 34,none,.p (.bin .rem (.t 33) (.c (.int .u32 100))),false,[]⟩,
 ⟨some 35,none,.p (.bin .mul (.t 34) (.c (.int .u32 2))),false,[]⟩,
 ⟨some 8,none,.p (.mov (.t 32)),false,[]⟩,
 ⟨some 9,none,.p (.mov (.t 35)),false,[]⟩]) (.seq (.region [
 ⟨some 36,none,.p (.mov (.t 6)),false,[]⟩,
 ⟨some 37,none,.p (.bin .quo (.t 36) (.c (.int .u32 100))),false,[]⟩,
 ⟨some 38,none,.p (.bin .mul (.t 37) (.c (.int .u32 2))),false,[]⟩,
 ⟨some 39,none,.p (.mov (.t 6)),false,[]⟩,
 ⟨some 40,none,.p (.bin .rem (.t 39) (.c (.int .u32 100))),false,[]⟩,
 ⟨some 41,none,.p (.bin .mul (.t 40) (.c (.int .u32 2))),false,[]⟩,
 ⟨some 10,none,.p (.mov (.t 38)),false,[]⟩,
 ⟨some 11,none,.p (.mov (.t 41)),false,[]⟩]) (.seq (.region [
 ⟨some 42,none,.p (.mov (.t 0)),false,[]⟩,
 ⟨some 43,none,.p (.mov (.t 4)),false,[]⟩,
 ⟨some 44,none,.p (.bin .sub (.t 43) (.c (.int .i64 1))),false,[]⟩,
 ⟨some 45,none,.p (.mov (.t 0)),false,[]⟩,
 ⟨some 46,none,.p (.mov (.t 4)),false,[]⟩,
 ⟨some 47,none,.p (.bin .sub (.t 46) (.c (.int .i64 2))),false,[]⟩,
 ⟨some 48,none,.p (.mov (.t 9)),false,[]⟩,
 ⟨some 49,none,.p (.bin .add (.t 48) (.c (.int .u32 1))),false,[]⟩,
 ⟨some 50,none,.p (.idxS (.c (.str [48, 48, 48, 49, 48, 50, 48, 51, 48, 52, 48, 53, 48, 54, 48, 55, 48, 56, 48, 57, 49, 48, 49, 49, 49, 50, 49, 51, 49, 52, 49, 53, 49, 54, 49, 55, 49, 56, 49, 57, 50, 48, 50, 49, 50, 50, 50, 51, 50, 52, 50, 53, 50, 54, 50, 55, 50, 56, 50, 57, 51, 48, 51, 49, 51, 50, 51, 51, 51, 52, 51, 53, 51, 54, 51, 55, 51, 56, 51, 57, 52, 48, 52, 49, 52, 50, 52, 51, 52, 52, 52, 53, 52, 54, 52, 55, 52, 56, 52, 57, 53, 48, 53, 49, 53, 50, 53, 51, 53, 52, 53, 53, 53, 54, 53, 55, 53, 56, 53, 57, 54, 48, 54, 49, 54, 50, 54, 51, 54, 52, 54, 53, 54, 54, 54, 55, 54, 56, 54, 57, 55, 48, 55, 49, 55, 50, 55, 51, 55, 52, 55, 53, 55, 54, 55, 55, 55, 56, 55, 57, 56, 48, 56, 49, 56, 50, 56, 51, 56, 52, 56, 53, 56, 54, 56, 55, 56, 56, 56, 57, 57, 48, 57, 49, 57, 50, 57, 51, 57, 52, 57, 53, 57, 54, 57, 55, 57, 56, 57, 57])) (.t 49)),false,[]⟩,
 ⟨some 51,none,.p (.mov (.t 9)),false,[]⟩,
 ⟨some 52,none,.p (.idxS (.c (.str [48, 48, 48, 49, 48, 50, 48, 51, 48, 52, 48, 53, 48, 54, 48, 55, 48, 56, 48, 57, 49, 48, 49, 49, 49, 50, 49, 51, 49, 52, 49, 53, 49, 54, 49, 55, 49, 56, 49, 57, 50, 48, 50, 49, 50, 50, 50, 51, 50, 52, 50, 53, 50, 54, 50, 55, 50, 56, 50, 57, 51, 48, 51, 49, 51, 50, 51, 51, 51, 52, 51, 53, 51, 54, 51, 55, 51, 56, 51, 57, 52, 48, 52, 49, 52, 50, 52, 51, 52, 52, 52, 53, 52, 54, 52, 55, 52, 56, 52, 57, 53, 48, 53, 49, 53, 50, 53, 51, 53, 52, 53, 53, 53, 54, 53, 55, 53, 56, 53, 57, 54, 48, 54, 49, 54, 50, 54, 51, 54, 52, 54, 53, 54, 54, 54, 55, 54, 56, 54, 57, 55, 48, 55, 49, 55, 50, 55, 51, 55, 52, 55, 53, 55, 54, 55, 55, 55, 56, 55, 57, 56, 48, 56, 49, 56, 50, 56, 51, 56, 52, 56, 53, 56, 54, 56, 55, 56, 56, 56, 57, 57, 48, 57, 49, 57, 50, 57, 51, 57, 52, 57, 53, 57, 54, 57, 55, 57, 56, 57, 57])) (.t 51)),false,[]⟩,
 ⟨some 53,none,.p (.iadS 1 (.t 42) (.t 44)),false,[]⟩,
 ⟨none,none,.h (.store 1 (.t 53) (.t 50)),false,[]⟩,
 ⟨some 54,none,.p (.iadS 1 (.t 45) (.t 47)),false,[]⟩,
 ⟨none,none,.h (.store 1 (.t 54) (.t 52)),false,[]⟩]) (.seq (.region [
 ⟨some 55,none,.p (.mov (.t 0)),false,[]⟩,
 ⟨some 56,none,.p (.mov (.t 4)),false,[]⟩,
 ⟨some 57,none,.p (.bin .sub (.t 56) (.c (.int .i64 3))),false,[]⟩,
 ⟨some 58,none,.p (.mov (.t 0)),false,[]⟩,
 ⟨some 59,none,.p (.mov (.t 4)),false,[]⟩,
 ⟨some 60,none,.p (.bin .sub (.t 59) (.c (.int .i64 4))),false,[]⟩,
 ⟨some 61,none,.p (.mov (.t 8)),false,[]⟩,
 ⟨some 62,none,.p (.bin .add (.t 61) (.c (.int .u32 1))),false,[]⟩,
 ⟨some 63,none,.p (.idxS (.c (.str [48, 48, 48, 49, 48, 50, 48, 51, 48, 52, 48, 53, 48, 54, 48, 55, 48, 56, 48, 57, 49, 48, 49, 49, 49, 50, 49, 51, 49, 52, 49, 53, 49, 54, 49, 55, 49, 56, 49, 57, 50, 48, 50, 49, 50, 50, 50, 51, 50, 52, 50, 53, 50, 54, 50, 55, 50, 56, 50, 57, 51, 48, 51, 49, 51, 50, 51, 51, 51, 52, 51, 53, 51, 54, 51, 55, 51, 56, 51, 57, 52, 48, 52, 49, 52, 50, 52, 51, 52, 52, 52, 53, 52, 54, 52, 55, 52, 56, 52, 57, 53, 48, 53, 49, 53, 50, 53, 51, 53, 52, 53, 53, 53, 54, 53, 55, 53, 56, 53, 57, 54, 48, 54, 49, 54, 50, 54, 51, 54, 52, 54, 53, 54, 54, 54, 55, 54, 56, 54, 57, 55, 48, 55, 49, 55, 50, 55, 51, 55, 52, 55, 53, 55, 54, 55, 55, 55, 56, 55, 57, 56, 48, 56, 49, 56, 50, 56, 51, 56, 52, 56, 53, 56, 54, 56, 55, 56, 56, 56, 57, 57, 48, 57, 49, 57, 50, 57, 51, 57, 52, 57, 53, 57, 54, 57, 55, 57, 56, 57, 57])) (.t 62)),false,[]⟩,
 ⟨some 64,none,.p (.mov (.t 8)),false,[]⟩,
 ⟨some 65,none,.p (.idxS (.c (.str [48, 48, 48, 49, 48, 50, 48, 51, 48, 52, 48, 53, 48, 54, 48, 55, 48, 56, 48, 57, 49, 48, 49, 49, 49, 50, 49, 51, 49, 52, 49, 53, 49, 54, 49, 55, 49, 56, 49, 57, 50, 48, 50, 49, 50, 50, 50, 51, 50, 52, 50, 53, 50, 54, 50, 55, 50, 56, 50, 57, 51, 48, 51, 49, 51, 50, 51, 51, 51, 52, 51, 53, 51, 54, 51, 55, 51, 56, 51, 57, 52, 48, 52, 49, 52, 50, 52, 51, 52, 52, 52, 53, 52, 54, 52, 55, 52, 56, 52, 57, 53, 48, 53, 49, 53, 50, 53, 51, 53, 52, 53, 53, 53, 54, 53, 55, 53, 56, 53, 57, 54, 48, 54, 49, 54, 50, 54, 51, 54, 52, 54, 53, 54, 54, 54, 55, 54, 56, 54, 57, 55, 48, 55, 49, 55, 50, 55, 51, 55, 52, 55, 53, 55, 54, 55, 55, 55, 56, 55, 57, 56, 48, 56, 49, 56, 50, 56, 51, 56, 52, 56, 53, 56, 54, 56, 55, 56, 56, 56, 57, 57, 48, 57, 49, 57, 50, 57, 51, 57, 52, 57, 53, 57, 54, 57, 55, 57, 56, 57, 57])) (.t 64)),false,[]⟩,
 ⟨some 66,none,.p (.iadS 1 (.t 55) (.t 57)),false,[]⟩,
 ⟨none,none,.h (.store 1 (.t 66) (.t 63)),false,[]⟩,
 ⟨some 67,none,.p (.iadS 1 (.t 58) (.t 60)),false,[]⟩,
 ⟨none,none,.h (.store 1 (.t 67) (.t 65)),false,[]⟩]) (.seq (.region [
 ⟨some 68,none,.p (.mov (.t 0)),false,[]⟩,
 ⟨some 69,none,.p (.mov (.t 4)),false,[]⟩,
 ⟨some 70,none,.p (.bin .sub (.t 69) (.c (.int .i64 5))),false,[]⟩,
 ⟨some 71,none,.p (.mov (.t 0)),false,[]⟩,
 ⟨some 72,none,.p (.mov (.t 4)),false,[]⟩,
 ⟨some 73,none,.p (.bin .sub (.t 72) (.c (.int .i64 6))),false,[]⟩,
 ⟨some 74,none,.p (.mov (.t 11)),false,[]⟩,
 ⟨some 75,none,.p (.bin .add (.t 74) (.c (.int .u32 1))),false,[]⟩,
 ⟨some 76,none,.p (.idxS (.c (.str [48, 48, 48, 49, 48, 50, 48, 51, 48, 52, 48, 53, 48, 54, 48, 55, 48, 56, 48, 57, 49, 48, 49, 49, 49, 50, 49, 51, 49, 52, 49, 53, 49, 54, 49, 55, 49, 56, 49, 57, 50, 48, 50, 49, 50, 50, 50, 51, 50, 52, 50, 53, 50, 54, 50, 55, 50, 56, 50, 57, 51, 48, 51, 49, 51, 50, 51, 51, 51, 52, 51, 53, 51, 54, 51, 55, 51, 56, 51, 57, 52, 48, 52, 49, 52, 50, 52, 51, 52, 52, 52, 53, 52, 54, 52, 55, 52, 56, 52, 57, 53, 48, 53, 49, 53, 50, 53, 51, 53, 52, 53, 53, 53, 54, 53, 55, 53, 56, 53, 57, 54, 48, 54, 49, 54, 50, 54, 51, 54, 52, 54, 53, 54, 54, 54, 55, 54, 56, 54, 57, 55, 48, 55, 49, 55, 50, 55, 51, 55, 52, 55, 53, 55, 54, 55, 55, 55, 56, 55, 57, 56, 48, 56, 49, 56, 50, 56, 51, 56, 52, 56, 53, 56, 54, 56, 55, 56, 56, 56, 57, 57, 48, 57, 49, 57, 50, 57, 51, 57, 52, 57, 53, 57, 54, 57, 55, 57, 56, 57, 57])) (.t 75)),false,[]⟩,
 ⟨some 77,none,.p (.mov (.t 11)),false,[]⟩,
 ⟨some 78,none,.p (.idxS (.c (.str [48, 48, 48, 49, 48, 50, 48, 51, 48, 52, 48, 53, 48, 54, 48, 55, 48, 56, 48, 57, 49, 48, 49, 49, 49, 50, 49, 51, 49, 52, 49, 53, 49, 54, 49, 55, 49, 56, 49, 57, 50, 48, 50, 49, 50, 50, 50, 51, 50, 52, 50, 53, 50, 54, 50, 55, 50, 56, 50, 57, 51, 48, 51, 49, 51, 50, 51, 51, 51, 52, 51, 53, 51, 54, 51, 55, 51, 56, 51, 57, 52, 48, 52, 49, 52, 50, 52, 51, 52, 52, 52, 53, 52, 54, 52, 55, 52, 56, 52, 57, 53, 48, 53, 49, 53, 50, 53, 51, 53, 52, 53, 53, 53, 54, 53, 55, 53, 56, 53, 57, 54, 48, 54, 49, 54, 50, 54, 51, 54, 52, 54, 53, 54, 54, 54, 55, 54, 56, 54, 57, 55, 48, 55, 49, 55, 50, 55, 51, 55, 52, 55, 53, 55, 54, 55, 55, 55, 56, 55, 57, 56, 48, 56, 49, 56, 50, 56, 51, 56, 52, 56, 53, 56, 54, 56, 55, 56, 56, 56, 57, 57, 48, 57, 49, 57, 50, 57, 51, 57, 52, 57, 53, 57, 54, 57, 55, 57, 56, 57, 57])) (.t 77)),false,[]⟩,
 ⟨some 79,none,.p (.iadS 1 (.t 68) (.t 70)),false,[]⟩,
 ⟨none,none,.h (.store 1 (.t 79) (.t 76)),false,[]⟩,
 ⟨some 80,none,.p (.iadS 1 (.t 71) (.t 73)),false,[]⟩,
 ⟨none,none,.h (.store 1 (.t 80) (.t 78)),false,[]⟩]) (.seq (.region [
 ⟨some 81,none,.p (.mov (.t 0)),false,[]⟩,
 ⟨some 82,none,.p (.mov (.t 4)),false,[]⟩,
 ⟨some 83,none,.p (.bin .sub (.t 82) (.c (.int .i64 7))),false,[]⟩,
 ⟨some 84,none,.p (.mov (.t 0)),false,[]⟩,
 ⟨some 85,none,.p (.mov (.t 4)),false,[]⟩,
 ⟨some 86,none,.p (.bin .sub (.t 85) (.c (.int .i64 8))),false,[]⟩,
 ⟨some 87,none,.p (.mov (.t 10)),false,[]⟩,
 ⟨some 88,none,.p (.bin .add (.t 87) (.c (.int .u32 1))),false,[]⟩,
 ⟨some 89,none,.p (.idxS (.c (.str [48, 48, 48, 49, 48, 50, 48, 51, 48, 52, 48, 53, 48, 54, 48, 55, 48, 56, 48, 57, 49, 48, 49, 49, 49, 50, 49, 51, 49, 52, 49, 53, 49, 54, 49, 55, 49, 56, 49, 57, 50, 48, 50, 49, 50, 50, 50, 51, 50, 52, 50, 53, 50, 54, 50, 55, 50, 56, 50, 57, 51, 48, 51, 49, 51, 50, 51, 51, 51, 52, 51, 53, 51, 54, 51, 55, 51, 56, 51, 57, 52, 48, 52, 49, 52, 50, 52, 51, 52, 52, 52, 53, 52, 54, 52, 55, 52, 56, 52, 57, 53, 48, 53, 49, 53, 50, 53, 51, 53, 52, 53, 53, 53, 54, 53, 55, 53, 56, 53, 57, 54, 48, 54, 49, 54, 50, 54, 51, 54, 52, 54, 53, 54, 54, 54, 55, 54, 56, 54, 57, 55, 48, 55, 49, 55, 50, 55, 51, 55, 52, 55, 53, 55, 54, 55, 55, 55, 56, 55, 57, 56, 48, 56, 49, 56, 50, 56, 51, 56, 52, 56, 53, 56, 54, 56, 55, 56, 56, 56, 57, 57, 48, 57, 49, 57, 50, 57, 51, 57, 52, 57, 53, 57, 54, 57, 55, 57, 56, 57, 57])) (.t 88)),false,[]⟩,
 ⟨some 90,none,.p (.mov (.t 10)),false,[]⟩,
 ⟨some 91,none,.p (.idxS (.c (.str [48, 48, 48, 49, 48, 50, 48, 51, 48, 52, 48, 53, 48, 54, 48, 55, 48, 56, 48, 57, 49, 48, 49, 49, 49, 50, 49, 51, 49, 52, 49, 53, 49, 54, 49, 55, 49, 56, 49, 57, 50, 48, 50, 49, 50, 50, 50, 51, 50, 52, 50, 53, 50, 54, 50, 55, 50, 56, 50, 57, 51, 48, 51, 49, 51, 50, 51, 51, 51, 52, 51, 53, 51, 54, 51, 55, 51, 56, 51, 57, 52, 48, 52, 49, 52, 50, 52, 51, 52, 52, 52, 53, 52, 54, 52, 55, 52, 56, 52, 57, 53, 48, 53, 49, 53, 50, 53, 51, 53, 52, 53, 53, 53, 54, 53, 55, 53, 56, 53, 57, 54, 48, 54, 49, 54, 50, 54, 51, 54, 52, 54, 53, 54, 54, 54, 55, 54, 56, 54, 57, 55, 48, 55, 49, 55, 50, 55, 51, 55, 52, 55, 53, 55, 54, 55, 55, 55, 56, 55, 57, 56, 48, 56, 49, 56, 50, 56, 51, 56, 52, 56, 53, 56, 54, 56, 55, 56, 56, 56, 57, 57, 48, 57, 49, 57, 50, 57, 51, 57, 52, 57, 53, 57, 54, 57, 55, 57, 56, 57, 57])) (.t 90)),false,[]⟩,
 ⟨some 92,none,.p (.iadS 1 (.t 81) (.t 83)),false,[]⟩,
 ⟨none,none,.h (.store 1 (.t 92) (.t 89)),false,[]⟩,
 ⟨some 93,none,.p (.iadS 1 (.t 84) (.t 86)),false,[]⟩,
 ⟨none,none,.h (.store 1 (.t 93) (.t 91)),false,[]⟩]) (.region [
 ⟨some 94,none,.p (.mov (.t 4)),false,[]⟩,
 ⟨some 95,none,.p (.bin .sub (.t 94) (.c (.int .i64 8))),false,[]⟩,
 ⟨some 4,none,.p (.mov (.t 95)),false,[]⟩])))))))))))))) (.seq (.region [
 ⟨some 96,none,.p (.mov (.t 1)),false,[]⟩,
 ⟨some 97,none,.p (.cvi .u32 (.t 96)),false,[]⟩,
 ⟨some 12,none,.p (.mov (.t 97)),false,[]⟩]) (.seq (.seq (.region [
 ⟨some 98,none,.p (.mov (.t 4)),false,[]⟩,
 ⟨some 99,none,.p (.bin .geq (.t 98) (.c (.int .i64 4))),false,[]⟩]) (.cond (.t 99) (.seq (.region [
 ⟨some 100,none,.p (.mov (.t 12)),false,[]⟩,
 ⟨some 101,none,.p (.bin .rem (.t 100) (.c (.int .u32 10000))),false,[]⟩,
 ⟨some 13,none,.p (.mov (.t 101)),false,[]⟩]) (.seq (.region [
 ⟨some 102,none,.p (.mov (.t 12)),false,[]⟩,
 ⟨some 103,none,.p (.bin .quo (.t 102) (.c (.int .u32 10000))),false,[]⟩,
 ⟨some 12,none,.p (.mov (.t 103)),false,[]⟩]) (.seq (.region [
 ⟨some 104,none,.p (.mov (.t 13)),false,[]⟩,
 ⟨some 105,none,.p (.bin .quo (.t 104) (.c (.int .u32 100))),false,[]⟩,
 ⟨some 106,none,.p (.bin .mul (.t 105) (.c (.int .u32 2))),false,[]⟩,
 ⟨some 107,none,.p (.mov (.t 13)),false,[]⟩,
 ⟨some 108,none,.p (.bin .rem (.t 107) (.c (.int .u32 100))),false,[]⟩,
 ⟨some 109,none,.p (.bin .mul (.t 108) (.c (.int .u32 2))),false,[]⟩,
 ⟨some 14,none,.p (.mov (.t 106)),false,[]⟩,
 ⟨some 15,none,.p (.mov (.t 109)),false,[]⟩]) (.seq (.region [
 ⟨some 110,none,.p (.mov (.t 0)),false,[]⟩,
 ⟨some 111,none,.p (.mov (.t 4)),false,[]⟩,
 ⟨some 112,none,.p (.bin .sub (.t 111) (.c (.int .i64 1))),false,[]⟩,
 ⟨some 113,none,.p (.mov (.t 0)),false,[]⟩,
 ⟨some 114,none,.p (.mov (.t 4)),false,[]⟩,
 ⟨some 115,none,.p (.bin .sub (.t 114) (.c (.int .i64 2))),false,[]⟩,
 ⟨some 116,none,.p (.mov (.t 15)),false,[]⟩,
 ⟨some 117,none,.p (.bin .add (.t 116) (.c (.int .u32 1))),false,[]⟩,
 ⟨some 118,none,.p (.idxS (.c (.str [48, 48, 48, 49, 48, 50, 48, 51, 48, 52, 48, 53, 48, 54, 48, 55, 48, 56, 48, 57, 49, 48, 49, 49, 49, 50, 49, 51, 49, 52, 49, 53, 49, 54, 49, 55, 49, 56, 49, 57, 50, 48, 50, 49, 50, 50, 50, 51, 50, 52, 50, 53, 50, 54, 50, 55, 50, 56, 50, 57, 51, 48, 51, 49, 51, 50, 51, 51, 51, 52, 51, 53, 51, 54, 51, 55, 51, 56, 51, 57, 52, 48, 52, 49, 52, 50, 52, 51, 52, 52, 52, 53, 52, 54, 52, 55, 52, 56, 52, 57, 53, 48, 53, 49, 53, 50, 53, 51, 53, 52, 53, 53, 53, 54, 53, 55, 53, 56, 53, 57, 54, 48, 54, 49, 54, 50, 54, 51, 54, 52, 54, 53, 54, 54, 54, 55, 54, 56, 54, 57, 55, 48, 55, 49, 55, 50, 55, 51, 55, 52, 55, 53, 55, 54, 55, 55, 55, 56, 55, 57, 56, 48, 56, 49, 56, 50, 56, 51, 56, 52, 56, 53, 56, 54, 56, 55, 56, 56, 56, 57, 57, 48, 57, 49, 57, 50, 57, 51, 57, 52, 57, 53, 57, 54, 57, 55, 57, 56, 57, 57])) (.t 117)),false,[]⟩,
 ⟨some 119,none,.p (.mov (.t 15)),false,[]⟩,
 ⟨some 120,none,.p (.idxS (.c (.str [48, 48, 48, 49, 48, 50, 48, 51, 48, 52, 48, 53, 48, 54, 48, 55, 48, 56, 48, 57, 49, 48, 49, 49, 49, 50, 49, 51, 49, 52, 49, 53, 49, 54, 49, 55, 49, 56, 49, 57, 50, 48, 50, 49, 50, 50, 50, 51, 50, 52, 50, 53, 50, 54, 50, 55, 50, 56, 50, 57, 51, 48, 51, 49, 51, 50, 51, 51, 51, 52, 51, 53, 51, 54, 51, 55, 51, 56, 51, 57, 52, 48, 52, 49, 52, 50, 52, 51, 52, 52, 52, 53, 52, 54, 52, 55, 52, 56, 52, 57, 53, 48, 53, 49, 53, 50, 53, 51, 53, 52, 53, 53, 53, 54, 53, 55, 53, 56, 53, 57, 54, 48, 54, 49, 54, 50, 54, 51, 54, 52, 54, 53, 54, 54, 54, 55, 54, 56, 54, 57, 55, 48, 55, 49, 55, 50, 55, 51, 55, 52, 55, 53, 55, 54, 55, 55, 55, 56, 55, 57, 56, 48, 56, 49, 56, 50, 56, 51, 56, 52, 56, 53, 56, 54, 56, 55, 56, 56, 56, 57, 57, 48, 57, 49, 57, 50, 57, 51, 57, 52, 57, 53, 57, 54, 57, 55, 57, 56, 57, 57])) (.t 119)),false,[]⟩,
 ⟨some 121,none,.p (.iadS 1 (.t 110) (.t 112)),false,[]⟩,
 ⟨none,none,.h (.store 1 (.t 121) (.t 118)),false,[]⟩,
 ⟨some 122,none,.p (.iadS 1 (.t 113) (.t 115)),false,[]⟩,
 ⟨none,none,.h (.store 1 (.t 122) (.t 120)),false,[]⟩]) (.seq (.region [
 ⟨some 123,none,.p (.mov (.t 0)),false,[]⟩,
 ⟨some 124,none,.p (.mov (.t 4)),false,[]⟩,
 ⟨some 125,none,.p (.bin .sub (.t 124) (.c (.int .i64 3))),false,[]⟩,
 ⟨some 126,none,.p (.mov (.t 0)),false,[]⟩,
 ⟨some 127,none,.p (.mov (.t 4)),false,[]⟩,
 ⟨some 128,none,.p (.bin .sub (.t 127) (.c (.int .i64 4))),false,[]⟩,
 ⟨some 129,none,.p (.mov (.t 14)),false,[]⟩,
 ⟨some 130,none,.p (.bin .add (.t 129) (.c (.int .u32 1))),false,[]⟩,
 ⟨some 131,none,.p (.idxS (.c (.str [48, 48, 48, 49, 48, 50, 48, 51, 48, 52, 48, 53, 48, 54, 48, 55, 48, 56, 48, 57, 49, 48, 49, 49, 49, 50, 49, 51, 49, 52, 49, 53, 49, 54, 49, 55, 49, 56, 49, 57, 50, 48, 50, 49, 50, 50, 50, 51, 50, 52, 50, 53, 50, 54, 50, 55, 50, 56, 50, 57, 51, 48, 51, 49, 51, 50, 51, 51, 51, 52, 51, 53, 51, 54, 51, 55, 51, 56, 51, 57, 52, 48, 52, 49, 52, 50, 52, 51, 52, 52, 52, 53, 52, 54, 52, 55, 52, 56, 52, 57, 53, 48, 53, 49, 53, 50, 53, 51, 53, 52, 53, 53, 53, 54, 53, 55, 53, 56, 53, 57, 54, 48, 54, 49, 54, 50, 54, 51, 54, 52, 54, 53, 54, 54, 54, 55, 54, 56, 54, 57, 55, 48, 55, 49, 55, 50, 55, 51, 55, 52, 55, 53, 55, 54, 55, 55, 55, 56, 55, 57, 56, 48, 56, 49, 56, 50, 56, 51, 56, 52, 56, 53, 56, 54, 56, 55, 56, 56, 56, 57, 57, 48, 57, 49, 57, 50, 57, 51, 57, 52, 57, 53, 57, 54, 57, 55, 57, 56, 57, 57])) (.t 130)),false,[]⟩,
 ⟨some 132,none,.p (.mov (.t 14)),false,[]⟩,
 ⟨some 133,none,.p (.idxS (.c (.str [48, 48, 48, 49, 48, 50, 48, 51, 48, 52, 48, 53, 48, 54, 48, 55, 48, 56, 48, 57, 49, 48, 49, 49, 49, 50, 49, 51, 49, 52, 49, 53, 49, 54, 49, 55, 49, 56, 49, 57, 50, 48, 50, 49, 50, 50, 50, 51, 50, 52, 50, 53, 50, 54, 50, 55, 50, 56, 50, 57, 51, 48, 51, 49, 51, 50, 51, 51, 51, 52, 51, 53, 51, 54, 51, 55, 51, 56, 51, 57, 52, 48, 52, 49, 52, 50, 52, 51, 52, 52, 52, 53, 52, 54, 52, 55, 52, 56, 52, 57, 53, 48, 53, 49, 53, 50, 53, 51, 53, 52, 53, 53, 53, 54, 53, 55, 53, 56, 53, 57, 54, 48, 54, 49, 54, 50, 54, 51, 54, 52, 54, 53, 54, 54, 54, 55, 54, 56, 54, 57, 55, 48, 55, 49, 55, 50, 55, 51, 55, 52, 55, 53, 55, 54, 55, 55, 55, 56, 55, 57, 56, 48, 56, 49, 56, 50, 56, 51, 56, 52, 56, 53, 56, 54, 56, 55, 56, 56, 56, 57, 57, 48, 57, 49, 57, 50, 57, 51, 57, 52, 57, 53, 57, 54, 57, 55, 57, 56, 57, 57])) (.t 132)),false,[]⟩,
 ⟨some 134,none,.p (.iadS 1 (.t 123) (.t 125)),false,[]⟩,
 ⟨none,none,.h (.store 1 (.t 134) (.t 131)),false,[]⟩,
 ⟨some 135,none,.p (.iadS 1 (.t 126) (.t 128)),false,[]⟩,
 ⟨none,none,.h (.store 1 (.t 135) (.t 133)),false,[]⟩]) (.region [
 ⟨some 136,none,.p (.mov (.t 4)),false,[]⟩,
 ⟨some 137,none,.p (.bin .sub (.t 136) (.c (.int .i64 4))),false,[]⟩,
 ⟨some 4,none,.p (.mov (.t 137)),false,[]⟩])))))) .skip)) (.seq (.seq (.region [
 ⟨some 138,none,.p (.mov (.t 4)),false,[]⟩,
 ⟨some 139,none,.p (.bin .geq (.t 138) (.c (.int .i64 2))),false,[]⟩]) (.cond (.t 139) (.seq (.region [
 ⟨some 140,none,.p (.mov (.t 12)),false,[]⟩,
 ⟨some 141,none,.p (.bin .rem (.t 140) (.c (.int .u32 100))),false,[]⟩,
 ⟨some 142,none,.p (.bin .mul (.t 141) (.c (.int .u32 2))),false,[]⟩,
 ⟨some 16,none,.p (.mov (.t 142)),false,[]⟩]) (.seq (.region [
 ⟨some 143,none,.p (.mov (.t 12)),false,[]⟩,
 ⟨some 144,none,.p (.bin .quo (.t 143) (.c (.int .u32 100))),false,[]⟩,
 ⟨some 12,none,.p (.mov (.t 144)),false,[]⟩]) (.seq (.region [
 ⟨some 145,none,.p (.mov (.t 0)),false,[]⟩,
 ⟨some 146,none,.p (.mov (.t 4)),false,[]⟩,
 ⟨some 147,none,.p (.bin .sub (.t 146) (.c (.int .i64 1))),false,[]⟩,
 ⟨some 148,none,.p (.mov (.t 0)),false,[]⟩,
 ⟨some 149,none,.p (.mov (.t 4)),false,[]⟩,
 ⟨some 150,none,.p (.bin .sub (.t 149) (.c (.int .i64 2))),false,[]⟩,
 ⟨some 151,none,.p (.mov (.t 16)),false,[]⟩,
 ⟨some 152,none,.p (.bin .add (.t 151) (.c (.int .u32 1))),false,[]⟩,
 ⟨some 153,none,.p (.idxS (.c (.str [48, 48, 48, 49, 48, 50, 48, 51, 48, 52, 48, 53, 48, 54, 48, 55, 48, 56, 48, 57, 49, 48, 49, 49, 49, 50, 49, 51, 49, 52, 49, 53, 49, 54, 49, 55, 49, 56, 49, 57, 50, 48, 50, 49, 50, 50, 50, 51, 50, 52, 50, 53, 50, 54, 50, 55, 50, 56, 50, 57, 51, 48, 51, 49, 51, 50, 51, 51, 51, 52, 51, 53, 51, 54, 51, 55, 51, 56, 51, 57, 52, 48, 52, 49, 52, 50, 52, 51, 52, 52, 52, 53, 52, 54, 52, 55, 52, 56, 52, 57, 53, 48, 53, 49, 53, 50, 53, 51, 53, 52, 53, 53, 53, 54, 53, 55, 53, 56, 53, 57, 54, 48, 54, 49, 54, 50, 54, 51, 54, 52, 54, 53, 54, 54, 54, 55, 54, 56, 54, 57, 55, 48, 55, 49, 55, 50, 55, 51, 55, 52, 55, 53, 55, 54, 55, 55, 55, 56, 55, 57, 56, 48, 56, 49, 56, 50, 56, 51, 56, 52, 56, 53, 56, 54, 56, 55, 56, 56, 56, 57, 57, 48, 57, 49, 57, 50, 57, 51, 57, 52, 57, 53, 57, 54, 57, 55, 57, 56, 57, 57])) (.t 152)),false,[]⟩,
 ⟨some 154,none,.p (.mov (.t 16)),false,[]⟩,
 ⟨some 155,none,.p (.idxS (.c (.str [48, 48, 48, 49, 48, 50, 48, 51, 48, 52, 48, 53, 48, 54, 48, 55, 48, 56, 48, 57, 49, 48, 49, 49, 49, 50, 49, 51, 49, 52, 49, 53, 49, 54, 49, 55, 49, 56, 49, 57, 50, 48, 50, 49, 50, 50, 50, 51, 50, 52, 50, 53, 50, 54, 50, 55, 50, 56, 50, 57, 51, 48, 51, 49, 51, 50, 51, 51, 51, 52, 51, 53, 51, 54, 51, 55, 51, 56, 51, 57, 52, 48, 52, 49, 52, 50, 52, 51, 52, 52, 52, 53, 52, 54, 52, 55, 52, 56, 52, 57, 53, 48, 53, 49, 53, 50, 53, 51, 53, 52, 53, 53, 53, 54, 53, 55, 53, 56, 53, 57, 54, 48, 54, 49, 54, 50, 54, 51, 54, 52, 54, 53, 54, 54, 54, 55, 54, 56, 54, 57, 55, 48, 55, 49, 55, 50, 55, 51, 55, 52, 55, 53, 55, 54, 55, 55, 55, 56, 55, 57, 56, 48, 56, 49, 56, 50, 56, 51, 56, 52, 56, 53, 56, 54, 56, 55, 56, 56, 56, 57, 57, 48, 57, 49, 57, 50, 57, 51, 57, 52, 57, 53, 57, 54, 57, 55, 57, 56, 57, 57])) (.t 154)),false,[]⟩,
 ⟨some 156,none,.p (.iadS 1 (.t 145) (.t 147)),false,[]⟩,
 ⟨none,none,.h (.store 1 (.t 156) (.t 153)),false,[]⟩,
 ⟨some 157,none,.p (.iadS 1 (.t 148) (.t 150)),false,[]⟩,
 ⟨none,none,.h (.store 1 (.t 157) (.t 155)),false,[]⟩]) (.region [
 ⟨some 158,none,.p (.mov (.t 4)),false,[]⟩,
 ⟨some 159,none,.p (.bin .sub (.t 158) (.c (.int .i64 2))),false,[]⟩,
 ⟨some 4,none,.p (.mov (.t 159)),false,[]⟩])))) .skip)) (.seq (.region [
 ⟨some 160,none,.p (.mov (.t 4)),false,[]⟩,
 ⟨some 161,none,.p (.bin .gtr (.t 160) (.c (.int .i64 0))),false,[]⟩]) (.cond (.t 161) (.region [
 ⟨some 162,none,.p (.mov (.t 0)),false,[]⟩,
 ⟨some 163,none,.p (.mov (.t 12)),false,[]⟩,
 ⟨some 164,none,.p (.bin .add (.c (.int .u32 48)) (.t 163)),false,[]⟩,
 ⟨some 165,none,.p (.cvi .u8 (.t 164)),false,[]⟩,
 ⟨some 166,none,.p (.iadS 1 (.t 162) (.c (.int .i64 0))),false,[]⟩,
 ⟨none,none,.h (.store 1 (.t 166) (.t 165)),false,[]⟩]) .skip)))))))⟩
theorem k78_ok : cfn Tryd.prog gl Tryd.f78 = some k78 := by kernel_rfl
def k79 : CFn := ⟨102, [(.t 10), (.t 11)], (.seq (.region [
 ⟨some 10,none,.p (.mov (.c .nils)),false,[]⟩,
 ⟨some 11,none,.p (.mov (.c (.str []))),false,[]⟩]) (.seq (.seq (.region [
 ⟨some 19,none,.p (.mov (.t 2)),false,[]⟩,
 ⟨some 20,none,.p (.bin .lss (.t 19) (.c (.int .i64 2))),false,[]⟩,
 ⟨some 21,none,.p (.mov (.t 20)),false,[]⟩,
 ⟨some 22,(some (21, false)),.p (.mov (.t 2)),false,[]⟩,
 ⟨some 23,(some (21, false)),.p (.bin .eql (.t 22) (.c (.int .i64 10))),false,[]⟩,
 ⟨some 24,none,.p (.pick (.t 21) (.c (.bool true)) (.t 23)),false,[]⟩,
 ⟨some 25,none,.p (.mov (.t 24)),false,[]⟩,
 ⟨some 26,(some (25, false)),.p (.mov (.t 2)),false,[]⟩,
 ⟨some 27,(some (25, false)),.p (.bin .gtr (.t 26) (.c (.int .i64 36))),false,[]⟩,
 ⟨some 28,none,.p (.pick (.t 25) (.c (.bool true)) (.t 27)),false,[]⟩]) (.cond (.t 28) (.region [
 ⟨some 29,none,.p (.mkif 9 (.c (.str [115, 116, 114, 99, 111, 110, 118, 58, 32, 105, 108, 108, 101, 103, 97, 108, 32, 65, 112, 112, 101, 110, 100, 73, 110, 116, 47, 70, 111, 114, 109, 97, 116, 73, 110, 116, 32, 98, 97, 115, 101]))),false,[]⟩,
 ⟨none, none, (.h .bad),false,[]⟩]) .skip)) (.seq (.region [
 ⟨some 12,none,.h (.alloc [(.int .u8 0), (.int .u8 0), (.int .u8 0), (.int .u8 0), (.int .u8 0), (.int .u8 0), (.int .u8 0), (.int .u8 0), (.int .u8 0), (.int .u8 0), (.int .u8 0), (.int .u8 0), (.int .u8 0), (.int .u8 0), (.int .u8 0), (.int .u8 0), (.int .u8 0), (.int .u8 0), (.int .u8 0), (.int .u8 0), (.int .u8 0), (.int .u8 0), (.int .u8 0), (.int .u8 0), (.int .u8 0), (.int .u8 0), (.int .u8 0), (.int .u8 0), (.int .u8 0), (.int .u8 0), (.int .u8 0), (.int .u8 0), (.int .u8 0), (.int .u8 0), (.int .u8 0), (.int .u8 0), (.int .u8 0), (.int .u8 0), (.int .u8 0), (.int .u8 0), (.int .u8 0), (.int .u8 0), (.int .u8 0), (.int .u8 0), (.int .u8 0), (.int .u8 0), (.int .u8 0), (.int .u8 0), (.int .u8 0), (.int .u8 0), (.int .u8 0), (.int .u8 0), (.int .u8 0), (.int .u8 0), (.int .u8 0), (.int .u8 0), (.int .u8 0), (.int .u8 0), (.int .u8 0), (.int .u8 0), (.int .u8 0), (.int .u8 0), (.int .u8 0), (.int .u8 0), (.int .u8 0)]),false,[]⟩]) (.seq (.region [
 ⟨some 13,none,.p (.mov (.c (.int .i64 65))),false,[]⟩]) (.seq (.seq (.region [
 ⟨some 30,none,.p (.mov (.t 3)),false,[]⟩]) (.cond (.t 30) (.region [
 ⟨some 31,none,.p (.mov (.t 1)),false,[]⟩,
 ⟨some 32,none,.p (.neg (.t 31)),false,[]⟩,
 ⟨some 1,none,.p (.mov (.t 32)),false,[]⟩]) .skip)) (.seq (.seq (.region [
 ⟨some 33,none,.p (.mov (.t 2)),false,[]⟩,
 ⟨some 34,none,.h (.call 88 [(.t 33)]),false,[]⟩]) (.cond (.t 34) (.seq (.region [
 ⟨some 35,none,.p (.mov (.t 2)),false,[]⟩,
 ⟨some 36,none,.p (.cvi .u64 (.t 35)),false,[]⟩,
 ⟨some 37,none,.h (.call 89 [(.t 36)]),false,[]⟩,
 ⟨some 38,none,.p (.cvi .u64 (.t 37)),false,[]⟩,
 ⟨some 14,none,.p (.mov (.t 38)),false,[]⟩]) (.seq (.region [
 ⟨some 39,none,.p (.mov (.t 2)),false,[]⟩,
 ⟨some 40,none,.p (.cvi .u64 (.t 39)),false,[]⟩,
 ⟨some 15,none,.p (.mov (.t 40)),false,[]⟩]) (.seq (.region [
 ⟨some 41,none,.p (.mov (.t 2)),false,[]⟩,
 ⟨some 42,none,.p (.cvi .u64 (.t 41)),false,[]⟩,
 ⟨some 43,none,.p (.bin .sub (.t 42) (.c (.int .u64 1))),false,[]⟩,
 ⟨some 16,none,.p (.mov (.t 43)),false,[]⟩]) (.seq (.block 0 (.loop (.seq (.seq (.region [
 ⟨some 44,none,.p (.mov (.t 1)),false,[]⟩,
 ⟨some 45,none,.p (.mov (.t 15)),false,[]⟩,
 ⟨some 46,none,.p (.bin .geq (.t 44) (.t 45)),false,[]⟩]) (.cond (.t 46) .skip (.exit 0))) (.block 1 (.seq (.region [
 ⟨some 47,none,.p (.mov (.t 13)),false,[]⟩,
 ⟨some 48,none,.p (.bin .sub (.t 47) (.c (.int .i64 1))),false,[]⟩,
 ⟨some 13,none,.p (.mov (.t 48)),false,[]⟩]) (.seq (.region [
 ⟨some 49,none,.p (.mov (.t 13)),false,[]⟩,
 ⟨some 50,none,.p (.mov (.t 1)),false,[]⟩,
 ⟨some 51,none,.p (.mov (.t 16)),false,[]⟩,
 ⟨some 52,none,.p (.bin .and (.t 50) (.t 51)),false,[]⟩,
 ⟨some 53,none,.p (.idxS (.c (.str [48, 49, 50, 51, 52, 53, 54, 55, 56, 57, 97, 98, 99, 100, 101, 102, 103, 104, 105, 106, 107, 108, 109, 110, 111, 112, 113, 114, 115, 116, 117, 118, 119, 120, 121, 122])) (.t 52)),false,[]⟩,
 ⟨some 54,none,.p (.iadA 65 1 (.t 12) (.t 49)),false,[]⟩,
 ⟨none,none,.h (.store 1 (.t 54) (.t 53)),false,[]⟩]) (.region [
 ⟨some 55,none,.p (.mov (.t 1)),false,[]⟩,
 ⟨some 56,none,.p (.mov (.t 14)),false,[]⟩,
 ⟨some 57,none,.p (.bin .shr (.t 55) (.t 56)),false,[]⟩,
 ⟨some 1,none,.p (.mov (.t 57)),false,[]⟩]))))))) (.seq (.region [
 ⟨some 58,none,.p (.mov (.t 13)),false,[]⟩,
 ⟨some 59,none,.p (.bin .sub (.t 58) (.c (.int .i64 1))),false,[]⟩,
 ⟨some 13,none,.p (.mov (.t 59)),false,[]⟩]) (.region [
 ⟨some 60,none,.p (.mov (.t 13)),false,[]⟩,
 ⟨some 61,none,.p (.mov (.t 1)),false,[]⟩,
 ⟨some 62,none,.p (.idxS (.c (.str [48, 49, 50, 51, 52, 53, 54, 55, 56, 57, 97, 98, 99, 100, 101, 102, 103, 104, 105, 106, 107, 108, 109, 110, 111, 112, 113, 114, 115, 116, 117, 118, 119, 120, 121, 122])) (.t 61)),false,[]⟩,
 ⟨some 63,none,.p (.iadA 65 1 (.t 12) (.t 60)),false,[]⟩,
 ⟨none,none,.h (.store 1 (.t 63) (.t 62)),false,[]⟩])))))) (.seq (.region [
 ⟨some 64,none,.p (.mov (.t 2)),false,[]⟩,
 ⟨some 65,none,.p (.cvi .u64 (.t 64)),false,[]⟩,
 ⟨some 17,none,.p (.mov (.t 65)),false,[]⟩]) (.seq (.block 2 (.loop (.seq (.seq (.region [
 ⟨some 66,none,.p (.mov (.t 1)),false,[]⟩,
 ⟨some 67,none,.p (.mov (.t 17)),false,[]⟩,
 ⟨some 68,none,.p (.bin .geq (.t 66) (.t 67)),false,[]⟩]) (.cond (.t 68) .skip (.exit 2))) (.block 3 (.seq (.region [
 ⟨some 69,none,.p (.mov (.t 13)),false,[]⟩,
 ⟨some 70,none,.p (.bin .sub (.t 69) (.c (.int .i64 1))),false,[]⟩,
 ⟨some 13,none,.p (.mov (.t 70)),false,[]⟩]) (.seq (.region [
 ⟨some 71,none,.p (.mov (.t 1)),false,[]⟩,
 ⟨some 72,none,.p (.mov (.t 17)),false,[]⟩,
 ⟨some 73,none,.p (.bin .quo (.t 71) (.t 72)),false,[]⟩,
 ⟨some 18,none,.p (.mov (.t 73)),false,[]⟩]) (.seq (.region [
 ⟨some 74,none,.p (.mov (.t 13)),false,[]⟩,
 ⟨some 75,none,.p (.mov (.t 1)),false,[]⟩,
 ⟨some 76,none,.p (.mov (.t 18)),false,[]⟩,
 ⟨some 77,none,.p (.mov (.t 17)),false,[]⟩,
 ⟨some 78,none,.p (.bin .mul (.t 76) (.t 77)),false,[]⟩,
 ⟨some 79,none,.p (.bin .sub (.t 75) (.t 78)),false,[]⟩,
 ⟨some 80,none,.p (.idxS (.c (.str [48, 49, 50, 51, 52, 53, 54, 55, 56, 57, 97, 98, 99, 100, 101, 102, 103, 104, 105, 106, 107, 108, 109, 110, 111, 112, 113, 114, 115, 116, 117, 118, 119, 120, 121, 122])) (.t 79)),false,[]⟩,
 ⟨some 81,none,.p (.iadA 65 1 (.t 12) (.t 74)),false,[]⟩,
 ⟨none,none,.h (.store 1 (.t 81) (.t 80)),false,[]⟩]) (.region [
 ⟨some 82,none,.p (.mov (.t 18)),false,[]⟩,
 ⟨some 1,none,.p (.mov (.t 82)),false,[]⟩])))))))) (.seq (.region [
 ⟨some 83,none,.p (.mov (.t 13)),false,[]⟩,
 ⟨some 84,none,.p (.bin .sub (.t 83) (.c (.int .i64 1))),false,[]⟩,
 ⟨some 13,none,.p (.mov (.t 84)),false,[]⟩]) (.region [
 ⟨some 85,none,.p (.mov (.t 13)),false,[]⟩,
 ⟨some 86,none,.p (.mov (.t 1)),false,[]⟩,
 ⟨some 87,none,.p (.idxS (.c (.str [48, 49, 50, 51, 52, 53, 54, 55, 56, 57, 97, 98, 99, 100, 101, 102, 103, 104, 105, 106, 107, 108, 109, 110, 111, 112, 113, 114, 115, 116, 117, 118, 119, 120, 121, 122])) (.t 86)),false,[]⟩,
 ⟨some 88,none,.p (.iadA 65 1 (.t 12) (.t 85)),false,[]⟩,
 ⟨none,none,.h (.store 1 (.t 88) (.t 87)),false,[]⟩])))))) (.seq (.seq (.region [
 ⟨some 89,none,.p (.mov (.t 3)),false,[]⟩]) (.cond (.t 89) (.seq (.region [
 ⟨some 90,none,.p (.mov (.t 13)),false,[]⟩,
 ⟨some 91,none,.p (.bin .sub (.t 90) (.c (.int .i64 1))),false,[]⟩,
 ⟨some 13,none,.p (.mov (.t 91)),false,[]⟩]) (.region [
 ⟨some 92,none,.p (.mov (.t 13)),false,[]⟩,
 ⟨some 93,none,.p (.iadA 65 1 (.t 12) (.t 92)),false,[]⟩,
 ⟨none,none,.h (.store 1 (.t 93) (.c (.int .u8 45))),false,[]⟩])) .skip)) (.seq (.seq (.region [
 ⟨some 94,none,.p (.mov (.t 4)),false,[]⟩]) (.cond (.t 94) (.seq (.region [
 ⟨some 95,none,.p (.mov (.t 0)),false,[]⟩,
 ⟨some 96,none,.p (.mov (.t 13)),false,[]⟩,
 ⟨some 97,none,.h (.slA 65 1 (.t 12) (some (.t 96)) none none),false,[]⟩,
 ⟨some 98,none,.h (.app 1 1 (.t 95) (.t 97)),false,[]⟩,
 ⟨some 10,none,.p (.mov (.t 98)),false,[]⟩]) .ret) .skip)) (.seq (.region [
 ⟨some 99,none,.p (.mov (.t 13)),false,[]⟩,
 ⟨some 100,none,.h (.slA 65 1 (.t 12) (some (.t 99)) none none),false,[]⟩,
 ⟨some 101,none,.h (.b2s (.t 100)),false,[]⟩,
 ⟨some 11,none,.p (.mov (.t 101)),false,[]⟩]) .ret)))))))))⟩
theorem k79_ok : cfn Tryd.prog gl Tryd.f79 = some k79 := by kernel_rfl
def k80 : CFn := ⟨117, [(.t 2), (.t 3)], (.seq (.region [
 ⟨some 2,none,.p (.mov (.c (.int .i32 0))),false,[]⟩,
 ⟨some 3,none,.p (.mov (.c (.int .i64 0))),false,[]⟩]) (.seq (.region [
 ⟨some 13,none,.p (.mov (.t 0)),false,[]⟩,
 ⟨some 14,none,.p (.lenS (.t 13)),false,[]⟩,
 ⟨some 4,none,.p (.mov (.t 14)),false,[]⟩]) (.seq (.seq (.region [
 ⟨some 15,none,.p (.mov (.t 4)),false,[]⟩,
 ⟨some 16,none,.p (.bin .lss (.t 15) (.c (.int .i64 1))),false,[]⟩]) (.cond (.t 16) (.seq (.region [
 ⟨some 2,none,.p (.mov (.c (.int .i32 65533))),false,[]⟩,
 ⟨some 3,none,.p (.mov (.c (.int .i64 0))),false,[]⟩]) .ret) .skip)) (.seq (.region [
 ⟨some 17,none,.p (.mov (.t 0)),false,[]⟩,
 ⟨some 18,none,.p (.idxS (.t 17) (.c (.int .i64 0))),false,[]⟩,
 ⟨some 5,none,.p (.mov (.t 18)),false,[]⟩]) (.seq (.region [
 ⟨some 19,none,.p (.mov (.t 5)),false,[]⟩,
 ⟨some 20,none,.p (.iadA 256 1 (.c (.ptr 5 0)) (.t 19)),false,[]⟩,
 ⟨some 21,none,.h (.load false 1 (.t 20)),false,[]⟩,
 ⟨some 6,none,.p (.mov (.t 21)),false,[]⟩]) (.seq (.seq (.region [
 ⟨some 22,none,.p (.mov (.t 6)),false,[]⟩,
 ⟨some 23,none,.p (.bin .geq (.t 22) (.c (.int .u8 240))),false,[]⟩]) (.cond (.t 23) (.seq (.region [
 ⟨some 24,none,.p (.mov (.t 6)),false,[]⟩,
 ⟨some 25,none,.p (.cvi .i32 (.t 24)),false,[]⟩,
 ⟨some 26,none,.p (.bin .shl (.t 25) (.c (.int .u64 31))),false,[]⟩,
 ⟨some 27,none,.p (.bin .shr (.t 26) (.c (.int .u64 31))),false,[]⟩,
 ⟨some 7,none,.p (.mov (.t 27)),false,[]⟩]) (.seq (.region [
 ⟨some 28,none,.p (.mov (.t 0)),false,[]⟩,
 ⟨some 29,none,.p (.idxS (.t 28) (.c (.int .i64 0))),false,[]⟩,
 ⟨some 30,none,.p (.cvi .i32 (.t 29)),false,[]⟩,
 ⟨some 31,none,.p (.mov (.t 7)),false,[]⟩,
 ⟨some 32,none,.p (.bin .andNot (.t 30) (.t 31)),false,[]⟩,
 ⟨some 33,none,.p (.mov (.t 7)),false,[]⟩,
 ⟨some 34,none,.p (.bin .and (.c (.int .i32 65533)) (.t 33)),false,[]⟩,
 ⟨some 35,none,.p (.bin .or (.t 32) (.t 34)),false,[]⟩,
 ⟨some 2,none,.p (.mov (.t 35)),false,[]⟩,
 ⟨some 3,none,.p (.mov (.c (.int .i64 1))),false,[]⟩]) .ret)) .skip)) (.seq (.region [
 ⟨some 36,none,.p (.mov (.t 6)),false,[]⟩,
 ⟨some 37,none,.p (.bin .and (.t 36) (.c (.int .u8 7))),false,[]⟩,
 ⟨some 38,none,.p (.cvi .i64 (.t 37)),false,[]⟩,
 ⟨some 8,none,.p (.mov (.t 38)),false,[]⟩]) (.seq (.region [
 ⟨some 39,none,.p (.mov (.t 6)),false,[]⟩,
 ⟨some 40,none,.p (.bin .shr (.t 39) (.c (.int .u64 4))),false,[]⟩,
 ⟨some 41,none,.p (.iadA 16 2 (.c (.ptr 6 0)) (.t 40)),false,[]⟩,
 ⟨some 42,none,.h (.load true 2 (.t 41)),false,[]⟩,
 ⟨some 9,none,.h (.alloc [(.int .u8 0), (.int .u8 0)]),false,[]⟩,
 ⟨none,none,.h (.store 2 (.t 9) (.t 42)),false,[]⟩]) (.seq (.seq (.region [
 ⟨some 43,none,.p (.mov (.t 4)),false,[]⟩,
 ⟨some 44,none,.p (.mov (.t 8)),false,[]⟩,
 ⟨some 45,none,.p (.bin .lss (.t 43) (.t 44)),false,[]⟩]) (.cond (.t 45) (.seq (.region [
 ⟨some 2,none,.p (.mov (.c (.int .i32 65533))),false,[]⟩,
 ⟨some 3,none,.p (.mov (.c (.int .i64 1))),false,[]⟩]) .ret) .skip)) (.seq (.region [
 ⟨some 46,none,.p (.mov (.t 0)),false,[]⟩,
 ⟨some 47,none,.p (.idxS (.t 46) (.c (.int .i64 1))),false,[]⟩,
 ⟨some 10,none,.p (.mov (.t 47)),false,[]⟩]) (.seq (.seq (.region [
 ⟨some 48,none,.p (.mov (.t 10)),false,[]⟩,
 ⟨some 49,none,.p (.fad 0 (.t 9)),false,[]⟩,
 ⟨some 50,none,.h (.load false 1 (.t 49)),false,[]⟩,
 ⟨some 51,none,.p (.bin .lss (.t 48) (.t 50)),false,[]⟩,
 ⟨some 52,none,.p (.mov (.t 51)),false,[]⟩,
 ⟨some 53,(some (52, false)),.p (.fad 1 (.t 9)),false,[]⟩,
 ⟨some 54,(some (52, false)),.h (.load false 1 (.t 53)),false,[]⟩,
 ⟨some 55,(some (52, false)),.p (.mov (.t 10)),false,[]⟩,
 ⟨some 56,(some (52, false)),.p (.bin .lss (.t 54) (.t 55)),false,[]⟩,
 ⟨some 57,none,.p (.pick (.t 52) (.c (.bool true)) (.t 56)),false,[]⟩]) (.cond (.t 57) (.seq (.region [
 ⟨some 2,none,.p (.mov (.c (.int .i32 65533))),false,[]⟩,
 ⟨some 3,none,.p (.mov (.c (.int .i64 1))),false,[]⟩]) .ret) .skip)) (.seq (.seq (.region [
 ⟨some 58,none,.p (.mov (.t 8)),false,[]⟩,
 ⟨some 59,none,.p (.bin .leq (.t 58) (.c (.int .i64 2))),false,[]⟩]) (.cond (.t 59) (.seq (.region [
 ⟨some 60,none,.p (.mov (.t 5)),false,[]⟩,
 ⟨some 61,none,.p (.bin .and (.t 60) (.c (.int .u8 31))),false,[]⟩,
 ⟨some 62,none,.p (.cvi .i32 (.t 61)),false,[]⟩,
 ⟨some 63,none,.p (.bin .shl (.t 62) (.c (.int .u64 6))),false,[]⟩,
 ⟨some 64,none,.p (.mov (.t 10)),false,[]⟩,
 ⟨some 65,none,.p (.bin .and (.t 64) (.c (.int .u8 63))),false,[]⟩,
 ⟨some 66,none,.p (.cvi .i32 (.t 65)),false,[]⟩,
 ⟨some 67,none,.p (.bin .or (.t 63) (.t 66)),false,[]⟩,
 ⟨some 2,none,.p (.mov (.t 67)),false,[]⟩,
 ⟨some 3,none,.p (.mov (.c (.int .i64 2))),false,[]⟩]) .ret) .skip)) (.seq (.region [
 ⟨some 68,none,.p (.mov (.t 0)),false,[]⟩,
 ⟨some 69,none,.p (.idxS (.t 68) (.c (.int .i64 2))),false,[]⟩,
 ⟨some 11,none,.p (.mov (.t 69)),false,[]⟩]) (.seq (.seq (.region [
 ⟨some 70,none,.p (.mov (.t 11)),false,[]⟩,
 ⟨some 71,none,.p (.bin .lss (.t 70) (.c (.int .u8 128))),false,[]⟩,
 ⟨some 72,none,.p (.mov (.t 71)),false,[]⟩,
 ⟨some 73,(some (72, false)),.p (.mov (.t 11)),false,[]⟩,
 ⟨some 74,(some (72, false)),.p (.bin .lss (.c (.int .u8 191)) (.t 73)),false,[]⟩,
 ⟨some 75,none,.p (.pick (.t 72) (.c (.bool true)) (.t 74)),false,[]⟩]) (.cond (.t 75) (.seq (.region [
 ⟨some 2,none,.p (.mov (.c (.int .i32 65533))),false,[]⟩,
 ⟨some 3,none,.p (.mov (.c (.int .i64 1))),false,[]⟩]) .ret) .skip)) (.seq (.seq (.region [
 ⟨some 76,none,.p (.mov (.t 8)),false,[]⟩,
 ⟨some 77,none,.p (.bin .leq (.t 76) (.c (.int .i64 3))),false,[]⟩]) (.cond (.t 77) (.seq (.region [
 ⟨some 78,none,.p (.mov (.t 5)),false,[]⟩,
 ⟨some 79,none,.p (.bin .and (.t 78) (.c (.int .u8 15))),false,[]⟩,
 ⟨some 80,none,.p (.cvi .i32 (.t 79)),false,[]⟩,
 ⟨some 81,none,.p (.bin .shl (.t 80) (.c (.int .u64 12))),false,[]⟩,
 ⟨some 82,none,.p (.mov (.t 10)),false,[]⟩,
 ⟨some 83,none,.p (.bin .and (.t 82) (.c (.int .u8 63))),false,[]⟩,
 ⟨some 84,none,.p (.cvi .i32 (.t 83)),false,[]⟩,
 ⟨some 85,none,.p (.bin .shl (.t 84) (.c (.int .u64 6))),false,[]⟩,
 ⟨some 86,none,.p (.bin .or (.t 81) (.t 85)),false,[]⟩,
 ⟨some 87,none,.p (.mov (.t 11)),false,[]⟩,
 ⟨some 88,none,.p (.bin .and (.t 87) (.c (.int .u8 63))),false,[]⟩,
 ⟨some 89,none,.p (.cvi .i32 (.t 88)),false,[]⟩,
 ⟨some 90,none,.p (.bin .or (.t 86) (.t 89)),false,[]⟩,
 ⟨some 2,none,.p (.mov (.t 90)),false,[]⟩,
 ⟨some 3,none,.p (.mov (.c (.int .i64 3))),false,[]⟩]) .ret) .skip)) (.seq (.region [
 ⟨some 91,none,.p (.mov (.t 0)),false,[]⟩,
 ⟨some 92,none,.p (.idxS (.t 91) (.c (.int .i64 3))),false,[]⟩,
 ⟨some 12,none,.p (.mov (.t 92)),false,[]⟩]) (.seq (.seq (.region [
 ⟨some 93,none,.p (.mov (.t 12)),false,[]⟩,
 ⟨some 94,none,.p (.bin .lss (.t 93) (.c (.int .u8 128))),false,[]⟩,
 ⟨some 95,none,.p (.mov (.t 94)),false,[]⟩,
 ⟨some 96,(some (95, false)),.p (.mov (.t 12)),false,[]⟩,
 ⟨some 97,(some (95, false)),.p (.bin .lss (.c (.int .u8 191)) (.t 96)),false,[]⟩,
 ⟨some 98,none,.p (.pick (.t 95) (.c (.bool true)) (.t 97)),false,[]⟩]) (.cond (.t 98) (.seq (.region [
 ⟨some 2,none,.p (.mov (.c (.int .i32 65533))),false,[]⟩,
 ⟨some 3,none,.p (.mov (.c (.int .i64 1))),false,[]⟩]) .ret) .skip)) (.seq (.region [
 ⟨some 99,none,.p (.mov (.t 5)),false,[]⟩,
 ⟨some 100,none,.p (.bin .and (.t 99) (.c (.int .u8 7))),false,[]⟩,
 ⟨some 101,none,.p (.cvi .i32 (.t 100)),false,[]⟩,
 ⟨some 102,none,.p (.bin .shl (.t 101) (.c (.int .u64 18))),false,[]⟩,
 ⟨some 103,none,.p (.mov (.t 10)),false,[]⟩,
 ⟨some 104,none,.p (.bin .and (.t 103) (.c (.int .u8 63))),false,[]⟩,
 ⟨some 105,none,.p (.cvi .i32 (.t 104)),false,[]⟩,
 ⟨some 106,none,.p (.bin .shl (.t 105) (.c (.int .u64 12))),false,[]⟩,
 ⟨some 107,none,.p (.bin .or (.t 102) (.t 106)),false,[]⟩,
 ⟨some 108,none,.p (.mov (.t 11)),false,[]⟩,
 ⟨some 109,none,.p (.bin .and (.t 108) (.c (.int .u8 63))),false,[]⟩,
 ⟨some 110,none,.p (.cvi .i32 (.t 109)),false,[]⟩,
 ⟨some 111,none,.p (.bin .shl (.t 110) (.c (.int .u64 6))),false,[]⟩,
 ⟨some 112,none,.p (.bin .or (.t 107) (.t 111)),false,[]⟩,
 ⟨some 113,none,.p (.mov (.t 12)),false,[]⟩,
 ⟨some 114,none,.p (.bin .and (.t 113) (.c (.int .u8 63))),false,[]⟩,
 ⟨some 115,none,.p (.cvi .i32 (.t 114)),false,[]⟩,
 ⟨some 116,none,.p (.bin .or (.t 112) (.t 115)),false,[]⟩,
 ⟨some 2,none,.p (.mov (.t 116)),false,[]⟩,
 ⟨some 3,none,.p (.mov (.c (.int .i64 4))),false,[]⟩]) .ret))))))))))))))))))⟩
theorem k80_ok : cfn Tryd.prog gl Tryd.f80 = some k80 := by kernel_rfl
def k81 : CFn := ⟨8, [(.t 4)], (.seq (.region [
 ⟨some 4,none,.p (.mov (.c (.int .i64 0))),false,[]⟩]) (.seq (.region [
 ⟨some 5,none,.p (.mov (.t 0)),false,[]⟩,
 ⟨some 6,none,.p (.mov (.t 1)),false,[]⟩,
 ⟨some 7,none,.h (.xrow 0 [(.t 5), (.t 6)]),false,[]⟩,
 ⟨some 4,none,.p (.mov (.t 7)),false,[]⟩]) .ret))⟩
theorem k81_ok : cfn Tryd.prog gl Tryd.f81 = some k81 := by kernel_rfl
def k83 : CFn := ⟨6, [(.t 2)], (.seq (.region [
 ⟨some 2,none,.p (.mov (.c (.int .i64 0))),false,[]⟩]) (.seq (.region [
 ⟨some 3,none,.p (.mov (.t 0)),false,[]⟩,
 ⟨some 4,none,.p (.bin .add (.t 3) (.c (.int .i64 16))),false,[]⟩,
 ⟨some 5,none,.p (.bin .quo (.t 4) (.c (.int .i64 8))),false,[]⟩,
 ⟨some 2,none,.p (.mov (.t 5)),false,[]⟩]) .ret))⟩
theorem k83_ok : cfn Tryd.prog gl Tryd.f83 = some k83 := by kernel_rfl
def k84 : CFn := ⟨81, [(.t 4)], (.seq (.region [
 ⟨some 4,none,.p (.mov (.c (.int .i64 0))),false,[]⟩]) (.seq (.region [
 ⟨some 12,none,.p (.mov (.t 1)),false,[]⟩,
 ⟨some 13,none,.h (.call 91 [(.t 12)]),false,[]⟩,
 ⟨some 11,none,.p (.mov (.t 13)),false,[]⟩,
 ⟨some 14,none,.p (.ext 0 (.t 11)),false,[]⟩,
 ⟨some 15,none,.p (.ext 1 (.t 11)),false,[]⟩,
 ⟨some 5,none,.p (.mov (.t 14)),false,[]⟩,
 ⟨some 6,none,.p (.mov (.t 15)),false,[]⟩]) (.seq (.region [
 ⟨some 16,none,.p (.mov (.t 1)),false,[]⟩,
 ⟨some 17,none,.p (.lenS (.t 16)),false,[]⟩,
 ⟨some 7,none,.p (.mov (.t 17)),false,[]⟩]) (.seq (.region [
 ⟨some 8,none,.p (.mov (.c (.int .u32 0))),false,[]⟩]) (.seq (.seq (.region [
 ⟨some 9,none,.p (.mov (.c (.int .i64 0))),false,[]⟩]) (.block 0 (.loop (.seq (.seq (.region [
 ⟨some 18,none,.p (.mov (.t 9)),false,[]⟩,
 ⟨some 19,none,.p (.mov (.t 7)),false,[]⟩,
 ⟨some 20,none,.p (.bin .lss (.t 18) (.t 19)),false,[]⟩]) (.cond (.t 20) .skip (.exit 0))) (.seq (.block 1 (.region [
 ⟨some 23,none,.p (.mov (.t 8)),false,[]⟩,
 ⟨some 24,none,.p (.bin .mul (.t 23) (.c (.int .u32 16777619))),false,[]⟩,
 ⟨some 25,none,.p (.mov (.t 0)),false,[]⟩,
 ⟨some 26,none,.p (.mov (.t 9)),false,[]⟩,
 ⟨some 27,none,.p (.idxS (.t 25) (.t 26)),false,[]⟩,
 ⟨some 28,none,.p (.cvi .u32 (.t 27)),false,[]⟩,
 ⟨some 29,none,.p (.bin .add (.t 24) (.t 28)),false,[]⟩,
 ⟨some 8,none,.p (.mov (.t 29)),false,[]⟩])) (.region [
 ⟨some 21,none,.p (.mov (.t 9)),false,[]⟩,
 ⟨some 22,none,.p (.bin .add (.t 21) (.c (.int .i64 1))),false,[]⟩,
 ⟨some 9,none,.p (.mov (.t 22)),false,[]⟩])))))) (.seq (.seq (.region [
 ⟨some 30,none,.p (.mov (.t 8)),false,[]⟩,
 ⟨some 31,none,.p (.mov (.t 5)),false,[]⟩,
 ⟨some 32,none,.p (.bin .eql (.t 30) (.t 31)),false,[]⟩,
 ⟨some 33,none,.p (.mov (.t 32)),false,[]⟩,
 ⟨some 34,(some (33, true)),.p (.mov (.t 0)),false,[]⟩,
 ⟨some 35,(some (33, true)),.p (.mov (.t 7)),false,[]⟩,
 ⟨some 36,(some (33, true)),.p (.slT (.t 34) none (some (.t 35))),false,[]⟩,
 ⟨some 37,(some (33, true)),.p (.mov (.t 1)),false,[]⟩,
 ⟨some 38,(some (33, true)),.p (.bin .eql (.t 36) (.t 37)),false,[]⟩,
 ⟨some 39,none,.p (.pick (.t 33) (.t 38) (.c (.bool false))),false,[]⟩]) (.cond (.t 39) (.seq (.region [
 ⟨some 4,none,.p (.mov (.c (.int .i64 0))),false,[]⟩]) .ret) .skip)) (.seq (.seq (.region [
 ⟨some 40,none,.p (.mov (.t 7)),false,[]⟩,
 ⟨some 10,none,.p (.mov (.t 40)),false,[]⟩]) (.block 2 (.loop (.seq (.seq (.region [
 ⟨some 41,none,.p (.mov (.t 10)),false,[]⟩,
 ⟨some 42,none,.p (.mov (.t 0)),false,[]⟩,
 ⟨some 43,none,.p (.lenS (.t 42)),false,[]⟩,
 ⟨some 44,none,.p (.bin .lss (.t 41) (.t 43)),false,[]⟩]) (.cond (.t 44) .skip (.exit 2))) (.block 3 (.seq (.region [
 ⟨some 45,none,.p (.mov (.t 8)),false,[]⟩,
 ⟨some 46,none,.p (.bin .mul (.t 45) (.c (.int .u32 16777619))),false,[]⟩,
 ⟨some 8,none,.p (.mov (.t 46)),false,[]⟩]) (.seq (.region [
 ⟨some 47,none,.p (.mov (.t 8)),false,[]⟩,
 ⟨some 48,none,.p (.mov (.t 0)),false,[]⟩,
 ⟨some 49,none,.p (.mov (.t 10)),false,[]⟩,
 ⟨some 50,none,.p (.idxS (.t 48) (.t 49)),false,[]⟩,
 ⟨some 51,none,.p (.cvi .u32 (.t 50)),false,[]⟩,
 ⟨some 52,none,.p (.bin .add (.t 47) (.t 51)),false,[]⟩,
 ⟨some 8,none,.p (.mov (.t 52)),false,[]⟩]) (.seq (.region [
 ⟨some 53,none,.p (.mov (.t 8)),false,[]⟩,
 ⟨some 54,none,.p (.mov (.t 6)),false,[]⟩,
 ⟨some 55,none,.p (.mov (.t 0)),false,[]⟩,
 ⟨some 56,none,.p (.mov (.t 10)),false,[]⟩,
 ⟨some 57,none,.p (.mov (.t 7)),false,[]⟩,
 ⟨some 58,none,.p (.bin .sub (.t 56) (.t 57)),false,[]⟩,
 ⟨some 59,none,.p (.idxS (.t 55) (.t 58)),false,[]⟩,
 ⟨some 60,none,.p (.cvi .u32 (.t 59)),false,[]⟩,
 ⟨some 61,none,.p (.bin .mul (.t 54) (.t 60)),false,[]⟩,
 ⟨some 62,none,.p (.bin .sub (.t 53) (.t 61)),false,[]⟩,
 ⟨some 8,none,.p (.mov (.t 62)),false,[]⟩]) (.seq (.region [
 ⟨some 63,none,.p (.mov (.t 10)),false,[]⟩,
 ⟨some 64,none,.p (.bin .add (.t 63) (.c (.int .i64 1))),false,[]⟩,
 ⟨some 10,none,.p (.mov (.t 64)),false,[]⟩]) (.seq (.region [
 ⟨some 65,none,.p (.mov (.t 8)),false,[]⟩,
 ⟨some 66,none,.p (.mov (.t 5)),false,[]⟩,
 ⟨some 67,none,.p (.bin .eql (.t 65) (.t 66)),false,[]⟩,
 ⟨some 68,none,.p (.mov (.t 67)),false,[]⟩,
 ⟨some 69,(some (68, true)),.p (.mov (.t 0)),false,[]⟩,
 ⟨some 70,(some (68, true)),.p (.mov (.t 10)),false,[]⟩,
 ⟨some 71,(some (68, true)),.p (.mov (.t 7)),false,[]⟩,
 ⟨some 72,(some (68, true)),.p (.bin .sub (.t 70) (.t 71)),false,[]⟩,
 ⟨some 73,(some (68, true)),.p (.mov (.t 10)),false,[]⟩,
 ⟨some 74,(some (68, true)),.p (.slT (.t 69) (some (.t 72)) (some (.t 73))),false,[]⟩,
 ⟨some 75,(some (68, true)),.p (.mov (.t 1)),false,[]⟩,
 ⟨some 76,(some (68, true)),.p (.bin .eql (.t 74) (.t 75)),false,[]⟩,
 ⟨some 77,none,.p (.pick (.t 68) (.t 76) (.c (.bool false))),false,[]⟩]) (.cond (.t 77) (.seq (.region [
 ⟨some 78,none,.p (.mov (.t 10)),false,[]⟩,
 ⟨some 79,none,.p (.mov (.t 7)),false,[]⟩,
 ⟨some 80,none,.p (.bin .sub (.t 78) (.t 79)),false,[]⟩,
 ⟨some 4,none,.p (.mov (.t 80)),false,[]⟩]) .ret) .skip))))))))))) (.seq (.region [
 ⟨some 4,none,.p (.mov (.c (.int .i64 (-1)))),false,[]⟩]) .ret))))))))⟩
theorem k84_ok : cfn Tryd.prog gl Tryd.f84 = some k84 := by kernel_rfl
def k85 : CFn := ⟨6, [(.t 2)], (.seq (.region [
 ⟨some 2,none,.p (.mov (.c (.int .i64 0))),false,[]⟩]) (.seq (.region [
 ⟨some 3,none,.p (.mov (.t 0)),false,[]⟩,
 ⟨some 4,none,.p (.bin .mul (.t 3) (.c (.int .i64 78913))),false,[]⟩,
 ⟨some 5,none,.p (.bin .shr (.t 4) (.c (.int .u64 18))),false,[]⟩,
 ⟨some 2,none,.p (.mov (.t 5)),false,[]⟩]) .ret))⟩
theorem k85_ok : cfn Tryd.prog gl Tryd.f85 = some k85 := by kernel_rfl
def k86 : CFn := ⟨25, [(.t 2)], (.seq (.region [
 ⟨some 2,none,.p (.mov (.c (.int .i64 0))),false,[]⟩]) (.seq (.seq (.region [
 ⟨some 3,none,.p (.mov (.t 0)),false,[]⟩,
 ⟨some 4,none,.p (.bin .geq (.t 3) (.c (.int .u64 4294967296))),false,[]⟩]) (.cond (.t 4) (.seq (.region [
 ⟨some 5,none,.p (.mov (.t 0)),false,[]⟩,
 ⟨some 6,none,.p (.bin .shr (.t 5) (.c (.int .u64 32))),false,[]⟩,
 ⟨some 0,none,.p (.mov (.t 6)),false,[]⟩]) (.region [
 ⟨some 2,none,.p (.mov (.c (.int .i64 32))),false,[]⟩])) .skip)) (.seq (.seq (.region [
 ⟨some 7,none,.p (.mov (.t 0)),false,[]⟩,
 ⟨some 8,none,.p (.bin .geq (.t 7) (.c (.int .u64 65536))),false,[]⟩]) (.cond (.t 8) (.seq (.region [
 ⟨some 9,none,.p (.mov (.t 0)),false,[]⟩,
 ⟨some 10,none,.p (.bin .shr (.t 9) (.c (.int .u64 16))),false,[]⟩,
 ⟨some 0,none,.p (.mov (.t 10)),false,[]⟩]) (.region [
 ⟨some 11,none,.p (.mov (.t 2)),false,[]⟩,
 ⟨some 12,none,.p (.bin .add (.t 11) (.c (.int .i64 16))),false,[]⟩,
 ⟨some 2,none,.p (.mov (.t 12)),false,[]⟩])) .skip)) (.seq (.seq (.region [
 ⟨some 13,none,.p (.mov (.t 0)),false,[]⟩,
 ⟨some 14,none,.p (.bin .geq (.t 13) (.c (.int .u64 256))),false,[]⟩]) (.cond (.t 14) (.seq (.region [
 ⟨some 15,none,.p (.mov (.t 0)),false,[]⟩,
 ⟨some 16,none,.p (.bin .shr (.t 15) (.c (.int .u64 8))),false,[]⟩,
 ⟨some 0,none,.p (.mov (.t 16)),false,[]⟩]) (.region [
 ⟨some 17,none,.p (.mov (.t 2)),false,[]⟩,
 ⟨some 18,none,.p (.bin .add (.t 17) (.c (.int .i64 8))),false,[]⟩,
 ⟨some 2,none,.p (.mov (.t 18)),false,[]⟩])) .skip)) (.seq (.region [
 ⟨some 19,none,.p (.mov (.t 2)),false,[]⟩,
 ⟨some 20,none,.p (.mov (.t 0)),false,[]⟩,
 ⟨some 21,none,.p (.cvi .u8 (.t 20)),false,[]⟩,
 ⟨some 22,none,.p (.idxS (.c (.str [0, 1, 2, 2, 3, 3, 3, 3, 4, 4, 4, 4, 4, 4, 4, 4, 5, 5, 5, 5, 5, 5, 5, 5, 5, 5, 5, 5, 5, 5, 5, 5, 6, 6, 6, 6, 6, 6, 6, 6, 6, 6, 6, 6, 6, 6, 6, 6, 6, 6, 6, 6, 6, 6, 6, 6, 6, 6, 6, 6, 6, 6, 6, 6, 7, 7, 7, 7, 7, 7, 7, 7, 7, 7, 7, 7, 7, 7, 7, 7, 7, 7, 7, 7, 7, 7, 7, 7, 7, 7, 7, 7, 7, 7, 7, 7, 7, 7, 7, 7, 7, 7, 7, 7, 7, 7, 7, 7, 7, 7, 7, 7, 7, 7, 7, 7, 7, 7, 7, 7, 7, 7, 7, 7, 7, 7, 7, 7, 8, 8, 8, 8, 8, 8, 8, 8, 8, 8, 8, 8, 8, 8, 8, 8, 8, 8, 8, 8, 8, 8, 8, 8, 8, 8, 8, 8, 8, 8, 8, 8, 8, 8, 8, 8, 8, 8, 8, 8, 8, 8, 8, 8, 8, 8, 8, 8, 8, 8, 8, 8, 8, 8, 8, 8, 8, 8, 8, 8, 8, 8, 8, 8, 8, 8, 8, 8, 8, 8, 8, 8, 8, 8, 8, 8, 8, 8, 8, 8, 8, 8, 8, 8, 8, 8, 8, 8, 8, 8, 8, 8, 8, 8, 8, 8, 8, 8, 8, 8, 8, 8, 8, 8, 8, 8, 8, 8, 8, 8, 8, 8, 8, 8, 8, 8, 8, 8, 8, 8, 8, 8, 8, 8, 8, 8, 8, 8])) (.t 21)),false,[]⟩,
 ⟨some 23,none,.p (.cvi .i64 (.t 22)),false,[]⟩,
 ⟨some 24,none,.p (.bin .add (.t 19) (.t 23)),false,[]⟩,
 ⟨some 2,none,.p (.mov (.t 24)),false,[]⟩]) .ret)))))⟩
theorem k86_ok : cfn Tryd.prog gl Tryd.f86 = some k86 := by kernel_rfl
def k87 : CFn := ⟨4, [(.t 2)], (.seq (.region [
 ⟨some 2,none,.p (.mov (.c (.int .i64 0))),false,[]⟩]) (.seq (.seq (.region [
 ⟨some 3,none,.p (.mov (.t 0)),false,[]⟩]) (.cond (.t 3) (.seq (.region [
 ⟨some 2,none,.p (.mov (.c (.int .i64 1))),false,[]⟩]) .ret) .skip)) (.seq (.region [
 ⟨some 2,none,.p (.mov (.c (.int .i64 0))),false,[]⟩]) .ret)))⟩
theorem k87_ok : cfn Tryd.prog gl Tryd.f87 = some k87 := by kernel_rfl
def k88 : CFn := ⟨8, [(.t 2)], (.seq (.region [
 ⟨some 2,none,.p (.mov (.c (.bool false))),false,[]⟩]) (.seq (.region [
 ⟨some 3,none,.p (.mov (.t 0)),false,[]⟩,
 ⟨some 4,none,.p (.mov (.t 0)),false,[]⟩,
 ⟨some 5,none,.p (.bin .sub (.t 4) (.c (.int .i64 1))),false,[]⟩,
 ⟨some 6,none,.p (.bin .and (.t 3) (.t 5)),false,[]⟩,
 ⟨some 7,none,.p (.bin .eql (.t 6) (.c (.int .i64 0))),false,[]⟩,
 ⟨some 2,none,.p (.mov (.t 7)),false,[]⟩]) .ret))⟩
theorem k88_ok : cfn Tryd.prog gl Tryd.f88 = some k88 := by kernel_rfl
def k89 : CFn := ⟨8, [(.t 2)], (.seq (.region [
 ⟨some 2,none,.p (.mov (.c (.int .i64 0))),false,[]⟩]) (.seq (.cond (.c (.bool false)) (.seq (.region [
 ⟨some 3,none,.p (.mov (.t 0)),false,[]⟩,
 ⟨some 4,none,.p (.cvi .u32 (.t 3)),false,[]⟩,
 ⟨some 5,none,.h (.call 92 [(.t 4)]),false,[]⟩,
 ⟨some 2,none,.p (.mov (.t 5)),false,[]⟩]) .ret) .skip) (.seq (.region [
 ⟨some 6,none,.p (.mov (.t 0)),false,[]⟩,
 ⟨some 7,none,.h (.call 93 [(.t 6)]),false,[]⟩,
 ⟨some 2,none,.p (.mov (.t 7)),false,[]⟩]) .ret)))⟩
theorem k89_ok : cfn Tryd.prog gl Tryd.f89 = some k89 := by kernel_rfl
def k91 : CFn := ⟨39, [(.t 2), (.t 3)], (.seq (.region [
 ⟨some 2,none,.p (.mov (.c (.int .u32 0))),false,[]⟩,
 ⟨some 3,none,.p (.mov (.c (.int .u32 0))),false,[]⟩]) (.seq (.region [
 ⟨some 4,none,.p (.mov (.c (.int .u32 0))),false,[]⟩]) (.seq (.seq (.region [
 ⟨some 5,none,.p (.mov (.c (.int .i64 0))),false,[]⟩]) (.block 0 (.loop (.seq (.seq (.region [
 ⟨some 9,none,.p (.mov (.t 5)),false,[]⟩,
 ⟨some 10,none,.p (.mov (.t 0)),false,[]⟩,
 ⟨some 11,none,.p (.lenS (.t 10)),false,[]⟩,
 ⟨some 12,none,.p (.bin .lss (.t 9) (.t 11)),false,[]⟩]) (.cond (.t 12) .skip (.exit 0))) (.seq (.block 1 (.region [
 ⟨some 15,none,.p (.mov (.t 4)),false,[]⟩,
 ⟨some 16,none,.p (.bin .mul (.t 15) (.c (.int .u32 16777619))),false,[]⟩,
 ⟨some 17,none,.p (.mov (.t 0)),false,[]⟩,
 ⟨some 18,none,.p (.mov (.t 5)),false,[]⟩,
 ⟨some 19,none,.p (.idxS (.t 17) (.t 18)),false,[]⟩,
 ⟨some 20,none,.p (.cvi .u32 (.t 19)),false,[]⟩,
 ⟨some 21,none,.p (.bin .add (.t 16) (.t 20)),false,[]⟩,
 ⟨some 4,none,.p (.mov (.t 21)),false,[]⟩])) (.region [
 ⟨some 13,none,.p (.mov (.t 5)),false,[]⟩,
 ⟨some 14,none,.p (.bin .add (.t 13) (.c (.int .i64 1))),false,[]⟩,
 ⟨some 5,none,.p (.mov (.t 14)),false,[]⟩])))))) (.seq (.region [
 ⟨some 6,none,.p (.mov (.c (.int .u32 1))),false,[]⟩,
 ⟨some 7,none,.p (.mov (.c (.int .u32 16777619))),false,[]⟩]) (.seq (.seq (.region [
 ⟨some 22,none,.p (.mov (.t 0)),false,[]⟩,
 ⟨some 23,none,.p (.lenS (.t 22)),false,[]⟩,
 ⟨some 8,none,.p (.mov (.t 23)),false,[]⟩]) (.block 2 (.loop (.seq (.seq (.region [
 ⟨some 24,none,.p (.mov (.t 8)),false,[]⟩,
 ⟨some 25,none,.p (.bin .gtr (.t 24) (.c (.int .i64 0))),false,[]⟩]) (.cond (.t 25) .skip (.exit 2))) (.seq (.block 3 (.seq (.seq (.region [
 ⟨some 28,none,.p (.mov (.t 8)),false,[]⟩,
 ⟨some 29,none,.p (.bin .and (.t 28) (.c (.int .i64 1))),false,[]⟩,
 ⟨some 30,none,.p (.bin .neq (.t 29) (.c (.int .i64 0))),false,[]⟩]) (.cond (.t 30) (.region [
 ⟨some 31,none,.p (.mov (.t 6)),false,[]⟩,
 ⟨some 32,none,.p (.mov (.t 7)),false,[]⟩,
 ⟨some 33,none,.p (.bin .mul (.t 31) (.t 32)),false,[]⟩,
 ⟨some 6,none,.p (.mov (.t 33)),false,[]⟩]) .skip)) (.region [
 ⟨some 34,none,.p (.mov (.t 7)),false,[]⟩,
 ⟨some 35,none,.p (.mov (.t 7)),false,[]⟩,
 ⟨some 36,none,.p (.bin .mul (.t 34) (.t 35)),false,[]⟩,
 ⟨some 7,none,.p (.mov (.t 36)),false,[]⟩]))) (.region [
 ⟨some 26,none,.p (.mov (.t 8)),false,[]⟩,
 ⟨some 27,none,.p (.bin .shr (.t 26) (.c (.int .u64 1))),false,[]⟩,
 ⟨some 8,none,.p (.mov (.t 27)),false,[]⟩])))))) (.seq (.region [
 ⟨some 37,none,.p (.mov (.t 4)),false,[]⟩,
 ⟨some 38,none,.p (.mov (.t 6)),false,[]⟩,
 ⟨some 2,none,.p (.mov (.t 37)),false,[]⟩,
 ⟨some 3,none,.p (.mov (.t 38)),false,[]⟩]) .ret))))))⟩
theorem k91_ok : cfn Tryd.prog gl Tryd.f91 = some k91 := by kernel_rfl
def k92 : CFn := ⟨14, [(.t 2)], (.seq (.region [
 ⟨some 2,none,.p (.mov (.c (.int .i64 0))),false,[]⟩]) (.seq (.seq (.region [
 ⟨some 3,none,.p (.mov (.t 0)),false,[]⟩,
 ⟨some 4,none,.p (.bin .eql (.t 3) (.c (.int .u32 0))),false,[]⟩]) (.cond (.t 4) (.seq (.region [
 ⟨some 2,none,.p (.mov (.c (.int .i64 32))),false,[]⟩]) .ret) .skip)) (.seq (.region [
 ⟨some 5,none,.p (.mov (.t 0)),false,[]⟩,
 ⟨some 6,none,.p (.mov (.t 0)),false,[]⟩,
 ⟨some 7,none,.p (.neg (.t 6)),false,[]⟩,
 ⟨some 8,none,.p (.bin .and (.t 5) (.t 7)),false,[]⟩,
 ⟨some 9,none,.p (.bin .mul (.t 8) (.c (.int .u32 125613361))),false,[]⟩,
 ⟨some 10,none,.p (.bin .shr (.t 9) (.c (.int .u64 27))),false,[]⟩,
 ⟨some 11,none,.p (.iadA 32 1 (.c (.ptr 7 0)) (.t 10)),false,[]⟩,
 ⟨some 12,none,.h (.load false 1 (.t 11)),false,[]⟩,
 ⟨some 13,none,.p (.cvi .i64 (.t 12)),false,[]⟩,
 ⟨some 2,none,.p (.mov (.t 13)),false,[]⟩]) .ret)))⟩
theorem k92_ok : cfn Tryd.prog gl Tryd.f92 = some k92 := by kernel_rfl
def k93 : CFn := ⟨14, [(.t 2)], (.seq (.region [
 ⟨some 2,none,.p (.mov (.c (.int .i64 0))),false,[]⟩]) (.seq (.seq (.region [
 ⟨some 3,none,.p (.mov (.t 0)),false,[]⟩,
 ⟨some 4,none,.p (.bin .eql (.t 3) (.c (.int .u64 0))),false,[]⟩]) (.cond (.t 4) (.seq (.region [
 ⟨some 2,none,.p (.mov (.c (.int .i64 64))),false,[]⟩]) .ret) .skip)) (.seq (.region [
 ⟨some 5,none,.p (.mov (.t 0)),false,[]⟩,
 ⟨some 6,none,.p (.mov (.t 0)),false,[]⟩,
 ⟨some 7,none,.p (.neg (.t 6)),false,[]⟩,
 ⟨some 8,none,.p (.bin .and (.t 5) (.t 7)),false,[]⟩,
 ⟨some 9,none,.p (.bin .mul (.t 8) (.c (.int .u64 285870213051353865))),false,[]⟩,
 ⟨some 10,none,.p (.bin .shr (.t 9) (.c (.int .u64 58))),false,[]⟩,
 ⟨some 11,none,.p (.iadA 64 1 (.c (.ptr 8 0)) (.t 10)),false,[]⟩,
 ⟨some 12,none,.h (.load false 1 (.t 11)),false,[]⟩,
 ⟨some 13,none,.p (.cvi .i64 (.t 12)),false,[]⟩,
 ⟨some 2,none,.p (.mov (.t 13)),false,[]⟩]) .ret)))⟩
theorem k93_ok : cfn Tryd.prog gl Tryd.f93 = some k93 := by kernel_rfl

end
end Vm
end Go.Proofs.YtgncjbodicabnaaDoor

