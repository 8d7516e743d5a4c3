/-
  The program's text for the machine. (Printed by a program.)
-/
import Derived.Test.YtgncjbodicabnaaDoorVmH
import Derived.KernelRfl
set_option linter.unusedSimpArgs false
set_option linter.unusedVariables false

namespace Go.Proofs.YtgncjbodicabnaaDoor
namespace Vm
open Go Go.Vm Go.Vm.W
noncomputable section
set_option maxRecDepth 100000
def k3 : CFn := ⟨68, [(.t 2)], (.seq (.region [
 ⟨some 1,none,.h (.box (.t 0)),false,[]⟩,
 ⟨some 2,none,.p (.mov (.c (.bool false))),false,[]⟩]) (.seq (.region [
 ⟨some 10,none,.h (.load true 3 (.t 1)),false,[]⟩,
 ⟨some 11,none,.h (.call 12 [(.t 10)]),false,[]⟩,
 ⟨some 9,none,.p (.mov (.t 11)),false,[]⟩,
 ⟨some 12,none,.p (.ext 0 (.t 9)),false,[]⟩,
 ⟨some 13,none,.p (.ext 1 (.t 9)),false,[]⟩,
 ⟨some 3,none,.h (.alloc [(.int .u8 0), (.int .i64 0), (.int .i64 0)]),false,[]⟩,
 ⟨none,none,.h (.store 3 (.t 3) (.t 12)),false,[]⟩,
 ⟨some 4,none,.p (.mov (.t 13)),false,[]⟩]) (.seq (.seq (.region [
 ⟨some 14,none,.h (.load true 3 (.t 1)),false,[]⟩,
 ⟨some 15,none,.h (.call 13 [(.t 14)]),false,[]⟩,
 ⟨some 16,none,.p (.bin .eql (.t 15) (.c (.int .i64 0))),false,[]⟩]) (.cond (.t 16) (.seq (.region [
 ⟨some 17,none,.p (.mov (.t 4)),false,[]⟩,
 ⟨some 18,none,.p (.bin .eql (.t 17) (.c (.int .i64 1))),false,[]⟩,
 ⟨some 19,none,.p (.mov (.t 18)),false,[]⟩,
 ⟨some 20,(some (19, true)),.h (.load true 3 (.t 3)),false,[]⟩,
 ⟨some 21,(some (19, true)),.p (.build [(.int .u8 0), (.int .i64 0), (.int .i64 0)] []),false,[]⟩,
 ⟨some 22,(some (19, true)),.p (.eqf false true [1, 1, 1] (.t 20) (.t 21)),false,[]⟩,
 ⟨some 23,none,.p (.pick (.t 19) (.t 22) (.c (.bool false))),false,[]⟩,
 ⟨some 24,none,.p (.mov (.t 23)),false,[]⟩,
 ⟨some 25,(some (24, true)),.h (.call 14 []),false,[]⟩,
 ⟨some 26,none,.p (.pick (.t 24) (.t 25) (.c (.bool false))),false,[]⟩,
 ⟨some 2,none,.p (.mov (.t 26)),false,[]⟩]) .ret) .skip)) (.seq (.region [
 ⟨some 28,none,.h (.load true 3 (.t 1)),false,[]⟩,
 ⟨some 29,none,.h (.load true 3 (.t 3)),false,[]⟩,
 ⟨some 30,none,.h (.call 15 [(.t 28), (.t 29)]),false,[]⟩,
 ⟨some 27,none,.p (.mov (.t 30)),false,[]⟩,
 ⟨some 31,none,.p (.ext 0 (.t 27)),false,[]⟩,
 ⟨some 32,none,.p (.ext 1 (.t 27)),false,[]⟩,
 ⟨some 5,none,.h (.alloc [(.int .u8 0), (.int .i64 0), (.int .i64 0)]),false,[]⟩,
 ⟨none,none,.h (.store 3 (.t 5) (.t 31)),false,[]⟩,
 ⟨some 6,none,.p (.mov (.t 32)),false,[]⟩]) (.seq (.region [
 ⟨some 34,none,.h (.load true 3 (.t 3)),false,[]⟩,
 ⟨some 35,none,.h (.load true 3 (.t 1)),false,[]⟩,
 ⟨some 36,none,.h (.call 15 [(.t 34), (.t 35)]),false,[]⟩,
 ⟨some 33,none,.p (.mov (.t 36)),false,[]⟩,
 ⟨some 37,none,.p (.ext 0 (.t 33)),false,[]⟩,
 ⟨some 38,none,.p (.ext 1 (.t 33)),false,[]⟩,
 ⟨some 7,none,.h (.alloc [(.int .u8 0), (.int .i64 0), (.int .i64 0)]),false,[]⟩,
 ⟨none,none,.h (.store 3 (.t 7) (.t 37)),false,[]⟩,
 ⟨some 8,none,.p (.mov (.t 38)),false,[]⟩]) (.seq (.region [
 ⟨some 39,none,.p (.mov (.t 4)),false,[]⟩,
 ⟨some 40,none,.p (.bin .eql (.t 39) (.c (.int .i64 0))),false,[]⟩,
 ⟨some 41,none,.p (.mov (.t 40)),false,[]⟩,
 ⟨some 42,(some (41, true)),.h (.load true 3 (.t 3)),true,[]⟩,
 ⟨some 43,(some (41, true)),.h (.load true 3 (.t 1)),true,[]⟩,
 ⟨some 44,(some (41, true)),.h (.call 16 [(.t 43)]),true,[]⟩,
 ⟨some 45,(some (41, true)),.p (.eqf false true [1, 1, 1] (.t 42) (.t 44)),false,[]⟩,
 ⟨some 46,none,.p (.pick (.t 41) (.t 45) (.c (.bool false))),false,[]⟩,
 ⟨some 47,none,.p (.mov (.t 46)),false,[]⟩,
 ⟨some 48,(some (47, true)),.p (.mov (.t 6)),false,[]⟩,
 ⟨some 49,(some (47, true)),.p (.bin .eql (.t 48) (.c (.int .i64 0))),false,[]⟩,
 ⟨some 50,none,.p (.pick (.t 47) (.t 49) (.c (.bool false))),false,[]⟩,
 ⟨some 51,none,.p (.mov (.t 50)),false,[]⟩,
 ⟨some 52,(some (51, true)),.p (.mov (.t 8)),false,[]⟩,
 ⟨some 53,(some (51, true)),.p (.bin .eql (.t 52) (.c (.int .i64 0))),false,[]⟩,
 ⟨some 54,none,.p (.pick (.t 51) (.t 53) (.c (.bool false))),false,[]⟩,
 ⟨some 55,none,.p (.mov (.t 54)),false,[]⟩,
 ⟨some 56,(some (55, true)),.h (.load true 3 (.t 5)),true,[]⟩,
 ⟨some 57,(some (55, true)),.h (.call 17 []),true,[]⟩,
 ⟨some 58,(some (55, true)),.p (.eqf false true [1, 1, 1] (.t 56) (.t 57)),false,[]⟩,
 ⟨some 59,none,.p (.pick (.t 55) (.t 58) (.c (.bool false))),false,[]⟩,
 ⟨some 60,none,.p (.mov (.t 59)),false,[]⟩,
 ⟨some 61,(some (60, true)),.h (.load true 3 (.t 7)),true,[]⟩,
 ⟨some 62,(some (60, true)),.h (.call 17 []),true,[]⟩,
 ⟨some 63,(some (60, true)),.p (.eqf false true [1, 1, 1] (.t 61) (.t 62)),false,[]⟩,
 ⟨some 64,none,.p (.pick (.t 60) (.t 63) (.c (.bool false))),false,[]⟩,
 ⟨some 65,none,.p (.mov (.t 64)),false,[]⟩,
 ⟨some 66,(some (65, true)),.h (.call 14 []),false,[]⟩,
 ⟨some 67,none,.p (.pick (.t 65) (.t 66) (.c (.bool false))),false,[]⟩,
 ⟨some 2,none,.p (.mov (.t 67)),false,[]⟩]) .ret))))))⟩
theorem k3_ok : cfn Tryd.prog gl Tryd.f3 = some k3 := by kernel_rfl
def k4 : CFn := ⟨110, [(.t 4)], (.seq (.region [
 ⟨some 2,none,.h (.box (.t 0)),false,[]⟩,
 ⟨some 3,none,.h (.box (.t 1)),false,[]⟩,
 ⟨some 4,none,.p (.mov (.c (.bool false))),false,[]⟩]) (.seq (.region [
 ⟨some 12,none,.h (.load true 3 (.t 2)),false,[]⟩,
 ⟨some 13,none,.h (.load true 2 (.t 3)),false,[]⟩,
 ⟨some 14,none,.h (.call 18 [(.t 12), (.t 13)]),false,[]⟩,
 ⟨some 11,none,.p (.mov (.t 14)),false,[]⟩,
 ⟨some 15,none,.p (.ext 0 (.t 11)),false,[]⟩,
 ⟨some 16,none,.p (.ext 1 (.t 11)),false,[]⟩,
 ⟨some 5,none,.h (.alloc [(.int .i64 0), (.int .i64 0)]),false,[]⟩,
 ⟨none,none,.h (.store 2 (.t 5) (.t 15)),false,[]⟩,
 ⟨some 6,none,.p (.mov (.t 16)),false,[]⟩]) (.seq (.seq (.region [
 ⟨some 17,none,.h (.load true 3 (.t 2)),false,[]⟩,
 ⟨some 18,none,.h (.call 13 [(.t 17)]),false,[]⟩,
 ⟨some 19,none,.p (.bin .eql (.t 18) (.c (.int .i64 0))),false,[]⟩,
 ⟨some 20,none,.p (.mov (.t 19)),false,[]⟩,
 ⟨some 21,(some (20, false)),.h (.load true 2 (.t 3)),false,[]⟩,
 ⟨some 22,(some (20, false)),.h (.call 19 [(.t 21)]),false,[]⟩,
 ⟨some 23,(some (20, false)),.p (.bin .eql (.t 22) (.c (.int .i64 0))),false,[]⟩,
 ⟨some 24,none,.p (.pick (.t 20) (.c (.bool true)) (.t 23)),false,[]⟩]) (.cond (.t 24) (.seq (.region [
 ⟨some 25,none,.p (.mov (.t 6)),false,[]⟩,
 ⟨some 26,none,.p (.bin .eql (.t 25) (.c (.int .i64 1))),false,[]⟩,
 ⟨some 27,none,.p (.mov (.t 26)),false,[]⟩,
 ⟨some 28,(some (27, true)),.h (.load true 2 (.t 5)),false,[]⟩,
 ⟨some 29,(some (27, true)),.p (.build [(.int .i64 0), (.int .i64 0)] []),false,[]⟩,
 ⟨some 30,(some (27, true)),.p (.eqf false true [1, 1] (.t 28) (.t 29)),false,[]⟩,
 ⟨some 31,none,.p (.pick (.t 27) (.t 30) (.c (.bool false))),false,[]⟩,
 ⟨some 32,none,.p (.mov (.t 31)),false,[]⟩,
 ⟨some 33,(some (32, true)),.h (.call 14 []),false,[]⟩,
 ⟨some 34,none,.p (.pick (.t 32) (.t 33) (.c (.bool false))),false,[]⟩,
 ⟨some 4,none,.p (.mov (.t 34)),false,[]⟩]) .ret) .skip)) (.seq (.region [
 ⟨some 35,none,.h (.load true 3 (.t 2)),false,[]⟩,
 ⟨some 36,none,.h (.load true 2 (.t 3)),false,[]⟩,
 ⟨some 37,none,.h (.call 20 [(.t 35), (.t 36)]),false,[]⟩,
 ⟨some 7,none,.h (.alloc [(.int .i64 0), (.int .i64 0)]),false,[]⟩,
 ⟨none,none,.h (.store 2 (.t 7) (.t 37)),false,[]⟩]) (.seq (.seq (.region [
 ⟨some 38,none,.h (.load true 2 (.t 7)),false,[]⟩,
 ⟨some 39,none,.h (.call 19 [(.t 38)]),false,[]⟩,
 ⟨some 40,none,.p (.bin .eql (.t 39) (.c (.int .i64 0))),false,[]⟩]) (.cond (.t 40) (.seq (.region [
 ⟨some 41,none,.p (.mov (.t 6)),false,[]⟩,
 ⟨some 42,none,.p (.bin .eql (.t 41) (.c (.int .i64 3))),false,[]⟩,
 ⟨some 43,none,.p (.mov (.t 42)),false,[]⟩,
 ⟨some 44,(some (43, true)),.h (.load true 2 (.t 5)),false,[]⟩,
 ⟨some 45,(some (43, true)),.p (.build [(.int .i64 0), (.int .i64 0)] []),false,[]⟩,
 ⟨some 46,(some (43, true)),.p (.eqf false true [1, 1] (.t 44) (.t 45)),false,[]⟩,
 ⟨some 47,none,.p (.pick (.t 43) (.t 46) (.c (.bool false))),false,[]⟩,
 ⟨some 48,none,.p (.mov (.t 47)),false,[]⟩,
 ⟨some 49,(some (48, true)),.h (.call 14 []),false,[]⟩,
 ⟨some 50,none,.p (.pick (.t 48) (.t 49) (.c (.bool false))),false,[]⟩,
 ⟨some 4,none,.p (.mov (.t 50)),false,[]⟩]) .ret) .skip)) (.seq (.region [
 ⟨some 51,none,.h (.load true 3 (.t 2)),false,[]⟩,
 ⟨some 52,none,.p (.build [(.int .i64 0), (.int .i64 0)] []),false,[]⟩,
 ⟨some 53,none,.h (.call 20 [(.t 51), (.t 52)]),false,[]⟩,
 ⟨some 8,none,.h (.alloc [(.int .i64 0), (.int .i64 0)]),false,[]⟩,
 ⟨none,none,.h (.store 2 (.t 8) (.t 53)),false,[]⟩]) (.seq (.region [
 ⟨some 54,none,.p (.fad 0 (.t 5)),false,[]⟩,
 ⟨some 55,none,.h (.load false 1 (.t 54)),true,[]⟩,
 ⟨some 56,none,.p (.fad 0 (.t 8)),false,[]⟩,
 ⟨some 57,none,.h (.load false 1 (.t 56)),true,[]⟩,
 ⟨some 58,none,.p (.bin .sub (.t 55) (.t 57)),false,[]⟩,
 ⟨some 59,none,.p (.fad 1 (.t 5)),false,[]⟩,
 ⟨some 60,none,.h (.load false 1 (.t 59)),true,[]⟩,
 ⟨some 61,none,.p (.fad 1 (.t 8)),false,[]⟩,
 ⟨some 62,none,.h (.load false 1 (.t 61)),true,[]⟩,
 ⟨some 63,none,.p (.bin .sub (.t 60) (.t 62)),false,[]⟩,
 ⟨some 9,none,.p (.mov (.t 58)),false,[]⟩,
 ⟨some 10,none,.p (.mov (.t 63)),false,[]⟩]) (.seq (.region [
 ⟨some 64,none,.p (.mov (.t 6)),false,[]⟩,
 ⟨some 65,none,.p (.bin .eql (.t 64) (.c (.int .i64 0))),false,[]⟩,
 ⟨some 66,none,.p (.mov (.t 65)),false,[]⟩,
 ⟨some 67,(some (66, true)),.h (.load true 2 (.t 5)),false,[]⟩,
 ⟨some 68,(some (66, true)),.h (.load true 2 (.t 7)),false,[]⟩,
 ⟨some 69,(some (66, true)),.p (.eqf false true [1, 1] (.t 67) (.t 68)),false,[]⟩,
 ⟨some 70,none,.p (.pick (.t 66) (.t 69) (.c (.bool false))),false,[]⟩,
 ⟨some 71,none,.p (.mov (.t 70)),false,[]⟩,
 ⟨some 72,(some (71, true)),.p (.mov (.t 9)),false,[]⟩,
 ⟨some 73,(some (71, true)),.p (.mov (.t 9)),false,[]⟩,
 ⟨some 74,(some (71, true)),.p (.bin .mul (.t 72) (.t 73)),false,[]⟩,
 ⟨some 75,(some (71, true)),.p (.mov (.t 10)),false,[]⟩,
 ⟨some 76,(some (71, true)),.p (.mov (.t 10)),false,[]⟩,
 ⟨some 77,(some (71, true)),.p (.bin .mul (.t 75) (.t 76)),false,[]⟩,
 ⟨some 78,(some (71, true)),.p (.bin .add (.t 74) (.t 77)),false,[]⟩,
 ⟨some 79,(some (71, true)),.p (.fad 0 (.t 3)),false,[]⟩,
 ⟨some 80,(some (71, true)),.h (.load false 1 (.t 79)),false,[]⟩,
 ⟨some 81,(some (71, true)),.p (.fad 0 (.t 3)),false,[]⟩,
 ⟨some 82,(some (71, true)),.h (.load false 1 (.t 81)),false,[]⟩,
 ⟨some 83,(some (71, true)),.p (.bin .mul (.t 80) (.t 82)),false,[]⟩,
 ⟨some 84,(some (71, true)),.p (.fad 1 (.t 3)),false,[]⟩,
 ⟨some 85,(some (71, true)),.h (.load false 1 (.t 84)),false,[]⟩,
 ⟨some 86,(some (71, true)),.p (.fad 1 (.t 3)),false,[]⟩,
 ⟨some 87,(some (71, true)),.h (.load false 1 (.t 86)),false,[]⟩,
 ⟨some 88,(some (71, true)),.p (.bin .mul (.t 85) (.t 87)),false,[]⟩,
 ⟨some 89,(some (71, true)),.p (.bin .add (.t 83) (.t 88)),false,[]⟩,
 ⟨some 90,(some (71, true)),.p (.bin .eql (.t 78) (.t 89)),false,[]⟩,
 ⟨some 91,none,.p (.pick (.t 71) (.t 90) (.c (.bool false))),false,[]⟩,
 ⟨some 92,none,.p (.mov (.t 91)),false,[]⟩,
 ⟨some 93,(some (92, true)),.p (.fad 0 (.t 5)),false,[]⟩,
 ⟨some 94,(some (92, true)),.h (.load false 1 (.t 93)),false,[]⟩,
 ⟨some 95,(some (92, true)),.p (.fad 1 (.t 5)),false,[]⟩,
 ⟨some 96,(some (92, true)),.h (.load false 1 (.t 95)),false,[]⟩,
 ⟨some 97,(some (92, true)),.p (.bin .add (.t 94) (.t 96)),false,[]⟩,
 ⟨some 98,(some (92, true)),.p (.fad 0 (.t 3)),false,[]⟩,
 ⟨some 99,(some (92, true)),.h (.load false 1 (.t 98)),false,[]⟩,
 ⟨some 100,(some (92, true)),.p (.bin .sub (.t 97) (.t 99)),false,[]⟩,
 ⟨some 101,(some (92, true)),.p (.fad 1 (.t 3)),false,[]⟩,
 ⟨some 102,(some (92, true)),.h (.load false 1 (.t 101)),false,[]⟩,
 ⟨some 103,(some (92, true)),.p (.bin .sub (.t 100) (.t 102)),false,[]⟩,
 ⟨some 104,(some (92, true)),.p (.bin .rem (.t 103) (.c (.int .i64 2))),false,[]⟩,
 ⟨some 105,(some (92, true)),.p (.bin .eql (.t 104) (.c (.int .i64 0))),false,[]⟩,
 ⟨some 106,none,.p (.pick (.t 92) (.t 105) (.c (.bool false))),false,[]⟩,
 ⟨some 107,none,.p (.mov (.t 106)),false,[]⟩,
 ⟨some 108,(some (107, true)),.h (.call 14 []),false,[]⟩,
 ⟨some 109,none,.p (.pick (.t 107) (.t 108) (.c (.bool false))),false,[]⟩,
 ⟨some 4,none,.p (.mov (.t 109)),false,[]⟩]) .ret))))))))⟩
theorem k4_ok : cfn Tryd.prog gl Tryd.f4 = some k4 := by kernel_rfl
def k5 : CFn := ⟨82, [(.t 4)], (.seq (.region [
 ⟨some 2,none,.h (.box (.t 0)),false,[]⟩,
 ⟨some 3,none,.h (.box (.t 1)),false,[]⟩,
 ⟨some 4,none,.p (.mov (.c (.bool false))),false,[]⟩]) (.seq (.region [
 ⟨some 12,none,.h (.load true 3 (.t 2)),false,[]⟩,
 ⟨some 13,none,.h (.load true 2 (.t 3)),false,[]⟩,
 ⟨some 14,none,.h (.call 21 [(.t 12), (.t 13)]),false,[]⟩,
 ⟨some 11,none,.p (.mov (.t 14)),false,[]⟩,
 ⟨some 15,none,.p (.ext 0 (.t 11)),false,[]⟩,
 ⟨some 16,none,.p (.ext 1 (.t 11)),false,[]⟩,
 ⟨some 5,none,.h (.alloc [(.int .u8 0), (.int .i64 0)]),false,[]⟩,
 ⟨none,none,.h (.store 2 (.t 5) (.t 15)),false,[]⟩,
 ⟨some 6,none,.p (.mov (.t 16)),false,[]⟩]) (.seq (.seq (.region [
 ⟨some 17,none,.h (.load true 3 (.t 2)),false,[]⟩,
 ⟨some 18,none,.h (.call 13 [(.t 17)]),false,[]⟩,
 ⟨some 19,none,.p (.bin .eql (.t 18) (.c (.int .i64 0))),false,[]⟩,
 ⟨some 20,none,.p (.mov (.t 19)),false,[]⟩,
 ⟨some 21,(some (20, false)),.h (.load true 2 (.t 3)),false,[]⟩,
 ⟨some 22,(some (20, false)),.h (.call 22 [(.t 21)]),false,[]⟩,
 ⟨some 23,(some (20, false)),.p (.bin .eql (.t 22) (.c (.int .i64 0))),false,[]⟩,
 ⟨some 24,none,.p (.pick (.t 20) (.c (.bool true)) (.t 23)),false,[]⟩]) (.cond (.t 24) (.seq (.region [
 ⟨some 25,none,.p (.mov (.t 6)),false,[]⟩,
 ⟨some 26,none,.p (.bin .eql (.t 25) (.c (.int .i64 1))),false,[]⟩,
 ⟨some 27,none,.p (.mov (.t 26)),false,[]⟩,
 ⟨some 28,(some (27, true)),.h (.load true 2 (.t 5)),false,[]⟩,
 ⟨some 29,(some (27, true)),.p (.build [(.int .u8 0), (.int .i64 0)] []),false,[]⟩,
 ⟨some 30,(some (27, true)),.p (.eqf false true [1, 1] (.t 28) (.t 29)),false,[]⟩,
 ⟨some 31,none,.p (.pick (.t 27) (.t 30) (.c (.bool false))),false,[]⟩,
 ⟨some 32,none,.p (.mov (.t 31)),false,[]⟩,
 ⟨some 33,(some (32, true)),.h (.call 14 []),false,[]⟩,
 ⟨some 34,none,.p (.pick (.t 32) (.t 33) (.c (.bool false))),false,[]⟩,
 ⟨some 4,none,.p (.mov (.t 34)),false,[]⟩]) .ret) .skip)) (.seq (.region [
 ⟨some 35,none,.h (.load true 3 (.t 2)),false,[]⟩,
 ⟨some 36,none,.h (.load true 2 (.t 3)),false,[]⟩,
 ⟨some 37,none,.h (.call 23 [(.t 35), (.t 36)]),false,[]⟩,
 ⟨some 7,none,.h (.alloc [(.int .u8 0), (.int .i64 0)]),false,[]⟩,
 ⟨none,none,.h (.store 2 (.t 7) (.t 37)),false,[]⟩]) (.seq (.seq (.region [
 ⟨some 38,none,.h (.load true 2 (.t 7)),false,[]⟩,
 ⟨some 39,none,.h (.call 22 [(.t 38)]),false,[]⟩,
 ⟨some 40,none,.p (.bin .eql (.t 39) (.c (.int .i64 0))),false,[]⟩]) (.cond (.t 40) (.seq (.region [
 ⟨some 41,none,.p (.mov (.t 6)),false,[]⟩,
 ⟨some 42,none,.p (.bin .eql (.t 41) (.c (.int .i64 3))),false,[]⟩,
 ⟨some 43,none,.p (.mov (.t 42)),false,[]⟩,
 ⟨some 44,(some (43, true)),.h (.load true 2 (.t 5)),false,[]⟩,
 ⟨some 45,(some (43, true)),.p (.build [(.int .u8 0), (.int .i64 0)] []),false,[]⟩,
 ⟨some 46,(some (43, true)),.p (.eqf false true [1, 1] (.t 44) (.t 45)),false,[]⟩,
 ⟨some 47,none,.p (.pick (.t 43) (.t 46) (.c (.bool false))),false,[]⟩,
 ⟨some 48,none,.p (.mov (.t 47)),false,[]⟩,
 ⟨some 49,(some (48, true)),.h (.call 14 []),false,[]⟩,
 ⟨some 50,none,.p (.pick (.t 48) (.t 49) (.c (.bool false))),false,[]⟩,
 ⟨some 4,none,.p (.mov (.t 50)),false,[]⟩]) .ret) .skip)) (.seq (.region [
 ⟨some 51,none,.h (.load true 3 (.t 2)),true,[]⟩,
 ⟨some 52,none,.h (.call 16 [(.t 51)]),true,[]⟩,
 ⟨some 53,none,.h (.load true 2 (.t 3)),true,[]⟩,
 ⟨some 54,none,.h (.call 25 [(.t 53)]),true,[]⟩,
 ⟨some 55,none,.h (.call 24 [(.t 52), (.t 54)]),true,[]⟩,
 ⟨some 56,none,.h (.load true 3 (.t 2)),true,[]⟩,
 ⟨some 57,none,.h (.call 24 [(.t 55), (.t 56)]),true,[]⟩,
 ⟨some 8,none,.h (.alloc [(.int .u8 0), (.int .i64 0), (.int .i64 0)]),true,[]⟩,
 ⟨none,none,.h (.store 3 (.t 8) (.t 57)),false,[]⟩]) (.seq (.region [
 ⟨some 59,none,.h (.load true 2 (.t 5)),false,[]⟩,
 ⟨some 60,none,.h (.call 26 [(.t 59)]),false,[]⟩,
 ⟨some 58,none,.p (.mov (.t 60)),false,[]⟩,
 ⟨some 61,none,.p (.ext 0 (.t 58)),false,[]⟩,
 ⟨some 62,none,.p (.ext 1 (.t 58)),false,[]⟩,
 ⟨some 9,none,.h (.alloc [(.int .u8 0), (.int .i64 0), (.int .i64 0)]),false,[]⟩,
 ⟨none,none,.h (.store 3 (.t 9) (.t 61)),false,[]⟩,
 ⟨some 10,none,.p (.mov (.t 62)),false,[]⟩]) (.seq (.region [
 ⟨some 63,none,.p (.mov (.t 6)),false,[]⟩,
 ⟨some 64,none,.p (.bin .eql (.t 63) (.c (.int .i64 0))),false,[]⟩,
 ⟨some 65,none,.p (.mov (.t 64)),false,[]⟩,
 ⟨some 66,(some (65, true)),.h (.load true 2 (.t 5)),false,[]⟩,
 ⟨some 67,(some (65, true)),.h (.load true 2 (.t 7)),false,[]⟩,
 ⟨some 68,(some (65, true)),.p (.eqf false true [1, 1] (.t 66) (.t 67)),false,[]⟩,
 ⟨some 69,none,.p (.pick (.t 65) (.t 68) (.c (.bool false))),false,[]⟩,
 ⟨some 70,none,.p (.mov (.t 69)),false,[]⟩,
 ⟨some 71,(some (70, true)),.p (.mov (.t 10)),false,[]⟩,
 ⟨some 72,(some (70, true)),.p (.bin .eql (.t 71) (.c (.int .i64 0))),false,[]⟩,
 ⟨some 73,none,.p (.pick (.t 70) (.t 72) (.c (.bool false))),false,[]⟩,
 ⟨some 74,none,.p (.mov (.t 73)),false,[]⟩,
 ⟨some 75,(some (74, true)),.h (.load true 3 (.t 9)),false,[]⟩,
 ⟨some 76,(some (74, true)),.h (.load true 3 (.t 8)),false,[]⟩,
 ⟨some 77,(some (74, true)),.p (.eqf false true [1, 1, 1] (.t 75) (.t 76)),false,[]⟩,
 ⟨some 78,none,.p (.pick (.t 74) (.t 77) (.c (.bool false))),false,[]⟩,
 ⟨some 79,none,.p (.mov (.t 78)),false,[]⟩,
 ⟨some 80,(some (79, true)),.h (.call 14 []),false,[]⟩,
 ⟨some 81,none,.p (.pick (.t 79) (.t 80) (.c (.bool false))),false,[]⟩,
 ⟨some 4,none,.p (.mov (.t 81)),false,[]⟩]) .ret))))))))⟩
theorem k5_ok : cfn Tryd.prog gl Tryd.f5 = some k5 := by kernel_rfl
def k6 : CFn := ⟨108, [(.t 4)], (.seq (.region [
 ⟨some 2,none,.h (.box (.t 0)),false,[]⟩,
 ⟨some 3,none,.h (.box (.t 1)),false,[]⟩,
 ⟨some 4,none,.p (.mov (.c (.bool false))),false,[]⟩]) (.seq (.region [
 ⟨some 20,none,.p (.iadA 3 3 (.t 2) (.c (.int .i64 0))),false,[]⟩,
 ⟨some 21,none,.h (.load true 3 (.t 20)),true,[]⟩,
 ⟨some 22,none,.h (.call 27 [(.t 21)]),true,[]⟩,
 ⟨some 23,none,.p (.iadA 3 3 (.t 2) (.c (.int .i64 1))),false,[]⟩,
 ⟨some 24,none,.h (.load true 3 (.t 23)),true,[]⟩,
 ⟨some 25,none,.h (.call 27 [(.t 24)]),true,[]⟩,
 ⟨some 26,none,.p (.iadA 3 3 (.t 2) (.c (.int .i64 2))),false,[]⟩,
 ⟨some 27,none,.h (.load true 3 (.t 26)),true,[]⟩,
 ⟨some 28,none,.h (.call 27 [(.t 27)]),true,[]⟩,
 ⟨some 5,none,.h (.alloc [(.int .u8 0), (.int .i64 0), (.int .i64 0)]),true,[]⟩,
 ⟨some 6,none,.h (.alloc [(.int .u8 0), (.int .i64 0), (.int .i64 0)]),true,[]⟩,
 ⟨some 7,none,.h (.alloc [(.int .u8 0), (.int .i64 0), (.int .i64 0)]),true,[]⟩,
 ⟨none,none,.h (.store 3 (.t 5) (.t 22)),false,[]⟩,
 ⟨none,none,.h (.store 3 (.t 6) (.t 25)),false,[]⟩,
 ⟨none,none,.h (.store 3 (.t 7) (.t 28)),false,[]⟩]) (.seq (.region [
 ⟨some 30,none,.h (.load true 3 (.t 5)),false,[]⟩,
 ⟨some 31,none,.h (.load true 3 (.t 6)),false,[]⟩,
 ⟨some 32,none,.h (.call 15 [(.t 30), (.t 31)]),false,[]⟩,
 ⟨some 29,none,.p (.mov (.t 32)),false,[]⟩,
 ⟨some 33,none,.p (.ext 0 (.t 29)),false,[]⟩,
 ⟨some 34,none,.p (.ext 1 (.t 29)),false,[]⟩,
 ⟨some 8,none,.h (.alloc [(.int .u8 0), (.int .i64 0), (.int .i64 0)]),false,[]⟩,
 ⟨none,none,.h (.store 3 (.t 8) (.t 33)),false,[]⟩,
 ⟨some 9,none,.p (.mov (.t 34)),false,[]⟩]) (.seq (.region [
 ⟨some 36,none,.h (.load true 3 (.t 6)),false,[]⟩,
 ⟨some 37,none,.h (.load true 3 (.t 7)),false,[]⟩,
 ⟨some 38,none,.h (.call 15 [(.t 36), (.t 37)]),false,[]⟩,
 ⟨some 35,none,.p (.mov (.t 38)),false,[]⟩,
 ⟨some 39,none,.p (.ext 0 (.t 35)),false,[]⟩,
 ⟨some 40,none,.p (.ext 1 (.t 35)),false,[]⟩,
 ⟨some 10,none,.h (.alloc [(.int .u8 0), (.int .i64 0), (.int .i64 0)]),false,[]⟩,
 ⟨none,none,.h (.store 3 (.t 10) (.t 39)),false,[]⟩,
 ⟨some 11,none,.p (.mov (.t 40)),false,[]⟩]) (.seq (.region [
 ⟨some 42,none,.h (.load true 3 (.t 8)),false,[]⟩,
 ⟨some 43,none,.h (.load true 3 (.t 7)),false,[]⟩,
 ⟨some 44,none,.h (.call 15 [(.t 42), (.t 43)]),false,[]⟩,
 ⟨some 41,none,.p (.mov (.t 44)),false,[]⟩,
 ⟨some 45,none,.p (.ext 0 (.t 41)),false,[]⟩,
 ⟨some 46,none,.p (.ext 1 (.t 41)),false,[]⟩,
 ⟨some 12,none,.h (.alloc [(.int .u8 0), (.int .i64 0), (.int .i64 0)]),false,[]⟩,
 ⟨none,none,.h (.store 3 (.t 12) (.t 45)),false,[]⟩,
 ⟨some 13,none,.p (.mov (.t 46)),false,[]⟩]) (.seq (.region [
 ⟨some 48,none,.h (.load true 3 (.t 5)),false,[]⟩,
 ⟨some 49,none,.h (.load true 3 (.t 10)),false,[]⟩,
 ⟨some 50,none,.h (.call 15 [(.t 48), (.t 49)]),false,[]⟩,
 ⟨some 47,none,.p (.mov (.t 50)),false,[]⟩,
 ⟨some 51,none,.p (.ext 0 (.t 47)),false,[]⟩,
 ⟨some 52,none,.p (.ext 1 (.t 47)),false,[]⟩,
 ⟨some 14,none,.h (.alloc [(.int .u8 0), (.int .i64 0), (.int .i64 0)]),false,[]⟩,
 ⟨none,none,.h (.store 3 (.t 14) (.t 51)),false,[]⟩,
 ⟨some 15,none,.p (.mov (.t 52)),false,[]⟩]) (.seq (.seq (.region [
 ⟨some 53,none,.p (.mov (.t 9)),false,[]⟩,
 ⟨some 54,none,.p (.bin .neq (.t 53) (.c (.int .i64 0))),false,[]⟩,
 ⟨some 55,none,.p (.mov (.t 54)),false,[]⟩,
 ⟨some 56,(some (55, false)),.p (.mov (.t 11)),false,[]⟩,
 ⟨some 57,(some (55, false)),.p (.bin .neq (.t 56) (.c (.int .i64 0))),false,[]⟩,
 ⟨some 58,none,.p (.pick (.t 55) (.c (.bool true)) (.t 57)),false,[]⟩,
 ⟨some 59,none,.p (.mov (.t 58)),false,[]⟩,
 ⟨some 60,(some (59, false)),.p (.mov (.t 13)),false,[]⟩,
 ⟨some 61,(some (59, false)),.p (.bin .neq (.t 60) (.c (.int .i64 0))),false,[]⟩,
 ⟨some 62,none,.p (.pick (.t 59) (.c (.bool true)) (.t 61)),false,[]⟩,
 ⟨some 63,none,.p (.mov (.t 62)),false,[]⟩,
 ⟨some 64,(some (63, false)),.p (.mov (.t 15)),false,[]⟩,
 ⟨some 65,(some (63, false)),.p (.bin .neq (.t 64) (.c (.int .i64 0))),false,[]⟩,
 ⟨some 66,none,.p (.pick (.t 63) (.c (.bool true)) (.t 65)),false,[]⟩,
 ⟨some 67,none,.p (.mov (.t 66)),false,[]⟩,
 ⟨some 68,(some (67, false)),.h (.load true 3 (.t 12)),false,[]⟩,
 ⟨some 69,(some (67, false)),.h (.load true 3 (.t 14)),false,[]⟩,
 ⟨some 70,(some (67, false)),.p (.eqf true true [1, 1, 1] (.t 68) (.t 69)),false,[]⟩,
 ⟨some 71,none,.p (.pick (.t 67) (.c (.bool true)) (.t 70)),false,[]⟩]) (.cond (.t 71) (.seq (.region [
 ⟨some 4,none,.p (.mov (.c (.bool false))),false,[]⟩]) .ret) .skip)) (.seq (.region [
 ⟨some 72,none,.p (.iadA 2 1 (.t 3) (.c (.int .i64 0))),false,[]⟩,
 ⟨some 73,none,.h (.load false 1 (.t 72)),false,[]⟩,
 ⟨some 74,none,.p (.cvi .i64 (.t 73)),false,[]⟩,
 ⟨some 75,none,.p (.iadA 2 1 (.t 3) (.c (.int .i64 1))),false,[]⟩,
 ⟨some 76,none,.h (.load false 1 (.t 75)),false,[]⟩,
 ⟨some 77,none,.p (.cvi .i64 (.t 76)),false,[]⟩,
 ⟨some 78,none,.p (.build [(.int .i64 0), (.int .i64 0)] [(0, 1, (.t 74)), (1, 1, (.t 77))]),false,[]⟩,
 ⟨some 16,none,.h (.alloc [(.int .i64 0), (.int .i64 0)]),false,[]⟩,
 ⟨none,none,.h (.store 2 (.t 16) (.t 78)),false,[]⟩]) (.seq (.region [
 ⟨some 80,none,.h (.load true 3 (.t 12)),false,[]⟩,
 ⟨some 81,none,.h (.load true 2 (.t 16)),false,[]⟩,
 ⟨some 82,none,.h (.call 18 [(.t 80), (.t 81)]),false,[]⟩,
 ⟨some 79,none,.p (.mov (.t 82)),false,[]⟩,
 ⟨some 83,none,.p (.ext 0 (.t 79)),false,[]⟩,
 ⟨some 84,none,.p (.ext 1 (.t 79)),false,[]⟩,
 ⟨some 17,none,.h (.alloc [(.int .i64 0), (.int .i64 0)]),false,[]⟩,
 ⟨none,none,.h (.store 2 (.t 17) (.t 83)),false,[]⟩,
 ⟨some 18,none,.p (.mov (.t 84)),false,[]⟩]) (.seq (.seq (.region [
 ⟨some 19,none,.p (.mov (.c (.int .i64 0))),false,[]⟩]) (.block 0 (.loop (.seq (.seq (.region [
 ⟨some 85,none,.p (.mov (.t 19)),false,[]⟩,
 ⟨some 86,none,.p (.bin .lss (.t 85) (.c (.int .i64 3))),false,[]⟩]) (.cond (.t 86) .skip (.exit 0))) (.seq (.block 1 (.region [
 ⟨some 90,none,.p (.mov (.t 19)),false,[]⟩,
 ⟨some 91,none,.p (.iadA 3 3 (.t 2) (.t 90)),false,[]⟩,
 ⟨some 92,none,.h (.load true 3 (.t 91)),true,[]⟩,
 ⟨some 93,none,.h (.call 27 [(.t 92)]),true,[]⟩,
 ⟨some 94,none,.h (.load true 2 (.t 16)),true,[]⟩,
 ⟨some 95,none,.h (.call 18 [(.t 93), (.t 94)]),false,[]⟩,
 ⟨some 89,none,.p (.mov (.t 95)),false,[]⟩,
 ⟨some 96,none,.p (.ext 0 (.t 89)),false,[]⟩,
 ⟨some 97,none,.p (.ext 1 (.t 89)),false,[]⟩,
 ⟨none,none,.h (.store 2 (.t 16) (.t 96)),false,[]⟩])) (.region [
 ⟨some 87,none,.p (.mov (.t 19)),false,[]⟩,
 ⟨some 88,none,.p (.bin .add (.t 87) (.c (.int .i64 1))),false,[]⟩,
 ⟨some 19,none,.p (.mov (.t 88)),false,[]⟩])))))) (.seq (.region [
 ⟨some 98,none,.p (.mov (.t 18)),false,[]⟩,
 ⟨some 99,none,.p (.bin .eql (.t 98) (.c (.int .i64 0))),false,[]⟩,
 ⟨some 100,none,.p (.mov (.t 99)),false,[]⟩,
 ⟨some 101,(some (100, true)),.h (.load true 2 (.t 17)),false,[]⟩,
 ⟨some 102,(some (100, true)),.h (.load true 2 (.t 16)),false,[]⟩,
 ⟨some 103,(some (100, true)),.p (.eqf false true [1, 1] (.t 101) (.t 102)),false,[]⟩,
 ⟨some 104,none,.p (.pick (.t 100) (.t 103) (.c (.bool false))),false,[]⟩,
 ⟨some 105,none,.p (.mov (.t 104)),false,[]⟩,
 ⟨some 106,(some (105, true)),.h (.call 14 []),false,[]⟩,
 ⟨some 107,none,.p (.pick (.t 105) (.t 106) (.c (.bool false))),false,[]⟩,
 ⟨some 4,none,.p (.mov (.t 107)),false,[]⟩]) .ret)))))))))))⟩
theorem k6_ok : cfn Tryd.prog gl Tryd.f6 = some k6 := by kernel_rfl
def k7 : CFn := ⟨99, [(.t 2)], (.seq (.region [
 ⟨some 1,none,.h (.box (.t 0)),false,[]⟩,
 ⟨some 2,none,.p (.mov (.c (.bool false))),false,[]⟩]) (.seq (.region [
 ⟨some 12,none,.h (.load true 3 (.t 1)),false,[]⟩,
 ⟨some 13,none,.h (.call 27 [(.t 12)]),false,[]⟩,
 ⟨some 3,none,.h (.alloc [(.int .u8 0), (.int .i64 0), (.int .i64 0)]),false,[]⟩,
 ⟨none,none,.h (.store 3 (.t 3) (.t 13)),false,[]⟩]) (.seq (.region [
 ⟨some 14,none,.p (.fad 1 (.t 3)),false,[]⟩,
 ⟨some 15,none,.h (.load false 1 (.t 14)),true,[]⟩,
 ⟨some 16,none,.p (.fad 2 (.t 3)),false,[]⟩,
 ⟨some 17,none,.h (.load false 1 (.t 16)),true,[]⟩,
 ⟨some 18,none,.p (.bin .add (.t 15) (.t 17)),false,[]⟩,
 ⟨some 19,none,.p (.bin .quo (.t 18) (.c (.int .i64 2))),false,[]⟩,
 ⟨some 20,none,.p (.fad 1 (.t 3)),false,[]⟩,
 ⟨some 21,none,.h (.load false 1 (.t 20)),true,[]⟩,
 ⟨some 22,none,.p (.fad 2 (.t 3)),false,[]⟩,
 ⟨some 23,none,.h (.load false 1 (.t 22)),true,[]⟩,
 ⟨some 24,none,.p (.bin .sub (.t 21) (.t 23)),false,[]⟩,
 ⟨some 25,none,.p (.bin .quo (.t 24) (.c (.int .i64 2))),false,[]⟩,
 ⟨some 4,none,.p (.mov (.t 19)),false,[]⟩,
 ⟨some 5,none,.p (.mov (.t 25)),false,[]⟩]) (.seq (.region [
 ⟨some 26,none,.h (.bsl 2 0 [] []),false,[]⟩,
 ⟨some 27,none,.p (.build [(.int .u8 0), (.int .i64 0)] [(0, 1, (.c (.int .u8 1)))]),false,[]⟩,
 ⟨some 28,none,.p (.build [(.int .u8 0), (.int .i64 0)] [(0, 1, (.c (.int .u8 3)))]),false,[]⟩,
 ⟨some 29,none,.h (.bsl 2 2 [(.int .u8 0), (.int .i64 0), (.int .u8 0), (.int .i64 0)] [(0, 2, (.t 27)), (2, 2, (.t 28))]),false,[]⟩,
 ⟨some 30,none,.p (.build [(.int .u8 0), (.int .i64 0)] [(0, 1, (.c (.int .u8 1)))]),false,[]⟩,
 ⟨some 31,none,.p (.build [(.int .u8 0), (.int .i64 0)] [(0, 1, (.c (.int .u8 2)))]),false,[]⟩,
 ⟨some 32,none,.h (.bsl 2 2 [(.int .u8 0), (.int .i64 0), (.int .u8 0), (.int .i64 0)] [(0, 2, (.t 30)), (2, 2, (.t 31))]),false,[]⟩,
 ⟨some 33,none,.p (.build [(.int .u8 0), (.int .i64 0)] [(0, 1, (.c (.int .u8 3)))]),false,[]⟩,
 ⟨some 34,none,.p (.build [(.int .u8 0), (.int .i64 0)] [(0, 1, (.c (.int .u8 1)))]),false,[]⟩,
 ⟨some 35,none,.h (.bsl 2 2 [(.int .u8 0), (.int .i64 0), (.int .u8 0), (.int .i64 0)] [(0, 2, (.t 33)), (2, 2, (.t 34))]),false,[]⟩,
 ⟨some 36,none,.p (.build [(.int .u8 0), (.int .i64 0)] [(0, 1, (.c (.int .u8 1)))]),false,[]⟩,
 ⟨some 37,none,.h (.bsl 2 1 [(.int .u8 0), (.int .i64 0)] [(0, 2, (.t 36))]),false,[]⟩,
 ⟨some 38,none,.p (.build [(.int .u8 0), (.int .i64 0)] [(0, 1, (.c (.int .u8 3)))]),false,[]⟩,
 ⟨some 39,none,.h (.bsl 2 1 [(.int .u8 0), (.int .i64 0)] [(0, 2, (.t 38))]),false,[]⟩,
 ⟨some 40,none,.p (.build [(.int .u8 0), (.int .i64 0)] [(0, 1, (.c (.int .u8 2)))]),false,[]⟩,
 ⟨some 41,none,.h (.bsl 2 1 [(.int .u8 0), (.int .i64 0)] [(0, 2, (.t 40))]),false,[]⟩,
 ⟨some 42,none,.p (.build [(.int .u8 0), (.int .i64 0)] [(0, 1, (.c (.int .u8 4)))]),false,[]⟩,
 ⟨some 43,none,.h (.bsl 2 1 [(.int .u8 0), (.int .i64 0)] [(0, 2, (.t 42))]),false,[]⟩,
 ⟨some 44,none,.h (.bsl 1 8 [.nils, .nils, .nils, .nils, .nils, .nils, .nils, .nils] [(0, 1, (.t 26)), (1, 1, (.t 29)), (2, 1, (.t 32)), (3, 1, (.t 35)), (4, 1, (.t 37)), (5, 1, (.t 39)), (6, 1, (.t 41)), (7, 1, (.t 43))]),false,[]⟩,
 ⟨some 45,none,.p (.fad 0 (.t 3)),false,[]⟩,
 ⟨some 46,none,.h (.load false 1 (.t 45)),false,[]⟩,
 ⟨some 47,none,.p (.iadS 1 (.t 44) (.t 46)),false,[]⟩,
 ⟨some 48,none,.h (.load false 1 (.t 47)),false,[]⟩,
 ⟨some 6,none,.p (.mov (.t 48)),false,[]⟩]) (.seq (.region [
 ⟨some 49,none,.h (.bsl 2 0 [] []),false,[]⟩,
 ⟨some 50,none,.p (.mov (.t 6)),false,[]⟩,
 ⟨some 51,none,.h (.app 2 16 (.t 49) (.t 50)),false,[]⟩,
 ⟨some 52,none,.p (.build [(.int .u8 0), (.int .i64 0)] [(0, 1, (.c (.int .u8 3)))]),false,[]⟩,
 ⟨some 53,none,.p (.mov (.t 4)),false,[]⟩,
 ⟨some 54,none,.p (.build [(.int .u8 0), (.int .i64 0)] [(0, 1, (.c (.int .u8 3))), (1, 1, (.t 53))]),false,[]⟩,
 ⟨some 55,none,.p (.mov (.t 5)),false,[]⟩,
 ⟨some 56,none,.p (.build [(.int .u8 0), (.int .i64 0)] [(0, 1, (.c (.int .u8 4))), (1, 1, (.t 55))]),false,[]⟩,
 ⟨some 57,none,.p (.build [(.int .u8 0), (.int .i64 0)] [(0, 1, (.c (.int .u8 4)))]),false,[]⟩,
 ⟨some 58,none,.h (.bsl 2 4 [(.int .u8 0), (.int .i64 0), (.int .u8 0), (.int .i64 0), (.int .u8 0), (.int .i64 0), (.int .u8 0), (.int .i64 0)] [(0, 2, (.t 52)), (2, 2, (.t 54)), (4, 2, (.t 56)), (6, 2, (.t 57))]),false,[]⟩,
 ⟨some 59,none,.h (.app 2 16 (.t 51) (.t 58)),false,[]⟩,
 ⟨some 7,none,.p (.mov (.t 59)),false,[]⟩]) (.seq (.region [
 ⟨some 60,none,.h (.call 17 []),false,[]⟩,
 ⟨some 8,none,.h (.alloc [(.int .u8 0), (.int .i64 0), (.int .i64 0)]),false,[]⟩,
 ⟨none,none,.h (.store 3 (.t 8) (.t 60)),false,[]⟩]) (.seq (.seq (.region [
 ⟨some 9,none,.p (.mov (.c (.int .i64 0))),false,[]⟩]) (.block 0 (.loop (.seq (.seq (.region [
 ⟨some 61,none,.p (.mov (.t 9)),false,[]⟩,
 ⟨some 62,none,.p (.mov (.t 7)),false,[]⟩,
 ⟨some 63,none,.p (.len (.t 62)),false,[]⟩,
 ⟨some 64,none,.p (.bin .lss (.t 61) (.t 63)),false,[]⟩]) (.cond (.t 64) .skip (.exit 0))) (.seq (.block 1 (.seq (.region [
 ⟨some 68,none,.p (.mov (.t 7)),false,[]⟩,
 ⟨some 69,none,.p (.mov (.t 9)),false,[]⟩,
 ⟨some 70,none,.p (.iadS 2 (.t 68) (.t 69)),false,[]⟩,
 ⟨some 71,none,.h (.load true 2 (.t 70)),false,[]⟩,
 ⟨some 72,none,.h (.call 26 [(.t 71)]),false,[]⟩,
 ⟨some 67,none,.p (.mov (.t 72)),false,[]⟩,
 ⟨some 73,none,.p (.ext 0 (.t 67)),false,[]⟩,
 ⟨some 74,none,.p (.ext 1 (.t 67)),false,[]⟩,
 ⟨some 10,none,.h (.alloc [(.int .u8 0), (.int .i64 0), (.int .i64 0)]),false,[]⟩,
 ⟨none,none,.h (.store 3 (.t 10) (.t 73)),false,[]⟩,
 ⟨some 11,none,.p (.mov (.t 74)),false,[]⟩]) (.seq (.seq (.region [
 ⟨some 75,none,.p (.mov (.t 11)),false,[]⟩,
 ⟨some 76,none,.p (.bin .neq (.t 75) (.c (.int .i64 0))),false,[]⟩]) (.cond (.t 76) (.seq (.region [
 ⟨some 2,none,.p (.mov (.c (.bool false))),false,[]⟩]) .ret) .skip)) (.seq (.region [
 ⟨some 78,none,.h (.load true 3 (.t 8)),false,[]⟩,
 ⟨some 79,none,.h (.load true 3 (.t 10)),false,[]⟩,
 ⟨some 80,none,.h (.call 15 [(.t 78), (.t 79)]),false,[]⟩,
 ⟨some 77,none,.p (.mov (.t 80)),false,[]⟩,
 ⟨some 81,none,.p (.ext 0 (.t 77)),false,[]⟩,
 ⟨some 82,none,.p (.ext 1 (.t 77)),false,[]⟩,
 ⟨none,none,.h (.store 3 (.t 8) (.t 81)),false,[]⟩,
 ⟨some 11,none,.p (.mov (.t 82)),false,[]⟩]) (.seq (.region [
 ⟨some 83,none,.p (.mov (.t 11)),false,[]⟩,
 ⟨some 84,none,.p (.bin .neq (.t 83) (.c (.int .i64 0))),false,[]⟩,
 ⟨some 85,none,.p (.mov (.t 84)),false,[]⟩,
 ⟨some 86,(some (85, false)),.p (.mov (.t 7)),false,[]⟩,
 ⟨some 87,(some (85, false)),.p (.mov (.t 9)),false,[]⟩,
 ⟨some 88,(some (85, false)),.p (.iadS 2 (.t 86) (.t 87)),false,[]⟩,
 ⟨some 89,(some (85, false)),.h (.load true 2 (.t 88)),false,[]⟩,
 ⟨some 90,(some (85, false)),.h (.call 28 [(.t 89)]),false,[]⟩,
 ⟨some 91,(some (85, false)),.p (.bin .neq (.t 90) (.c (.int .i64 0))),false,[]⟩,
 ⟨some 92,none,.p (.pick (.t 85) (.c (.bool true)) (.t 91)),false,[]⟩]) (.cond (.t 92) (.seq (.region [
 ⟨some 2,none,.p (.mov (.c (.bool false))),false,[]⟩]) .ret) .skip)))))) (.region [
 ⟨some 65,none,.p (.mov (.t 9)),false,[]⟩,
 ⟨some 66,none,.p (.bin .add (.t 65) (.c (.int .i64 1))),false,[]⟩,
 ⟨some 9,none,.p (.mov (.t 66)),false,[]⟩])))))) (.seq (.region [
 ⟨some 93,none,.h (.load true 3 (.t 8)),false,[]⟩,
 ⟨some 94,none,.h (.load true 3 (.t 3)),false,[]⟩,
 ⟨some 95,none,.p (.eqf false true [1, 1, 1] (.t 93) (.t 94)),false,[]⟩,
 ⟨some 96,none,.p (.mov (.t 95)),false,[]⟩,
 ⟨some 97,(some (96, true)),.h (.call 14 []),false,[]⟩,
 ⟨some 98,none,.p (.pick (.t 96) (.t 97) (.c (.bool false))),false,[]⟩,
 ⟨some 2,none,.p (.mov (.t 98)),false,[]⟩]) .ret))))))))⟩
theorem k7_ok : cfn Tryd.prog gl Tryd.f7 = some k7 := by kernel_rfl
def k8 : CFn := ⟨63, [(.t 4)], (.seq (.region [
 ⟨some 2,none,.h (.box (.t 0)),false,[]⟩,
 ⟨some 4,none,.p (.mov (.c (.bool false))),false,[]⟩]) (.seq (.seq (.region [
 ⟨some 10,none,.p (.mov (.t 1)),false,[]⟩,
 ⟨some 11,none,.p (.lenS (.t 10)),false,[]⟩,
 ⟨some 12,none,.p (.bin .gtr (.t 11) (.c (.int .i64 30))),false,[]⟩]) (.cond (.t 12) (.seq (.region [
 ⟨some 4,none,.p (.mov (.c (.bool true))),false,[]⟩]) .ret) .skip)) (.seq (.region [
 ⟨some 5,none,.p (.mov (.c (.str []))),false,[]⟩]) (.seq (.seq (.region [
 ⟨some 13,none,.h (.load true 3 (.t 2)),false,[]⟩,
 ⟨some 14,none,.h (.call 13 [(.t 13)]),false,[]⟩,
 ⟨some 15,none,.p (.bin .eql (.t 14) (.c (.int .i64 1))),false,[]⟩]) (.cond (.t 15) (.seq (.region [
 ⟨some 16,none,.h (.load true 3 (.t 2)),false,[]⟩,
 ⟨some 17,none,.h (.call 29 [(.t 16)]),false,[]⟩,
 ⟨some 5,none,.p (.mov (.t 17)),false,[]⟩]) (.seq (.region [
 ⟨some 19,none,.p (.mov (.t 5)),false,[]⟩,
 ⟨some 20,none,.h (.call 30 [(.t 19)]),false,[]⟩,
 ⟨some 18,none,.p (.mov (.t 20)),false,[]⟩,
 ⟨some 21,none,.p (.ext 0 (.t 18)),false,[]⟩,
 ⟨some 22,none,.p (.ext 1 (.t 18)),false,[]⟩,
 ⟨some 6,none,.h (.alloc [(.int .u8 0), (.int .i64 0), (.int .i64 0)]),false,[]⟩,
 ⟨none,none,.h (.store 3 (.t 6) (.t 21)),false,[]⟩,
 ⟨some 7,none,.p (.mov (.t 22)),false,[]⟩]) (.seq (.region [
 ⟨some 23,none,.h (.load true 3 (.t 6)),false,[]⟩,
 ⟨some 24,none,.h (.load true 3 (.t 2)),false,[]⟩,
 ⟨some 25,none,.p (.eqf true true [1, 1, 1] (.t 23) (.t 24)),false,[]⟩,
 ⟨some 26,none,.p (.mov (.t 25)),false,[]⟩,
 ⟨some 27,(some (26, false)),.p (.mov (.t 7)),false,[]⟩,
 ⟨some 28,(some (26, false)),.p (.bin .neq (.t 27) (.c (.int .i64 0))),false,[]⟩,
 ⟨some 29,none,.p (.pick (.t 26) (.c (.bool true)) (.t 28)),false,[]⟩]) (.cond (.t 29) (.seq (.region [
 ⟨some 4,none,.p (.mov (.c (.bool false))),false,[]⟩]) .ret) .skip)))) .skip)) (.seq (.seq (.region [
 ⟨some 30,none,.h (.load true 3 (.t 2)),false,[]⟩,
 ⟨some 31,none,.h (.call 31 [(.t 30)]),false,[]⟩,
 ⟨some 32,none,.p (.mov (.t 5)),false,[]⟩,
 ⟨some 33,none,.p (.bin .neq (.t 31) (.t 32)),false,[]⟩]) (.cond (.t 33) (.seq (.region [
 ⟨some 4,none,.p (.mov (.c (.bool false))),false,[]⟩]) .ret) .skip)) (.seq (.region [
 ⟨some 35,none,.p (.mov (.t 1)),false,[]⟩,
 ⟨some 36,none,.h (.call 30 [(.t 35)]),false,[]⟩,
 ⟨some 34,none,.p (.mov (.t 36)),false,[]⟩,
 ⟨some 37,none,.p (.ext 0 (.t 34)),false,[]⟩,
 ⟨some 38,none,.p (.ext 1 (.t 34)),false,[]⟩,
 ⟨some 8,none,.h (.alloc [(.int .u8 0), (.int .i64 0), (.int .i64 0)]),false,[]⟩,
 ⟨none,none,.h (.store 3 (.t 8) (.t 37)),false,[]⟩,
 ⟨some 9,none,.p (.mov (.t 38)),false,[]⟩]) (.seq (.seq (.region [
 ⟨some 39,none,.p (.mov (.t 9)),false,[]⟩,
 ⟨some 40,none,.p (.bin .neq (.t 39) (.c (.int .i64 0))),false,[]⟩]) (.cond (.t 40) (.seq (.region [
 ⟨some 41,none,.p (.mov (.t 9)),false,[]⟩,
 ⟨some 42,none,.p (.bin .eql (.t 41) (.c (.int .i64 4))),false,[]⟩,
 ⟨some 43,none,.p (.mov (.t 42)),false,[]⟩,
 ⟨some 44,(some (43, true)),.h (.load true 3 (.t 8)),false,[]⟩,
 ⟨some 45,(some (43, true)),.p (.build [(.int .u8 0), (.int .i64 0), (.int .i64 0)] []),false,[]⟩,
 ⟨some 46,(some (43, true)),.p (.eqf false true [1, 1, 1] (.t 44) (.t 45)),false,[]⟩,
 ⟨some 47,none,.p (.pick (.t 43) (.t 46) (.c (.bool false))),false,[]⟩,
 ⟨some 48,none,.p (.mov (.t 47)),false,[]⟩,
 ⟨some 49,(some (48, true)),.h (.call 14 []),false,[]⟩,
 ⟨some 50,none,.p (.pick (.t 48) (.t 49) (.c (.bool false))),false,[]⟩,
 ⟨some 4,none,.p (.mov (.t 50)),false,[]⟩]) .ret) .skip)) (.seq (.region [
 ⟨some 51,none,.h (.load true 3 (.t 8)),false,[]⟩,
 ⟨some 52,none,.h (.call 13 [(.t 51)]),false,[]⟩,
 ⟨some 53,none,.p (.bin .eql (.t 52) (.c (.int .i64 1))),false,[]⟩,
 ⟨some 54,none,.p (.mov (.t 53)),false,[]⟩,
 ⟨some 55,(some (54, true)),.h (.load true 3 (.t 8)),false,[]⟩,
 ⟨some 56,(some (54, true)),.h (.call 29 [(.t 55)]),false,[]⟩,
 ⟨some 57,(some (54, true)),.p (.mov (.t 1)),false,[]⟩,
 ⟨some 58,(some (54, true)),.p (.bin .eql (.t 56) (.t 57)),false,[]⟩,
 ⟨some 59,none,.p (.pick (.t 54) (.t 58) (.c (.bool false))),false,[]⟩,
 ⟨some 60,none,.p (.mov (.t 59)),false,[]⟩,
 ⟨some 61,(some (60, true)),.h (.call 14 []),false,[]⟩,
 ⟨some 62,none,.p (.pick (.t 60) (.t 61) (.c (.bool false))),false,[]⟩,
 ⟨some 4,none,.p (.mov (.t 62)),false,[]⟩]) .ret))))))))⟩
theorem k8_ok : cfn Tryd.prog gl Tryd.f8 = some k8 := by kernel_rfl
def k9 : CFn := ⟨89, [(.t 6)], (.seq (.region [
 ⟨some 3,none,.h (.box (.t 0)),false,[]⟩,
 ⟨some 6,none,.p (.mov (.c (.bool false))),false,[]⟩]) (.seq (.region [
 ⟨some 15,none,.h (.load true 2 (.t 3)),false,[]⟩,
 ⟨some 16,none,.h (.call 26 [(.t 15)]),false,[]⟩,
 ⟨some 14,none,.p (.mov (.t 16)),false,[]⟩,
 ⟨some 17,none,.p (.ext 0 (.t 14)),false,[]⟩,
 ⟨some 18,none,.p (.ext 1 (.t 14)),false,[]⟩,
 ⟨some 7,none,.h (.alloc [(.int .u8 0), (.int .i64 0), (.int .i64 0)]),false,[]⟩,
 ⟨none,none,.h (.store 3 (.t 7) (.t 17)),false,[]⟩,
 ⟨some 8,none,.p (.mov (.t 18)),false,[]⟩]) (.seq (.seq (.region [
 ⟨some 19,none,.h (.load true 2 (.t 3)),false,[]⟩,
 ⟨some 20,none,.h (.call 22 [(.t 19)]),false,[]⟩,
 ⟨some 21,none,.p (.bin .eql (.t 20) (.c (.int .i64 0))),false,[]⟩]) (.cond (.t 21) (.seq (.region [
 ⟨some 22,none,.p (.mov (.t 8)),false,[]⟩,
 ⟨some 23,none,.p (.bin .eql (.t 22) (.c (.int .i64 1))),false,[]⟩,
 ⟨some 24,none,.p (.mov (.t 23)),false,[]⟩,
 ⟨some 25,(some (24, true)),.h (.load true 3 (.t 7)),false,[]⟩,
 ⟨some 26,(some (24, true)),.p (.build [(.int .u8 0), (.int .i64 0), (.int .i64 0)] []),false,[]⟩,
 ⟨some 27,(some (24, true)),.p (.eqf false true [1, 1, 1] (.t 25) (.t 26)),false,[]⟩,
 ⟨some 28,none,.p (.pick (.t 24) (.t 27) (.c (.bool false))),false,[]⟩,
 ⟨some 29,none,.p (.mov (.t 28)),false,[]⟩,
 ⟨some 30,(some (29, true)),.h (.call 14 []),false,[]⟩,
 ⟨some 31,none,.p (.pick (.t 29) (.t 30) (.c (.bool false))),false,[]⟩,
 ⟨some 6,none,.p (.mov (.t 31)),false,[]⟩]) .ret) .skip)) (.seq (.region [
 ⟨some 32,none,.p (.mov (.t 1)),false,[]⟩,
 ⟨some 33,none,.p (.cvi .i64 (.t 32)),false,[]⟩,
 ⟨some 34,none,.p (.mov (.t 2)),false,[]⟩,
 ⟨some 35,none,.p (.cvi .i64 (.t 34)),false,[]⟩,
 ⟨some 36,none,.p (.build [(.int .i64 0), (.int .i64 0)] [(0, 1, (.t 33)), (1, 1, (.t 35))]),false,[]⟩,
 ⟨some 9,none,.h (.alloc [(.int .i64 0), (.int .i64 0)]),false,[]⟩,
 ⟨none,none,.h (.store 2 (.t 9) (.t 36)),false,[]⟩]) (.seq (.region [
 ⟨some 38,none,.h (.load true 3 (.t 7)),false,[]⟩,
 ⟨some 39,none,.h (.load true 2 (.t 9)),false,[]⟩,
 ⟨some 40,none,.h (.call 18 [(.t 38), (.t 39)]),false,[]⟩,
 ⟨some 37,none,.p (.mov (.t 40)),false,[]⟩,
 ⟨some 41,none,.p (.ext 0 (.t 37)),false,[]⟩,
 ⟨some 42,none,.p (.ext 1 (.t 37)),false,[]⟩,
 ⟨some 10,none,.h (.alloc [(.int .i64 0), (.int .i64 0)]),false,[]⟩,
 ⟨none,none,.h (.store 2 (.t 10) (.t 41)),false,[]⟩,
 ⟨some 11,none,.p (.mov (.t 42)),false,[]⟩]) (.seq (.region [
 ⟨some 44,none,.h (.load true 3 (.t 7)),false,[]⟩,
 ⟨some 45,none,.h (.load true 3 (.t 7)),false,[]⟩,
 ⟨some 46,none,.h (.call 15 [(.t 44), (.t 45)]),false,[]⟩,
 ⟨some 43,none,.p (.mov (.t 46)),false,[]⟩,
 ⟨some 47,none,.p (.ext 0 (.t 43)),false,[]⟩,
 ⟨some 48,none,.p (.ext 1 (.t 43)),false,[]⟩,
 ⟨some 12,none,.h (.alloc [(.int .u8 0), (.int .i64 0), (.int .i64 0)]),false,[]⟩,
 ⟨none,none,.h (.store 3 (.t 12) (.t 47)),false,[]⟩,
 ⟨some 13,none,.p (.mov (.t 48)),false,[]⟩]) (.seq (.region [
 ⟨some 49,none,.p (.mov (.t 8)),false,[]⟩,
 ⟨some 50,none,.p (.bin .eql (.t 49) (.c (.int .i64 0))),false,[]⟩,
 ⟨some 51,none,.p (.mov (.t 50)),false,[]⟩,
 ⟨some 52,(some (51, true)),.h (.load true 3 (.t 7)),true,[]⟩,
 ⟨some 53,(some (51, true)),.h (.load true 2 (.t 3)),true,[]⟩,
 ⟨some 54,(some (51, true)),.h (.call 25 [(.t 53)]),true,[]⟩,
 ⟨some 55,(some (51, true)),.p (.eqf false true [1, 1, 1] (.t 52) (.t 54)),false,[]⟩,
 ⟨some 56,none,.p (.pick (.t 51) (.t 55) (.c (.bool false))),false,[]⟩,
 ⟨some 57,none,.p (.mov (.t 56)),false,[]⟩,
 ⟨some 58,(some (57, true)),.p (.mov (.t 11)),false,[]⟩,
 ⟨some 59,(some (57, true)),.p (.bin .eql (.t 58) (.c (.int .i64 0))),false,[]⟩,
 ⟨some 60,none,.p (.pick (.t 57) (.t 59) (.c (.bool false))),false,[]⟩,
 ⟨some 61,none,.p (.mov (.t 60)),false,[]⟩,
 ⟨some 62,(some (61, true)),.h (.load true 2 (.t 10)),true,[]⟩,
 ⟨some 63,(some (61, true)),.h (.load true 2 (.t 3)),true,[]⟩,
 ⟨some 64,(some (61, true)),.h (.load true 2 (.t 9)),true,[]⟩,
 ⟨some 65,(some (61, true)),.h (.call 32 [(.t 63), (.t 64)]),true,[]⟩,
 ⟨some 66,(some (61, true)),.p (.eqf false true [1, 1] (.t 62) (.t 65)),false,[]⟩,
 ⟨some 67,none,.p (.pick (.t 61) (.t 66) (.c (.bool false))),false,[]⟩,
 ⟨some 68,none,.p (.mov (.t 67)),false,[]⟩,
 ⟨some 69,(some (68, true)),.p (.mov (.t 13)),false,[]⟩,
 ⟨some 70,(some (68, true)),.p (.bin .eql (.t 69) (.c (.int .i64 0))),false,[]⟩,
 ⟨some 71,none,.p (.pick (.t 68) (.t 70) (.c (.bool false))),false,[]⟩,
 ⟨some 72,none,.p (.mov (.t 71)),false,[]⟩,
 ⟨some 73,(some (72, true)),.h (.load true 3 (.t 12)),true,[]⟩,
 ⟨some 74,(some (72, true)),.h (.call 17 []),true,[]⟩,
 ⟨some 75,(some (72, true)),.p (.eqf false true [1, 1, 1] (.t 73) (.t 74)),false,[]⟩,
 ⟨some 76,none,.p (.pick (.t 72) (.t 75) (.c (.bool false))),false,[]⟩,
 ⟨some 77,none,.p (.mov (.t 76)),false,[]⟩,
 ⟨some 78,(some (77, true)),.h (.load true 3 (.t 7)),true,[]⟩,
 ⟨some 79,(some (77, true)),.h (.call 33 [(.t 78)]),false,[]⟩,
 ⟨some 80,none,.p (.pick (.t 77) (.t 79) (.c (.bool false))),false,[]⟩,
 ⟨some 81,none,.p (.mov (.t 80)),false,[]⟩,
 ⟨some 82,(some (81, true)),.h (.load true 3 (.t 7)),true,[]⟩,
 ⟨some 83,(some (81, true)),.h (.call 34 [(.t 82)]),false,[]⟩,
 ⟨some 84,(some (81, true)),.p (.bin .eql (.t 83) (.c (.int .i64 0))),false,[]⟩,
 ⟨some 85,none,.p (.pick (.t 81) (.t 84) (.c (.bool false))),false,[]⟩,
 ⟨some 86,none,.p (.mov (.t 85)),false,[]⟩,
 ⟨some 87,(some (86, true)),.h (.call 14 []),false,[]⟩,
 ⟨some 88,none,.p (.pick (.t 86) (.t 87) (.c (.bool false))),false,[]⟩,
 ⟨some 6,none,.p (.mov (.t 88)),false,[]⟩]) .ret)))))))⟩
theorem k9_ok : cfn Tryd.prog gl Tryd.f9 = some k9 := by kernel_rfl
def k10 : CFn := ⟨97, [(.t 4)], (.seq (.region [
 ⟨some 2,none,.h (.box (.t 0)),false,[]⟩,
 ⟨some 3,none,.h (.box (.t 1)),false,[]⟩,
 ⟨some 4,none,.p (.mov (.c (.bool false))),false,[]⟩]) (.seq (.region [
 ⟨some 10,none,.h (.load true 3 (.t 2)),false,[]⟩,
 ⟨some 11,none,.h (.load true 3 (.t 3)),false,[]⟩,
 ⟨some 12,none,.h (.call 15 [(.t 10), (.t 11)]),false,[]⟩,
 ⟨some 9,none,.p (.mov (.t 12)),false,[]⟩,
 ⟨some 13,none,.p (.ext 0 (.t 9)),false,[]⟩,
 ⟨some 14,none,.p (.ext 1 (.t 9)),false,[]⟩,
 ⟨some 5,none,.h (.alloc [(.int .u8 0), (.int .i64 0), (.int .i64 0)]),false,[]⟩,
 ⟨none,none,.h (.store 3 (.t 5) (.t 13)),false,[]⟩,
 ⟨some 6,none,.p (.mov (.t 14)),false,[]⟩]) (.seq (.region [
 ⟨some 15,none,.h (.load true 3 (.t 2)),false,[]⟩,
 ⟨some 16,none,.h (.call 13 [(.t 15)]),false,[]⟩,
 ⟨some 17,none,.p (.bin .eql (.t 16) (.c (.int .i64 1))),false,[]⟩,
 ⟨some 7,none,.p (.mov (.t 17)),false,[]⟩]) (.seq (.seq (.region [
 ⟨some 18,none,.h (.load true 3 (.t 2)),false,[]⟩,
 ⟨some 19,none,.h (.call 34 [(.t 18)]),false,[]⟩,
 ⟨some 20,none,.p (.bin .eql (.t 19) (.c (.int .i64 0))),false,[]⟩,
 ⟨some 21,none,.p (.mov (.t 7)),false,[]⟩,
 ⟨some 22,none,.p (.eqf true false [0] (.t 20) (.t 21)),false,[]⟩,
 ⟨some 23,none,.p (.mov (.t 22)),false,[]⟩,
 ⟨some 24,(some (23, false)),.p (.mov (.t 7)),false,[]⟩,
 ⟨some 25,(some (23, false)),.p (.not (.t 24)),false,[]⟩,
 ⟨some 26,(some (23, false)),.p (.mov (.t 25)),false,[]⟩,
 ⟨some 27,(some (26, true)),.h (.load true 3 (.t 2)),false,[]⟩,
 ⟨some 28,(some (26, true)),.h (.call 34 [(.t 27)]),false,[]⟩,
 ⟨some 29,(some (26, true)),.p (.bin .neq (.t 28) (.c (.int .i64 1))),false,[]⟩,
 ⟨some 30,(some (26, true)),.p (.mov (.t 29)),false,[]⟩,
 ⟨some 31,(some (30, false)),.h (.load true 3 (.t 2)),false,[]⟩,
 ⟨some 32,(some (30, false)),.h (.call 33 [(.t 31)]),false,[]⟩,
 ⟨some 33,(some (26, true)),.p (.pick (.t 30) (.c (.bool true)) (.t 32)),false,[]⟩,
 ⟨some 34,(some (23, false)),.p (.pick (.t 26) (.t 33) (.c (.bool false))),false,[]⟩,
 ⟨some 35,none,.p (.pick (.t 23) (.c (.bool true)) (.t 34)),false,[]⟩]) (.cond (.t 35) (.seq (.region [
 ⟨some 4,none,.p (.mov (.c (.bool false))),false,[]⟩]) .ret) .skip)) (.seq (.seq (.region [
 ⟨some 36,none,.p (.mov (.t 7)),false,[]⟩,
 ⟨some 37,none,.p (.not (.t 36)),false,[]⟩,
 ⟨some 38,none,.p (.mov (.t 37)),false,[]⟩,
 ⟨some 39,(some (38, false)),.h (.load true 3 (.t 3)),false,[]⟩,
 ⟨some 40,(some (38, false)),.h (.call 13 [(.t 39)]),false,[]⟩,
 ⟨some 41,(some (38, false)),.p (.bin .eql (.t 40) (.c (.int .i64 0))),false,[]⟩,
 ⟨some 42,none,.p (.pick (.t 38) (.c (.bool true)) (.t 41)),false,[]⟩]) (.cond (.t 42) (.seq (.region [
 ⟨some 43,none,.p (.mov (.t 6)),false,[]⟩,
 ⟨some 44,none,.p (.bin .eql (.t 43) (.c (.int .i64 1))),false,[]⟩,
 ⟨some 45,none,.p (.mov (.t 44)),false,[]⟩,
 ⟨some 46,(some (45, true)),.h (.load true 3 (.t 5)),false,[]⟩,
 ⟨some 47,(some (45, true)),.p (.build [(.int .u8 0), (.int .i64 0), (.int .i64 0)] []),false,[]⟩,
 ⟨some 48,(some (45, true)),.p (.eqf false true [1, 1, 1] (.t 46) (.t 47)),false,[]⟩,
 ⟨some 49,none,.p (.pick (.t 45) (.t 48) (.c (.bool false))),false,[]⟩,
 ⟨some 50,none,.p (.mov (.t 49)),false,[]⟩,
 ⟨some 51,(some (50, true)),.h (.call 14 []),false,[]⟩,
 ⟨some 52,none,.p (.pick (.t 50) (.t 51) (.c (.bool false))),false,[]⟩,
 ⟨some 4,none,.p (.mov (.t 52)),false,[]⟩]) .ret) .skip)) (.seq (.region [
 ⟨some 53,none,.h (.load true 3 (.t 2)),false,[]⟩,
 ⟨some 54,none,.h (.load true 3 (.t 3)),false,[]⟩,
 ⟨some 55,none,.h (.call 24 [(.t 53), (.t 54)]),false,[]⟩,
 ⟨some 8,none,.h (.alloc [(.int .u8 0), (.int .i64 0), (.int .i64 0)]),false,[]⟩,
 ⟨none,none,.h (.store 3 (.t 8) (.t 55)),false,[]⟩]) (.seq (.seq (.region [
 ⟨some 56,none,.h (.load true 3 (.t 8)),false,[]⟩,
 ⟨some 57,none,.h (.call 13 [(.t 56)]),false,[]⟩,
 ⟨some 58,none,.p (.bin .eql (.t 57) (.c (.int .i64 0))),false,[]⟩]) (.cond (.t 58) (.seq (.region [
 ⟨some 59,none,.p (.mov (.t 6)),false,[]⟩,
 ⟨some 60,none,.p (.bin .eql (.t 59) (.c (.int .i64 3))),false,[]⟩,
 ⟨some 61,none,.p (.mov (.t 60)),false,[]⟩,
 ⟨some 62,(some (61, true)),.h (.load true 3 (.t 5)),false,[]⟩,
 ⟨some 63,(some (61, true)),.p (.build [(.int .u8 0), (.int .i64 0), (.int .i64 0)] []),false,[]⟩,
 ⟨some 64,(some (61, true)),.p (.eqf false true [1, 1, 1] (.t 62) (.t 63)),false,[]⟩,
 ⟨some 65,none,.p (.pick (.t 61) (.t 64) (.c (.bool false))),false,[]⟩,
 ⟨some 66,none,.p (.mov (.t 65)),false,[]⟩,
 ⟨some 67,(some (66, true)),.h (.call 14 []),false,[]⟩,
 ⟨some 68,none,.p (.pick (.t 66) (.t 67) (.c (.bool false))),false,[]⟩,
 ⟨some 4,none,.p (.mov (.t 68)),false,[]⟩]) .ret) .skip)) (.seq (.region [
 ⟨some 69,none,.p (.mov (.t 6)),false,[]⟩,
 ⟨some 70,none,.p (.bin .eql (.t 69) (.c (.int .i64 0))),false,[]⟩,
 ⟨some 71,none,.p (.mov (.t 70)),false,[]⟩,
 ⟨some 72,(some (71, true)),.h (.load true 3 (.t 5)),true,[]⟩,
 ⟨some 73,(some (71, true)),.h (.load true 3 (.t 8)),true,[]⟩,
 ⟨some 74,(some (71, true)),.p (.eqf false true [1, 1, 1] (.t 72) (.t 73)),false,[]⟩,
 ⟨some 75,none,.p (.pick (.t 71) (.t 74) (.c (.bool false))),false,[]⟩,
 ⟨some 76,none,.p (.mov (.t 75)),false,[]⟩,
 ⟨some 77,(some (76, true)),.h (.load true 3 (.t 5)),true,[]⟩,
 ⟨some 78,(some (76, true)),.h (.call 33 [(.t 77)]),true,[]⟩,
 ⟨some 79,(some (76, true)),.h (.load true 3 (.t 2)),true,[]⟩,
 ⟨some 80,(some (76, true)),.h (.call 33 [(.t 79)]),true,[]⟩,
 ⟨some 81,(some (76, true)),.h (.load true 3 (.t 3)),true,[]⟩,
 ⟨some 82,(some (76, true)),.h (.call 33 [(.t 81)]),false,[]⟩,
 ⟨some 83,(some (76, true)),.p (.eqf true false [0] (.t 80) (.t 82)),false,[]⟩,
 ⟨some 84,(some (76, true)),.p (.eqf false false [0] (.t 78) (.t 83)),false,[]⟩,
 ⟨some 85,none,.p (.pick (.t 76) (.t 84) (.c (.bool false))),false,[]⟩,
 ⟨some 86,none,.p (.mov (.t 85)),false,[]⟩,
 ⟨some 87,(some (86, true)),.h (.load true 3 (.t 2)),true,[]⟩,
 ⟨some 88,(some (86, true)),.h (.call 33 [(.t 87)]),true,[]⟩,
 ⟨some 89,(some (86, true)),.p (.fad 0 (.t 2)),false,[]⟩,
 ⟨some 90,(some (86, true)),.h (.load false 1 (.t 89)),true,[]⟩,
 ⟨some 91,(some (86, true)),.p (.bin .gtr (.t 90) (.c (.int .u8 3))),false,[]⟩,
 ⟨some 92,(some (86, true)),.p (.eqf false false [0] (.t 88) (.t 91)),false,[]⟩,
 ⟨some 93,none,.p (.pick (.t 86) (.t 92) (.c (.bool false))),false,[]⟩,
 ⟨some 94,none,.p (.mov (.t 93)),false,[]⟩,
 ⟨some 95,(some (94, true)),.h (.call 14 []),false,[]⟩,
 ⟨some 96,none,.p (.pick (.t 94) (.t 95) (.c (.bool false))),false,[]⟩,
 ⟨some 4,none,.p (.mov (.t 96)),false,[]⟩]) .ret))))))))⟩
theorem k10_ok : cfn Tryd.prog gl Tryd.f10 = some k10 := by kernel_rfl
def k11 : CFn := ⟨124, [(.t 0)], (.seq (.region [
 ⟨some 0,none,.p (.mov (.c (.bool false))),false,[]⟩]) (.seq (.region [
 ⟨some 1,none,.p (.mov (.c (.int .i64 1))),false,[]⟩]) (.seq (.seq (.region [
 ⟨some 2,none,.p (.mov (.c (.int .i64 0))),false,[]⟩]) (.block 0 (.loop (.seq (.seq (.region [
 ⟨some 9,none,.p (.mov (.t 2)),false,[]⟩,
 ⟨some 10,none,.p (.bin .lss (.t 9) (.c (.int .i64 48))),false,[]⟩]) (.cond (.t 10) .skip (.exit 0))) (.seq (.block 1 (.seq (.region [
 ⟨some 13,none,.p (.mov (.t 2)),false,[]⟩,
 ⟨some 14,none,.p (.cvi .u8 (.t 13)),false,[]⟩,
 ⟨some 15,none,.p (.mov (.t 1)),false,[]⟩,
 ⟨some 16,none,.p (.bin .rem (.t 15) (.c (.int .i64 60))),false,[]⟩,
 ⟨some 17,none,.p (.cvi .i8 (.t 16)),false,[]⟩,
 ⟨some 18,none,.p (.mov (.t 1)),false,[]⟩,
 ⟨some 19,none,.p (.bin .quo (.t 18) (.c (.int .i64 5))),false,[]⟩,
 ⟨some 20,none,.p (.neg (.t 19)),false,[]⟩,
 ⟨some 21,none,.p (.bin .rem (.t 20) (.c (.int .i64 60))),false,[]⟩,
 ⟨some 22,none,.p (.cvi .i8 (.t 21)),false,[]⟩,
 ⟨some 23,none,.p (.build [(.int .u8 0), (.int .i8 0), (.int .i8 0)] [(0, 1, (.t 14)), (1, 1, (.t 17)), (2, 1, (.t 22))]),false,[]⟩,
 ⟨some 3,none,.h (.alloc [(.int .u8 0), (.int .i8 0), (.int .i8 0)]),false,[]⟩,
 ⟨none,none,.h (.store 3 (.t 3) (.t 23)),false,[]⟩]) (.seq (.region [
 ⟨some 24,none,.p (.mov (.t 1)),false,[]⟩,
 ⟨some 25,none,.p (.cvi .u8 (.t 24)),false,[]⟩,
 ⟨some 26,none,.p (.mov (.t 2)),false,[]⟩,
 ⟨some 27,none,.p (.cvi .i8 (.t 26)),false,[]⟩,
 ⟨some 28,none,.p (.mov (.t 1)),false,[]⟩,
 ⟨some 29,none,.p (.bin .rem (.t 28) (.c (.int .i64 31))),false,[]⟩,
 ⟨some 30,none,.p (.cvi .i8 (.t 29)),false,[]⟩,
 ⟨some 31,none,.p (.build [(.int .u8 0), (.int .i8 0), (.int .i8 0)] [(0, 1, (.t 25)), (1, 1, (.t 27)), (2, 1, (.t 30))]),false,[]⟩,
 ⟨some 4,none,.h (.alloc [(.int .u8 0), (.int .i8 0), (.int .i8 0)]),false,[]⟩,
 ⟨none,none,.h (.store 3 (.t 4) (.t 31)),false,[]⟩]) (.seq (.region [
 ⟨some 32,none,.p (.mov (.t 2)),false,[]⟩,
 ⟨some 33,none,.p (.cvi .u8 (.t 32)),false,[]⟩,
 ⟨some 34,none,.p (.mov (.t 1)),false,[]⟩,
 ⟨some 35,none,.p (.bin .rem (.t 34) (.c (.int .i64 40))),false,[]⟩,
 ⟨some 36,none,.p (.cvi .i8 (.t 35)),false,[]⟩,
 ⟨some 37,none,.p (.build [(.int .u8 0), (.int .i8 0)] [(0, 1, (.t 33)), (1, 1, (.t 36))]),false,[]⟩,
 ⟨some 38,none,.h (.call 35 [(.t 37)]),false,[]⟩,
 ⟨some 5,none,.h (.alloc [(.int .u8 0), (.int .i64 0)]),false,[]⟩,
 ⟨none,none,.h (.store 2 (.t 5) (.t 38)),false,[]⟩]) (.seq (.region [
 ⟨some 39,none,.p (.mov (.t 1)),false,[]⟩,
 ⟨some 40,none,.p (.bin .rem (.t 39) (.c (.int .i64 300))),false,[]⟩,
 ⟨some 41,none,.p (.mov (.t 1)),false,[]⟩,
 ⟨some 42,none,.p (.neg (.t 41)),false,[]⟩,
 ⟨some 43,none,.p (.bin .rem (.t 42) (.c (.int .i64 77))),false,[]⟩,
 ⟨some 44,none,.p (.build [(.int .i64 0), (.int .i64 0)] [(0, 1, (.t 40)), (1, 1, (.t 43))]),false,[]⟩,
 ⟨some 6,none,.h (.alloc [(.int .i64 0), (.int .i64 0)]),false,[]⟩,
 ⟨none,none,.h (.store 2 (.t 6) (.t 44)),false,[]⟩]) (.seq (.seq (.region [
 ⟨some 45,none,.h (.load true 2 (.t 5)),true,[]⟩,
 ⟨some 46,none,.p (.mov (.t 2)),false,[]⟩,
 ⟨some 47,none,.p (.cvi .i8 (.t 46)),false,[]⟩,
 ⟨some 48,none,.p (.mov (.t 1)),false,[]⟩,
 ⟨some 49,none,.p (.bin .rem (.t 48) (.c (.int .i64 90))),false,[]⟩,
 ⟨some 50,none,.p (.cvi .i8 (.t 49)),false,[]⟩,
 ⟨some 51,none,.h (.call 9 [(.t 45), (.t 47), (.t 50)]),false,[]⟩,
 ⟨some 52,none,.p (.not (.t 51)),false,[]⟩,
 ⟨some 53,none,.p (.mov (.t 52)),false,[]⟩,
 ⟨some 54,(some (53, false)),.h (.load true 3 (.t 3)),true,[]⟩,
 ⟨some 55,(some (53, false)),.h (.call 27 [(.t 54)]),true,[]⟩,
 ⟨some 56,(some (53, false)),.h (.load true 3 (.t 4)),true,[]⟩,
 ⟨some 57,(some (53, false)),.h (.call 27 [(.t 56)]),false,[]⟩,
 ⟨some 58,(some (53, false)),.h (.call 10 [(.t 55), (.t 57)]),false,[]⟩,
 ⟨some 59,(some (53, false)),.p (.not (.t 58)),false,[]⟩,
 ⟨some 60,none,.p (.pick (.t 53) (.c (.bool true)) (.t 59)),false,[]⟩,
 ⟨some 61,none,.p (.mov (.t 60)),false,[]⟩,
 ⟨some 62,(some (61, false)),.h (.load true 3 (.t 3)),true,[]⟩,
 ⟨some 63,(some (61, false)),.h (.call 27 [(.t 62)]),false,[]⟩,
 ⟨some 64,(some (61, false)),.h (.call 3 [(.t 63)]),false,[]⟩,
 ⟨some 65,(some (61, false)),.p (.not (.t 64)),false,[]⟩,
 ⟨some 66,none,.p (.pick (.t 61) (.c (.bool true)) (.t 65)),false,[]⟩,
 ⟨some 67,none,.p (.mov (.t 66)),false,[]⟩,
 ⟨some 68,(some (67, false)),.h (.load true 3 (.t 4)),true,[]⟩,
 ⟨some 69,(some (67, false)),.h (.call 27 [(.t 68)]),true,[]⟩,
 ⟨some 70,(some (67, false)),.h (.load true 2 (.t 6)),true,[]⟩,
 ⟨some 71,(some (67, false)),.h (.call 4 [(.t 69), (.t 70)]),false,[]⟩,
 ⟨some 72,(some (67, false)),.p (.not (.t 71)),false,[]⟩,
 ⟨some 73,none,.p (.pick (.t 67) (.c (.bool true)) (.t 72)),false,[]⟩,
 ⟨some 74,none,.p (.mov (.t 73)),false,[]⟩,
 ⟨some 75,(some (74, false)),.h (.load true 3 (.t 3)),true,[]⟩,
 ⟨some 76,(some (74, false)),.h (.call 27 [(.t 75)]),true,[]⟩,
 ⟨some 77,(some (74, false)),.h (.load true 2 (.t 5)),true,[]⟩,
 ⟨some 78,(some (74, false)),.h (.call 5 [(.t 76), (.t 77)]),false,[]⟩,
 ⟨some 79,(some (74, false)),.p (.not (.t 78)),false,[]⟩,
 ⟨some 80,none,.p (.pick (.t 74) (.c (.bool true)) (.t 79)),false,[]⟩,
 ⟨some 81,none,.p (.mov (.t 80)),false,[]⟩,
 ⟨some 82,(some (81, false)),.h (.load true 3 (.t 3)),true,[]⟩,
 ⟨some 83,(some (81, false)),.h (.load true 3 (.t 4)),true,[]⟩,
 ⟨some 84,(some (81, false)),.h (.load true 3 (.t 3)),true,[]⟩,
 ⟨some 85,(some (81, false)),.p (.build [(.int .u8 0), (.int .i8 0), (.int .i8 0), (.int .u8 0), (.int .i8 0), (.int .i8 0), (.int .u8 0), (.int .i8 0), (.int .i8 0)] [(0, 3, (.t 82)), (3, 3, (.t 83)), (6, 3, (.t 84))]),false,[]⟩,
 ⟨some 86,(some (81, false)),.p (.mov (.t 2)),false,[]⟩,
 ⟨some 87,(some (81, false)),.p (.cvi .i8 (.t 86)),false,[]⟩,
 ⟨some 88,(some (81, false)),.p (.build [(.int .i8 0), (.int .i8 0)] [(0, 1, (.t 87)), (1, 1, (.c (.int .i8 3)))]),false,[]⟩,
 ⟨some 89,(some (81, false)),.h (.call 6 [(.t 85), (.t 88)]),false,[]⟩,
 ⟨some 90,(some (81, false)),.p (.not (.t 89)),false,[]⟩,
 ⟨some 91,none,.p (.pick (.t 81) (.c (.bool true)) (.t 90)),false,[]⟩,
 ⟨some 92,none,.p (.mov (.t 91)),false,[]⟩,
 ⟨some 93,(some (92, false)),.h (.load true 3 (.t 3)),true,[]⟩,
 ⟨some 94,(some (92, false)),.h (.call 7 [(.t 93)]),false,[]⟩,
 ⟨some 95,(some (92, false)),.p (.not (.t 94)),false,[]⟩,
 ⟨some 96,none,.p (.pick (.t 92) (.c (.bool true)) (.t 95)),false,[]⟩]) (.cond (.t 96) (.seq (.region [
 ⟨some 0,none,.p (.mov (.c (.bool false))),false,[]⟩]) .ret) .skip)) (.region [
 ⟨some 97,none,.p (.mov (.t 1)),false,[]⟩,
 ⟨some 98,none,.p (.bin .mul (.t 97) (.c (.int .i64 31))),false,[]⟩,
 ⟨some 99,none,.p (.mov (.t 2)),false,[]⟩,
 ⟨some 100,none,.p (.bin .mul (.c (.int .i64 7)) (.t 99)),false,[]⟩,
 ⟨some 101,none,.p (.bin .add (.t 98) (.t 100)),false,[]⟩,
 ⟨some 102,none,.p (.bin .add (.t 101) (.c (.int .i64 11))),false,[]⟩,
 ⟨some 103,none,.p (.bin .rem (.t 102) (.c (.int .i64 100003))),false,[]⟩,
 ⟨some 1,none,.p (.mov (.t 103)),false,[]⟩]))))))) (.region [
 ⟨some 11,none,.p (.mov (.t 2)),false,[]⟩,
 ⟨some 12,none,.p (.bin .add (.t 11) (.c (.int .i64 1))),false,[]⟩,
 ⟨some 2,none,.p (.mov (.t 12)),false,[]⟩])))))) (.seq (.region [
 ⟨some 104,none,.h (.bsl 1 14 [(.str []), (.str []), (.str []), (.str []), (.str []), (.str []), (.str []), (.str []), (.str []), (.str []), (.str []), (.str []), (.str []), (.str [])] [(0, 1, (.c (.str [48, 32, 48, 32, 48]))), (1, 1, (.c (.str [55, 32, 45, 51, 32, 51]))), (2, 1, (.c (.str [56, 32, 48, 32, 48]))), (3, 1, (.c (.str [48, 32, 49, 32, 48]))), (4, 1, (.c (.str [49, 32, 50, 32, 52, 32]))), (5, 1, (.c (.str [49, 32, 32, 50, 32, 52]))), (6, 1, (.c (.str [48, 49, 32, 50, 32, 52]))), (7, 1, (.c (.str [49, 32, 50]))), (8, 1, (.c (.str [49, 32, 43, 50, 32, 52]))), (9, 1, (.c (.str [49, 32, 45, 48, 32, 48]))), (10, 1, (.c (.str []))), (11, 1, (.c (.str [48, 32, 49, 54, 51, 56, 52, 32, 49, 54, 51, 56, 52]))), (12, 1, (.c (.str [48, 32, 49, 54, 51, 56, 54, 32, 48]))), (13, 1, (.c (.str [50, 53, 54, 32, 48, 32, 48])))]),false,[]⟩,
 ⟨some 7,none,.p (.mov (.t 104)),false,[]⟩]) (.seq (.seq (.region [
 ⟨some 8,none,.p (.mov (.c (.int .i64 0))),false,[]⟩]) (.block 2 (.loop (.seq (.seq (.region [
 ⟨some 105,none,.p (.mov (.t 8)),false,[]⟩,
 ⟨some 106,none,.p (.mov (.t 7)),false,[]⟩,
 ⟨some 107,none,.p (.len (.t 106)),false,[]⟩,
 ⟨some 108,none,.p (.bin .lss (.t 105) (.t 107)),false,[]⟩]) (.cond (.t 108) .skip (.exit 2))) (.seq (.block 3 (.seq (.region [
 ⟨some 111,none,.p (.mov (.t 8)),false,[]⟩,
 ⟨some 112,none,.p (.cvi .u8 (.t 111)),false,[]⟩,
 ⟨some 113,none,.p (.mov (.t 8)),false,[]⟩,
 ⟨some 114,none,.p (.bin .sub (.c (.int .i64 16390)) (.t 113)),false,[]⟩,
 ⟨some 115,none,.p (.mov (.t 8)),false,[]⟩,
 ⟨some 116,none,.h (.call 36 [(.t 112), (.t 114), (.t 115)]),true,[]⟩,
 ⟨some 117,none,.p (.mov (.t 7)),false,[]⟩,
 ⟨some 118,none,.p (.mov (.t 8)),false,[]⟩,
 ⟨some 119,none,.p (.iadS 1 (.t 117) (.t 118)),false,[]⟩,
 ⟨some 120,none,.h (.load false 1 (.t 119)),true,[]⟩,
 ⟨some 121,none,.h (.call 8 [(.t 116), (.t 120)]),false,[]⟩,
 ⟨some 122,none,.p (.not (.t 121)),false,[]⟩]) (.cond (.t 122) (.seq (.region [
 ⟨some 0,none,.p (.mov (.c (.bool false))),false,[]⟩]) .ret) .skip))) (.region [
 ⟨some 109,none,.p (.mov (.t 8)),false,[]⟩,
 ⟨some 110,none,.p (.bin .add (.t 109) (.c (.int .i64 1))),false,[]⟩,
 ⟨some 8,none,.p (.mov (.t 110)),false,[]⟩])))))) (.seq (.region [
 ⟨some 123,none,.h (.call 14 []),false,[]⟩,
 ⟨some 0,none,.p (.mov (.t 123)),false,[]⟩]) .ret))))))⟩
theorem k11_ok : cfn Tryd.prog gl Tryd.f11 = some k11 := by kernel_rfl
def k12 : CFn := ⟨44, [(.cell 2 true 3), (.t 3)], (.seq (.region [
 ⟨some 1,none,.h (.box (.t 0)),false,[]⟩,
 ⟨some 2,none,.h (.alloc [(.int .u8 0), (.int .i64 0), (.int .i64 0)]),false,[]⟩,
 ⟨some 3,none,.p (.mov (.c (.int .i64 0))),false,[]⟩]) (.seq (.seq (.region [
 ⟨some 8,none,.h (.load true 3 (.t 1)),false,[]⟩,
 ⟨some 9,none,.h (.call 34 [(.t 8)]),false,[]⟩,
 ⟨some 10,none,.p (.bin .neq (.t 9) (.c (.int .i64 0))),false,[]⟩]) (.cond (.t 10) (.seq (.region [
 ⟨some 11,none,.p (.build [(.int .u8 0), (.int .i64 0), (.int .i64 0)] []),false,[]⟩,
 ⟨none,none,.h (.store 3 (.t 2) (.t 11)),false,[]⟩,
 ⟨some 3,none,.p (.mov (.c (.int .i64 1))),false,[]⟩]) .ret) .skip)) (.seq (.region [
 ⟨some 12,none,.p (.fad 0 (.t 1)),false,[]⟩,
 ⟨some 13,none,.h (.load false 1 (.t 12)),false,[]⟩,
 ⟨some 14,none,.p (.iadA 8 4 (.c (.ptr 0 0)) (.t 13)),false,[]⟩,
 ⟨some 15,none,.h (.load true 4 (.t 14)),false,[]⟩,
 ⟨some 4,none,.h (.alloc [(.int .i64 0), (.int .i64 0), (.int .i64 0), (.int .i64 0)]),false,[]⟩,
 ⟨none,none,.h (.store 4 (.t 4) (.t 15)),false,[]⟩]) (.seq (.region [
 ⟨some 16,none,.p (.fad 0 (.t 4)),false,[]⟩,
 ⟨some 17,none,.h (.load false 1 (.t 16)),false,[]⟩,
 ⟨some 18,none,.p (.fad 2 (.t 4)),false,[]⟩,
 ⟨some 19,none,.h (.load false 1 (.t 18)),false,[]⟩,
 ⟨some 20,none,.p (.fad 1 (.t 4)),false,[]⟩,
 ⟨some 21,none,.h (.load false 1 (.t 20)),false,[]⟩,
 ⟨some 22,none,.p (.fad 3 (.t 4)),false,[]⟩,
 ⟨some 23,none,.h (.load false 1 (.t 22)),false,[]⟩,
 ⟨some 24,none,.p (.build [(.int .i64 0), (.int .i64 0), (.int .i64 0), (.int .i64 0)] [(0, 1, (.t 17)), (1, 1, (.t 19)), (2, 1, (.t 21)), (3, 1, (.t 23))]),false,[]⟩,
 ⟨some 5,none,.h (.alloc [(.int .i64 0), (.int .i64 0), (.int .i64 0), (.int .i64 0)]),false,[]⟩,
 ⟨none,none,.h (.store 4 (.t 5) (.t 24)),false,[]⟩]) (.seq (.region [
 ⟨some 26,none,.h (.load true 4 (.t 5)),false,[]⟩,
 ⟨some 27,none,.p (.fad 1 (.t 1)),false,[]⟩,
 ⟨some 28,none,.h (.load false 1 (.t 27)),false,[]⟩,
 ⟨some 29,none,.p (.neg (.t 28)),false,[]⟩,
 ⟨some 30,none,.p (.fad 2 (.t 1)),false,[]⟩,
 ⟨some 31,none,.h (.load false 1 (.t 30)),false,[]⟩,
 ⟨some 32,none,.p (.neg (.t 31)),false,[]⟩,
 ⟨some 33,none,.h (.call 37 [(.t 26), (.t 29), (.t 32)]),false,[]⟩,
 ⟨some 25,none,.p (.mov (.t 33)),false,[]⟩,
 ⟨some 34,none,.p (.ext 0 (.t 25)),false,[]⟩,
 ⟨some 35,none,.p (.ext 1 (.t 25)),false,[]⟩,
 ⟨some 6,none,.p (.mov (.t 34)),false,[]⟩,
 ⟨some 7,none,.p (.mov (.t 35)),false,[]⟩]) (.seq (.region [
 ⟨some 36,none,.h (.load true 4 (.t 5)),false,[]⟩,
 ⟨some 37,none,.h (.call 39 [(.t 36)]),false,[]⟩,
 ⟨some 38,none,.p (.mov (.t 6)),false,[]⟩,
 ⟨some 39,none,.p (.mov (.t 7)),false,[]⟩,
 ⟨some 40,none,.p (.build [(.int .u8 0), (.int .i64 0), (.int .i64 0)] [(0, 1, (.t 37)), (1, 1, (.t 38)), (2, 1, (.t 39))]),false,[]⟩,
 ⟨some 41,none,.h (.call 38 [(.t 40)]),false,[]⟩,
 ⟨some 42,none,.p (.ext 0 (.t 41)),false,[]⟩,
 ⟨some 43,none,.p (.ext 1 (.t 41)),false,[]⟩,
 ⟨none,none,.h (.store 3 (.t 2) (.t 42)),false,[]⟩,
 ⟨some 3,none,.p (.mov (.t 43)),false,[]⟩]) .ret))))))⟩
theorem k12_ok : cfn Tryd.prog gl Tryd.f12 = some k12 := by kernel_rfl
def k13 : CFn := ⟨35, [(.t 2)], (.seq (.region [
 ⟨some 1,none,.h (.box (.t 0)),false,[]⟩,
 ⟨some 2,none,.p (.mov (.c (.int .i64 0))),false,[]⟩]) (.seq (.seq (.region [
 ⟨some 3,none,.p (.fad 0 (.t 1)),false,[]⟩,
 ⟨some 4,none,.h (.load false 1 (.t 3)),false,[]⟩,
 ⟨some 5,none,.p (.bin .gtr (.t 4) (.c (.int .u8 7))),false,[]⟩,
 ⟨some 6,none,.p (.mov (.t 5)),false,[]⟩,
 ⟨some 7,(some (6, false)),.p (.fad 1 (.t 1)),false,[]⟩,
 ⟨some 8,(some (6, false)),.h (.load false 1 (.t 7)),false,[]⟩,
 ⟨some 9,(some (6, false)),.p (.bin .lss (.t 8) (.c (.int .i64 (-16384)))),false,[]⟩,
 ⟨some 10,none,.p (.pick (.t 6) (.c (.bool true)) (.t 9)),false,[]⟩,
 ⟨some 11,none,.p (.mov (.t 10)),false,[]⟩,
 ⟨some 12,(some (11, false)),.p (.fad 1 (.t 1)),false,[]⟩,
 ⟨some 13,(some (11, false)),.h (.load false 1 (.t 12)),false,[]⟩,
 ⟨some 14,(some (11, false)),.p (.bin .gtr (.t 13) (.c (.int .i64 16384))),false,[]⟩,
 ⟨some 15,none,.p (.pick (.t 11) (.c (.bool true)) (.t 14)),false,[]⟩,
 ⟨some 16,none,.p (.mov (.t 15)),false,[]⟩,
 ⟨some 17,(some (16, false)),.p (.fad 2 (.t 1)),false,[]⟩,
 ⟨some 18,(some (16, false)),.h (.load false 1 (.t 17)),false,[]⟩,
 ⟨some 19,(some (16, false)),.p (.bin .lss (.t 18) (.c (.int .i64 (-16384)))),false,[]⟩,
 ⟨some 20,none,.p (.pick (.t 16) (.c (.bool true)) (.t 19)),false,[]⟩,
 ⟨some 21,none,.p (.mov (.t 20)),false,[]⟩,
 ⟨some 22,(some (21, false)),.p (.fad 2 (.t 1)),false,[]⟩,
 ⟨some 23,(some (21, false)),.h (.load false 1 (.t 22)),false,[]⟩,
 ⟨some 24,(some (21, false)),.p (.bin .gtr (.t 23) (.c (.int .i64 16384))),false,[]⟩,
 ⟨some 25,none,.p (.pick (.t 21) (.c (.bool true)) (.t 24)),false,[]⟩,
 ⟨some 26,none,.p (.mov (.t 25)),false,[]⟩,
 ⟨some 27,(some (26, false)),.p (.fad 1 (.t 1)),false,[]⟩,
 ⟨some 28,(some (26, false)),.h (.load false 1 (.t 27)),false,[]⟩,
 ⟨some 29,(some (26, false)),.p (.fad 2 (.t 1)),false,[]⟩,
 ⟨some 30,(some (26, false)),.h (.load false 1 (.t 29)),false,[]⟩,
 ⟨some 31,(some (26, false)),.p (.bin .sub (.t 28) (.t 30)),false,[]⟩,
 ⟨some 32,(some (26, false)),.p (.bin .rem (.t 31) (.c (.int .i64 2))),false,[]⟩,
 ⟨some 33,(some (26, false)),.p (.bin .neq (.t 32) (.c (.int .i64 0))),false,[]⟩,
 ⟨some 34,none,.p (.pick (.t 26) (.c (.bool true)) (.t 33)),false,[]⟩]) (.cond (.t 34) (.seq (.region [
 ⟨some 2,none,.p (.mov (.c (.int .i64 0))),false,[]⟩]) .ret) .skip)) (.seq (.region [
 ⟨some 2,none,.p (.mov (.c (.int .i64 1))),false,[]⟩]) .ret)))⟩
theorem k13_ok : cfn Tryd.prog gl Tryd.f13 = some k13 := by kernel_rfl
def k14 : CFn := ⟨151, [(.t 0)], (.seq (.region [
 ⟨some 0,none,.p (.mov (.c (.bool false))),false,[]⟩]) (.seq (.seq (.region [
 ⟨some 19,none,.h (.call 40 [(.c (.int .u8 1)), (.c (.int .i64 3))]),false,[]⟩,
 ⟨some 20,none,.h (.call 36 [(.c (.int .u8 4)), (.c (.int .i64 6)), (.c (.int .i64 0))]),false,[]⟩,
 ⟨some 21,none,.p (.eqf true true [1, 1, 1] (.t 19) (.t 20)),false,[]⟩,
 ⟨some 22,none,.p (.mov (.t 21)),false,[]⟩,
 ⟨some 23,(some (22, false)),.h (.call 40 [(.c (.int .u8 2)), (.c (.int .i64 3))]),false,[]⟩,
 ⟨some 24,(some (22, false)),.h (.call 36 [(.c (.int .u8 6)), (.c (.int .i64 0)), (.c (.int .i64 6))]),false,[]⟩,
 ⟨some 25,(some (22, false)),.p (.eqf true true [1, 1, 1] (.t 23) (.t 24)),false,[]⟩,
 ⟨some 26,none,.p (.pick (.t 22) (.c (.bool true)) (.t 25)),false,[]⟩,
 ⟨some 27,none,.p (.mov (.t 26)),false,[]⟩,
 ⟨some 28,(some (27, false)),.h (.call 40 [(.c (.int .u8 3)), (.c (.int .i64 3))]),false,[]⟩,
 ⟨some 29,(some (27, false)),.h (.call 36 [(.c (.int .u8 5)), (.c (.int .i64 3)), (.c (.int .i64 3))]),false,[]⟩,
 ⟨some 30,(some (27, false)),.p (.eqf true true [1, 1, 1] (.t 28) (.t 29)),false,[]⟩,
 ⟨some 31,none,.p (.pick (.t 27) (.c (.bool true)) (.t 30)),false,[]⟩,
 ⟨some 32,none,.p (.mov (.t 31)),false,[]⟩,
 ⟨some 33,(some (32, false)),.h (.call 40 [(.c (.int .u8 4)), (.c (.int .i64 3))]),false,[]⟩,
 ⟨some 34,(some (32, false)),.h (.call 36 [(.c (.int .u8 7)), (.c (.int .i64 (-3))), (.c (.int .i64 3))]),false,[]⟩,
 ⟨some 35,(some (32, false)),.p (.eqf true true [1, 1, 1] (.t 33) (.t 34)),false,[]⟩,
 ⟨some 36,none,.p (.pick (.t 32) (.c (.bool true)) (.t 35)),false,[]⟩]) (.cond (.t 36) (.seq (.region [
 ⟨some 0,none,.p (.mov (.c (.bool false))),false,[]⟩]) .ret) .skip)) (.seq (.region [
 ⟨some 38,none,.h (.call 40 [(.c (.int .u8 1)), (.c (.int .i64 0))]),false,[]⟩,
 ⟨some 39,none,.h (.call 40 [(.c (.int .u8 1)), (.c (.int .i64 2))]),false,[]⟩,
 ⟨some 40,none,.h (.call 15 [(.t 38), (.t 39)]),false,[]⟩,
 ⟨some 37,none,.p (.mov (.t 40)),false,[]⟩,
 ⟨some 41,none,.p (.ext 0 (.t 37)),false,[]⟩,
 ⟨some 42,none,.p (.ext 1 (.t 37)),false,[]⟩,
 ⟨some 1,none,.h (.alloc [(.int .u8 0), (.int .i64 0), (.int .i64 0)]),false,[]⟩,
 ⟨none,none,.h (.store 3 (.t 1) (.t 41)),false,[]⟩,
 ⟨some 2,none,.p (.mov (.t 42)),false,[]⟩]) (.seq (.region [
 ⟨some 44,none,.h (.call 40 [(.c (.int .u8 1)), (.c (.int .i64 0))]),false,[]⟩,
 ⟨some 45,none,.h (.call 40 [(.c (.int .u8 2)), (.c (.int .i64 0))]),false,[]⟩,
 ⟨some 46,none,.h (.call 15 [(.t 44), (.t 45)]),false,[]⟩,
 ⟨some 43,none,.p (.mov (.t 46)),false,[]⟩,
 ⟨some 47,none,.p (.ext 0 (.t 43)),false,[]⟩,
 ⟨some 48,none,.p (.ext 1 (.t 43)),false,[]⟩,
 ⟨some 3,none,.h (.alloc [(.int .u8 0), (.int .i64 0), (.int .i64 0)]),false,[]⟩,
 ⟨none,none,.h (.store 3 (.t 3) (.t 47)),false,[]⟩,
 ⟨some 4,none,.p (.mov (.t 48)),false,[]⟩]) (.seq (.region [
 ⟨some 50,none,.h (.call 40 [(.c (.int .u8 1)), (.c (.int .i64 0))]),false,[]⟩,
 ⟨some 51,none,.h (.call 40 [(.c (.int .u8 3)), (.c (.int .i64 0))]),false,[]⟩,
 ⟨some 52,none,.h (.call 15 [(.t 50), (.t 51)]),false,[]⟩,
 ⟨some 49,none,.p (.mov (.t 52)),false,[]⟩,
 ⟨some 53,none,.p (.ext 0 (.t 49)),false,[]⟩,
 ⟨some 54,none,.p (.ext 1 (.t 49)),false,[]⟩,
 ⟨some 5,none,.h (.alloc [(.int .u8 0), (.int .i64 0), (.int .i64 0)]),false,[]⟩,
 ⟨none,none,.h (.store 3 (.t 5) (.t 53)),false,[]⟩,
 ⟨some 6,none,.p (.mov (.t 54)),false,[]⟩]) (.seq (.region [
 ⟨some 56,none,.h (.call 36 [(.c (.int .u8 1)), (.c (.int .i64 2)), (.c (.int .i64 4))]),false,[]⟩,
 ⟨some 57,none,.h (.call 12 [(.t 56)]),false,[]⟩,
 ⟨some 55,none,.p (.mov (.t 57)),false,[]⟩,
 ⟨some 58,none,.p (.ext 0 (.t 55)),false,[]⟩,
 ⟨some 59,none,.p (.ext 1 (.t 55)),false,[]⟩,
 ⟨some 7,none,.h (.alloc [(.int .u8 0), (.int .i64 0), (.int .i64 0)]),false,[]⟩,
 ⟨none,none,.h (.store 3 (.t 7) (.t 58)),false,[]⟩,
 ⟨some 8,none,.p (.mov (.t 59)),false,[]⟩]) (.seq (.region [
 ⟨some 61,none,.h (.call 36 [(.c (.int .u8 1)), (.c (.int .i64 2)), (.c (.int .i64 4))]),false,[]⟩,
 ⟨some 62,none,.p (.build [(.int .i64 0), (.int .i64 0)] [(0, 1, (.c (.int .i64 3))), (1, 1, (.c (.int .i64 1)))]),false,[]⟩,
 ⟨some 63,none,.h (.call 18 [(.t 61), (.t 62)]),false,[]⟩,
 ⟨some 60,none,.p (.mov (.t 63)),false,[]⟩,
 ⟨some 64,none,.p (.ext 0 (.t 60)),false,[]⟩,
 ⟨some 65,none,.p (.ext 1 (.t 60)),false,[]⟩,
 ⟨some 9,none,.h (.alloc [(.int .i64 0), (.int .i64 0)]),false,[]⟩,
 ⟨none,none,.h (.store 2 (.t 9) (.t 64)),false,[]⟩,
 ⟨some 10,none,.p (.mov (.t 65)),false,[]⟩]) (.seq (.region [
 ⟨some 67,none,.h (.call 36 [(.c (.int .u8 1)), (.c (.int .i64 2)), (.c (.int .i64 4))]),false,[]⟩,
 ⟨some 68,none,.p (.build [(.int .u8 0), (.int .i64 0)] [(0, 1, (.c (.int .u8 1))), (1, 1, (.c (.int .i64 1)))]),false,[]⟩,
 ⟨some 69,none,.h (.call 21 [(.t 67), (.t 68)]),false,[]⟩,
 ⟨some 66,none,.p (.mov (.t 69)),false,[]⟩,
 ⟨some 70,none,.p (.ext 0 (.t 66)),false,[]⟩,
 ⟨some 71,none,.p (.ext 1 (.t 66)),false,[]⟩,
 ⟨some 11,none,.h (.alloc [(.int .u8 0), (.int .i64 0)]),false,[]⟩,
 ⟨none,none,.h (.store 2 (.t 11) (.t 70)),false,[]⟩,
 ⟨some 12,none,.p (.mov (.t 71)),false,[]⟩]) (.seq (.region [
 ⟨some 73,none,.h (.call 36 [(.c (.int .u8 1)), (.c (.int .i64 2)), (.c (.int .i64 4))]),false,[]⟩,
 ⟨some 74,none,.p (.build [(.int .u8 0), (.int .i64 0)] [(0, 1, (.c (.int .u8 3))), (1, 1, (.c (.int .i64 1)))]),false,[]⟩,
 ⟨some 75,none,.h (.call 21 [(.t 73), (.t 74)]),false,[]⟩,
 ⟨some 72,none,.p (.mov (.t 75)),false,[]⟩,
 ⟨some 76,none,.p (.ext 0 (.t 72)),false,[]⟩,
 ⟨some 77,none,.p (.ext 1 (.t 72)),false,[]⟩,
 ⟨some 13,none,.h (.alloc [(.int .u8 0), (.int .i64 0)]),false,[]⟩,
 ⟨none,none,.h (.store 2 (.t 13) (.t 76)),false,[]⟩,
 ⟨some 14,none,.p (.mov (.t 77)),false,[]⟩]) (.seq (.region [
 ⟨some 79,none,.h (.call 30 [(.c (.str [48, 32, 49, 32, 48]))]),false,[]⟩,
 ⟨some 78,none,.p (.mov (.t 79)),false,[]⟩,
 ⟨some 80,none,.p (.ext 0 (.t 78)),false,[]⟩,
 ⟨some 81,none,.p (.ext 1 (.t 78)),false,[]⟩,
 ⟨some 15,none,.h (.alloc [(.int .u8 0), (.int .i64 0), (.int .i64 0)]),false,[]⟩,
 ⟨none,none,.h (.store 3 (.t 15) (.t 80)),false,[]⟩,
 ⟨some 16,none,.p (.mov (.t 81)),false,[]⟩]) (.seq (.region [
 ⟨some 83,none,.h (.call 36 [(.c (.int .u8 0)), (.c (.int .i64 16384)), (.c (.int .i64 0))]),false,[]⟩,
 ⟨some 84,none,.h (.call 36 [(.c (.int .u8 0)), (.c (.int .i64 2)), (.c (.int .i64 0))]),false,[]⟩,
 ⟨some 85,none,.h (.call 15 [(.t 83), (.t 84)]),false,[]⟩,
 ⟨some 82,none,.p (.mov (.t 85)),false,[]⟩,
 ⟨some 86,none,.p (.ext 0 (.t 82)),false,[]⟩,
 ⟨some 87,none,.p (.ext 1 (.t 82)),false,[]⟩,
 ⟨some 17,none,.h (.alloc [(.int .u8 0), (.int .i64 0), (.int .i64 0)]),false,[]⟩,
 ⟨none,none,.h (.store 3 (.t 17) (.t 86)),false,[]⟩,
 ⟨some 18,none,.p (.mov (.t 87)),false,[]⟩]) (.seq (.region [
 ⟨some 88,none,.h (.load true 3 (.t 1)),true,[]⟩,
 ⟨some 89,none,.h (.call 36 [(.c (.int .u8 0)), (.c (.int .i64 4)), (.c (.int .i64 0))]),true,[]⟩,
 ⟨some 90,none,.p (.eqf false true [1, 1, 1] (.t 88) (.t 89)),false,[]⟩,
 ⟨some 91,none,.p (.mov (.t 90)),false,[]⟩,
 ⟨some 92,(some (91, true)),.h (.load true 3 (.t 3)),true,[]⟩,
 ⟨some 93,(some (91, true)),.h (.call 36 [(.c (.int .u8 2)), (.c (.int .i64 0)), (.c (.int .i64 0))]),true,[]⟩,
 ⟨some 94,(some (91, true)),.p (.eqf false true [1, 1, 1] (.t 92) (.t 93)),false,[]⟩,
 ⟨some 95,none,.p (.pick (.t 91) (.t 94) (.c (.bool false))),false,[]⟩,
 ⟨some 96,none,.p (.mov (.t 95)),false,[]⟩,
 ⟨some 97,(some (96, true)),.h (.load true 3 (.t 5)),true,[]⟩,
 ⟨some 98,(some (96, true)),.h (.call 36 [(.c (.int .u8 1)), (.c (.int .i64 0)), (.c (.int .i64 0))]),true,[]⟩,
 ⟨some 99,(some (96, true)),.p (.eqf false true [1, 1, 1] (.t 97) (.t 98)),false,[]⟩,
 ⟨some 100,none,.p (.pick (.t 96) (.t 99) (.c (.bool false))),false,[]⟩,
 ⟨some 101,none,.p (.mov (.t 100)),false,[]⟩,
 ⟨some 102,(some (101, true)),.h (.load true 3 (.t 7)),true,[]⟩,
 ⟨some 103,(some (101, true)),.h (.call 36 [(.c (.int .u8 3)), (.c (.int .i64 (-4))), (.c (.int .i64 2))]),true,[]⟩,
 ⟨some 104,(some (101, true)),.p (.eqf false true [1, 1, 1] (.t 102) (.t 103)),false,[]⟩,
 ⟨some 105,none,.p (.pick (.t 101) (.t 104) (.c (.bool false))),false,[]⟩,
 ⟨some 106,none,.p (.mov (.t 105)),false,[]⟩,
 ⟨some 107,(some (106, true)),.h (.load true 2 (.t 9)),true,[]⟩,
 ⟨some 108,(some (106, true)),.p (.build [(.int .i64 0), (.int .i64 0)] [(0, 1, (.c (.int .i64 3))), (1, 1, (.c (.int .i64 11)))]),false,[]⟩,
 ⟨some 109,(some (106, true)),.p (.eqf false true [1, 1] (.t 107) (.t 108)),false,[]⟩,
 ⟨some 110,none,.p (.pick (.t 106) (.t 109) (.c (.bool false))),false,[]⟩,
 ⟨some 111,none,.p (.mov (.t 110)),false,[]⟩,
 ⟨some 112,(some (111, true)),.p (.mov (.t 10)),false,[]⟩,
 ⟨some 113,(some (111, true)),.p (.bin .eql (.t 112) (.c (.int .i64 0))),false,[]⟩,
 ⟨some 114,none,.p (.pick (.t 111) (.t 113) (.c (.bool false))),false,[]⟩,
 ⟨some 115,none,.p (.mov (.t 114)),false,[]⟩,
 ⟨some 116,(some (115, true)),.h (.load true 2 (.t 11)),true,[]⟩,
 ⟨some 117,(some (115, true)),.p (.build [(.int .u8 0), (.int .i64 0)] [(0, 1, (.c (.int .u8 2))), (1, 1, (.c (.int .i64 5)))]),false,[]⟩,
 ⟨some 118,(some (115, true)),.p (.eqf false true [1, 1] (.t 116) (.t 117)),false,[]⟩,
 ⟨some 119,none,.p (.pick (.t 115) (.t 118) (.c (.bool false))),false,[]⟩,
 ⟨some 120,none,.p (.mov (.t 119)),false,[]⟩,
 ⟨some 121,(some (120, true)),.p (.mov (.t 12)),false,[]⟩,
 ⟨some 122,(some (120, true)),.p (.bin .eql (.t 121) (.c (.int .i64 0))),false,[]⟩,
 ⟨some 123,none,.p (.pick (.t 120) (.t 122) (.c (.bool false))),false,[]⟩,
 ⟨some 124,none,.p (.mov (.t 123)),false,[]⟩,
 ⟨some 125,(some (124, true)),.h (.load true 2 (.t 13)),true,[]⟩,
 ⟨some 126,(some (124, true)),.p (.build [(.int .u8 0), (.int .i64 0)] [(0, 1, (.c (.int .u8 4))), (1, 1, (.c (.int .i64 3)))]),false,[]⟩,
 ⟨some 127,(some (124, true)),.p (.eqf false true [1, 1] (.t 125) (.t 126)),false,[]⟩,
 ⟨some 128,none,.p (.pick (.t 124) (.t 127) (.c (.bool false))),false,[]⟩,
 ⟨some 129,none,.p (.mov (.t 128)),false,[]⟩,
 ⟨some 130,(some (129, true)),.p (.mov (.t 14)),false,[]⟩,
 ⟨some 131,(some (129, true)),.p (.bin .eql (.t 130) (.c (.int .i64 0))),false,[]⟩,
 ⟨some 132,none,.p (.pick (.t 129) (.t 131) (.c (.bool false))),false,[]⟩,
 ⟨some 133,none,.p (.mov (.t 132)),false,[]⟩,
 ⟨some 134,(some (133, true)),.h (.call 36 [(.c (.int .u8 0)), (.c (.int .i64 1)), (.c (.int .i64 0))]),false,[]⟩,
 ⟨some 135,(some (133, true)),.h (.call 34 [(.t 134)]),false,[]⟩,
 ⟨some 136,(some (133, true)),.p (.bin .eql (.t 135) (.c (.int .i64 1))),false,[]⟩,
 ⟨some 137,none,.p (.pick (.t 133) (.t 136) (.c (.bool false))),false,[]⟩,
 ⟨some 138,none,.p (.mov (.t 137)),false,[]⟩,
 ⟨some 139,(some (138, true)),.p (.mov (.t 16)),false,[]⟩,
 ⟨some 140,(some (138, true)),.p (.bin .eql (.t 139) (.c (.int .i64 4))),false,[]⟩,
 ⟨some 141,none,.p (.pick (.t 138) (.t 140) (.c (.bool false))),false,[]⟩,
 ⟨some 142,none,.p (.mov (.t 141)),false,[]⟩,
 ⟨some 143,(some (142, true)),.p (.mov (.t 18)),false,[]⟩,
 ⟨some 144,(some (142, true)),.p (.bin .eql (.t 143) (.c (.int .i64 3))),false,[]⟩,
 ⟨some 145,none,.p (.pick (.t 142) (.t 144) (.c (.bool false))),false,[]⟩,
 ⟨some 146,none,.p (.mov (.t 145)),false,[]⟩,
 ⟨some 147,(some (146, true)),.h (.call 17 []),false,[]⟩,
 ⟨some 148,(some (146, true)),.h (.call 36 [(.c (.int .u8 0)), (.c (.int .i64 0)), (.c (.int .i64 0))]),false,[]⟩,
 ⟨some 149,(some (146, true)),.p (.eqf false true [1, 1, 1] (.t 147) (.t 148)),false,[]⟩,
 ⟨some 150,none,.p (.pick (.t 146) (.t 149) (.c (.bool false))),false,[]⟩,
 ⟨some 0,none,.p (.mov (.t 150)),false,[]⟩]) .ret))))))))))))⟩
theorem k14_ok : cfn Tryd.prog gl Tryd.f14 = some k14 := by kernel_rfl
def k15 : CFn := ⟨51, [(.cell 4 true 3), (.t 5)], (.seq (.region [
 ⟨some 2,none,.h (.box (.t 0)),false,[]⟩,
 ⟨some 3,none,.h (.box (.t 1)),false,[]⟩,
 ⟨some 4,none,.h (.alloc [(.int .u8 0), (.int .i64 0), (.int .i64 0)]),false,[]⟩,
 ⟨some 5,none,.p (.mov (.c (.int .i64 0))),false,[]⟩]) (.seq (.seq (.region [
 ⟨some 8,none,.h (.load true 3 (.t 2)),false,[]⟩,
 ⟨some 9,none,.h (.call 34 [(.t 8)]),false,[]⟩,
 ⟨some 10,none,.p (.bin .neq (.t 9) (.c (.int .i64 0))),false,[]⟩,
 ⟨some 11,none,.p (.mov (.t 10)),false,[]⟩,
 ⟨some 12,(some (11, false)),.h (.load true 3 (.t 3)),false,[]⟩,
 ⟨some 13,(some (11, false)),.h (.call 34 [(.t 12)]),false,[]⟩,
 ⟨some 14,(some (11, false)),.p (.bin .neq (.t 13) (.c (.int .i64 0))),false,[]⟩,
 ⟨some 15,none,.p (.pick (.t 11) (.c (.bool true)) (.t 14)),false,[]⟩]) (.cond (.t 15) (.seq (.region [
 ⟨some 16,none,.p (.build [(.int .u8 0), (.int .i64 0), (.int .i64 0)] []),false,[]⟩,
 ⟨none,none,.h (.store 3 (.t 4) (.t 16)),false,[]⟩,
 ⟨some 5,none,.p (.mov (.c (.int .i64 1))),false,[]⟩]) .ret) .skip)) (.seq (.region [
 ⟨some 18,none,.p (.fad 0 (.t 3)),false,[]⟩,
 ⟨some 19,none,.h (.load false 1 (.t 18)),true,[]⟩,
 ⟨some 20,none,.p (.iadA 8 4 (.c (.ptr 0 0)) (.t 19)),false,[]⟩,
 ⟨some 21,none,.h (.load true 4 (.t 20)),true,[]⟩,
 ⟨some 22,none,.p (.fad 1 (.t 2)),false,[]⟩,
 ⟨some 23,none,.h (.load false 1 (.t 22)),true,[]⟩,
 ⟨some 24,none,.p (.fad 2 (.t 2)),false,[]⟩,
 ⟨some 25,none,.h (.load false 1 (.t 24)),true,[]⟩,
 ⟨some 26,none,.h (.call 37 [(.t 21), (.t 23), (.t 25)]),false,[]⟩,
 ⟨some 17,none,.p (.mov (.t 26)),false,[]⟩,
 ⟨some 27,none,.p (.ext 0 (.t 17)),false,[]⟩,
 ⟨some 28,none,.p (.ext 1 (.t 17)),false,[]⟩,
 ⟨some 6,none,.p (.mov (.t 27)),false,[]⟩,
 ⟨some 7,none,.p (.mov (.t 28)),false,[]⟩]) (.seq (.region [
 ⟨some 29,none,.p (.fad 0 (.t 2)),false,[]⟩,
 ⟨some 30,none,.h (.load false 1 (.t 29)),true,[]⟩,
 ⟨some 31,none,.p (.iadA 8 4 (.c (.ptr 0 0)) (.t 30)),false,[]⟩,
 ⟨some 32,none,.h (.load true 4 (.t 31)),true,[]⟩,
 ⟨some 33,none,.p (.fad 0 (.t 3)),false,[]⟩,
 ⟨some 34,none,.h (.load false 1 (.t 33)),true,[]⟩,
 ⟨some 35,none,.p (.iadA 8 4 (.c (.ptr 0 0)) (.t 34)),false,[]⟩,
 ⟨some 36,none,.h (.load true 4 (.t 35)),true,[]⟩,
 ⟨some 37,none,.h (.call 41 [(.t 32), (.t 36)]),true,[]⟩,
 ⟨some 38,none,.h (.call 39 [(.t 37)]),true,[]⟩,
 ⟨some 39,none,.p (.mov (.t 6)),false,[]⟩,
 ⟨some 40,none,.p (.fad 1 (.t 3)),false,[]⟩,
 ⟨some 41,none,.h (.load false 1 (.t 40)),true,[]⟩,
 ⟨some 42,none,.p (.bin .add (.t 39) (.t 41)),false,[]⟩,
 ⟨some 43,none,.p (.mov (.t 7)),false,[]⟩,
 ⟨some 44,none,.p (.fad 2 (.t 3)),false,[]⟩,
 ⟨some 45,none,.h (.load false 1 (.t 44)),true,[]⟩,
 ⟨some 46,none,.p (.bin .add (.t 43) (.t 45)),false,[]⟩,
 ⟨some 47,none,.p (.build [(.int .u8 0), (.int .i64 0), (.int .i64 0)] [(0, 1, (.t 38)), (1, 1, (.t 42)), (2, 1, (.t 46))]),false,[]⟩,
 ⟨some 48,none,.h (.call 38 [(.t 47)]),false,[]⟩,
 ⟨some 49,none,.p (.ext 0 (.t 48)),false,[]⟩,
 ⟨some 50,none,.p (.ext 1 (.t 48)),false,[]⟩,
 ⟨none,none,.h (.store 3 (.t 4) (.t 49)),false,[]⟩,
 ⟨some 5,none,.p (.mov (.t 50)),false,[]⟩]) .ret))))⟩
theorem k15_ok : cfn Tryd.prog gl Tryd.f15 = some k15 := by kernel_rfl
def k16 : CFn := ⟨33, [(.cell 2 true 3)], (.seq (.region [
 ⟨some 1,none,.h (.box (.t 0)),false,[]⟩,
 ⟨some 2,none,.h (.alloc [(.int .u8 0), (.int .i64 0), (.int .i64 0)]),false,[]⟩]) (.seq (.seq (.region [
 ⟨some 3,none,.p (.mov (.c (.int .u8 0))),false,[]⟩]) (.block 0 (.loop (.seq (.seq (.region [
 ⟨some 6,none,.p (.mov (.t 3)),false,[]⟩,
 ⟨some 7,none,.p (.bin .lss (.t 6) (.c (.int .u8 8))),false,[]⟩]) (.cond (.t 7) .skip (.exit 0))) (.seq (.block 1 (.seq (.region [
 ⟨some 10,none,.p (.mov (.t 3)),false,[]⟩,
 ⟨some 11,none,.p (.build [(.int .u8 0), (.int .i64 0), (.int .i64 0)] [(0, 1, (.t 10))]),false,[]⟩,
 ⟨some 12,none,.p (.fad 1 (.t 1)),false,[]⟩,
 ⟨some 13,none,.h (.load false 1 (.t 12)),false,[]⟩,
 ⟨some 14,none,.p (.fad 2 (.t 1)),false,[]⟩,
 ⟨some 15,none,.h (.load false 1 (.t 14)),false,[]⟩,
 ⟨some 16,none,.p (.build [(.int .i64 0), (.int .i64 0)] [(0, 1, (.t 13)), (1, 1, (.t 15))]),false,[]⟩,
 ⟨some 17,none,.h (.call 20 [(.t 11), (.t 16)]),false,[]⟩,
 ⟨some 4,none,.h (.alloc [(.int .i64 0), (.int .i64 0)]),false,[]⟩,
 ⟨none,none,.h (.store 2 (.t 4) (.t 17)),false,[]⟩]) (.seq (.region [
 ⟨some 18,none,.p (.mov (.t 3)),false,[]⟩,
 ⟨some 19,none,.p (.fad 0 (.t 4)),false,[]⟩,
 ⟨some 20,none,.h (.load false 1 (.t 19)),false,[]⟩,
 ⟨some 21,none,.p (.neg (.t 20)),false,[]⟩,
 ⟨some 22,none,.p (.fad 1 (.t 4)),false,[]⟩,
 ⟨some 23,none,.h (.load false 1 (.t 22)),false,[]⟩,
 ⟨some 24,none,.p (.neg (.t 23)),false,[]⟩,
 ⟨some 25,none,.p (.build [(.int .u8 0), (.int .i64 0), (.int .i64 0)] [(0, 1, (.t 18)), (1, 1, (.t 21)), (2, 1, (.t 24))]),false,[]⟩,
 ⟨some 5,none,.h (.alloc [(.int .u8 0), (.int .i64 0), (.int .i64 0)]),false,[]⟩,
 ⟨none,none,.h (.store 3 (.t 5) (.t 25)),false,[]⟩]) (.seq (.region [
 ⟨some 26,none,.h (.load true 3 (.t 1)),false,[]⟩,
 ⟨some 27,none,.h (.load true 3 (.t 5)),false,[]⟩,
 ⟨some 28,none,.h (.call 24 [(.t 26), (.t 27)]),false,[]⟩,
 ⟨some 29,none,.p (.build [(.int .u8 0), (.int .i64 0), (.int .i64 0)] []),false,[]⟩,
 ⟨some 30,none,.p (.eqf false true [1, 1, 1] (.t 28) (.t 29)),false,[]⟩]) (.cond (.t 30) (.seq (.region [
 ⟨some 31,none,.h (.load true 3 (.t 5)),false,[]⟩,
 ⟨none,none,.h (.store 3 (.t 2) (.t 31)),false,[]⟩]) .ret) .skip))))) (.region [
 ⟨some 8,none,.p (.mov (.t 3)),false,[]⟩,
 ⟨some 9,none,.p (.bin .add (.t 8) (.c (.int .u8 1))),false,[]⟩,
 ⟨some 3,none,.p (.mov (.t 9)),false,[]⟩])))))) (.seq (.region [
 ⟨some 32,none,.p (.build [(.int .u8 0), (.int .i64 0), (.int .i64 0)] [(0, 1, (.c (.int .u8 8)))]),false,[]⟩,
 ⟨none,none,.h (.store 3 (.t 2) (.t 32)),false,[]⟩]) .ret)))⟩
theorem k16_ok : cfn Tryd.prog gl Tryd.f16 = some k16 := by kernel_rfl
def k17 : CFn := ⟨2, [(.cell 0 true 3)], (.seq (.region [
 ⟨some 0,none,.h (.alloc [(.int .u8 0), (.int .i64 0), (.int .i64 0)]),false,[]⟩]) (.seq (.region [
 ⟨some 1,none,.p (.build [(.int .u8 0), (.int .i64 0), (.int .i64 0)] []),false,[]⟩,
 ⟨none,none,.h (.store 3 (.t 0) (.t 1)),false,[]⟩]) .ret))⟩
theorem k17_ok : cfn Tryd.prog gl Tryd.f17 = some k17 := by kernel_rfl
def k18 : CFn := ⟨46, [(.cell 4 true 2), (.t 5)], (.seq (.region [
 ⟨some 2,none,.h (.box (.t 0)),false,[]⟩,
 ⟨some 3,none,.h (.box (.t 1)),false,[]⟩,
 ⟨some 4,none,.h (.alloc [(.int .i64 0), (.int .i64 0)]),false,[]⟩,
 ⟨some 5,none,.p (.mov (.c (.int .i64 0))),false,[]⟩]) (.seq (.seq (.region [
 ⟨some 9,none,.h (.load true 3 (.t 2)),false,[]⟩,
 ⟨some 10,none,.h (.call 34 [(.t 9)]),false,[]⟩,
 ⟨some 11,none,.p (.bin .neq (.t 10) (.c (.int .i64 0))),false,[]⟩,
 ⟨some 12,none,.p (.mov (.t 11)),false,[]⟩,
 ⟨some 13,(some (12, false)),.h (.load true 2 (.t 3)),false,[]⟩,
 ⟨some 14,(some (12, false)),.h (.call 42 [(.t 13)]),false,[]⟩,
 ⟨some 15,(some (12, false)),.p (.bin .neq (.t 14) (.c (.int .i64 0))),false,[]⟩,
 ⟨some 16,none,.p (.pick (.t 12) (.c (.bool true)) (.t 15)),false,[]⟩]) (.cond (.t 16) (.seq (.region [
 ⟨some 17,none,.p (.build [(.int .i64 0), (.int .i64 0)] []),false,[]⟩,
 ⟨none,none,.h (.store 2 (.t 4) (.t 17)),false,[]⟩,
 ⟨some 5,none,.p (.mov (.c (.int .i64 1))),false,[]⟩]) .ret) .skip)) (.seq (.region [
 ⟨some 19,none,.p (.fad 0 (.t 2)),false,[]⟩,
 ⟨some 20,none,.h (.load false 1 (.t 19)),true,[]⟩,
 ⟨some 21,none,.p (.iadA 8 4 (.c (.ptr 0 0)) (.t 20)),false,[]⟩,
 ⟨some 22,none,.h (.load true 4 (.t 21)),true,[]⟩,
 ⟨some 23,none,.p (.fad 0 (.t 3)),false,[]⟩,
 ⟨some 24,none,.h (.load false 1 (.t 23)),true,[]⟩,
 ⟨some 25,none,.p (.fad 1 (.t 3)),false,[]⟩,
 ⟨some 26,none,.h (.load false 1 (.t 25)),true,[]⟩,
 ⟨some 27,none,.h (.call 37 [(.t 22), (.t 24), (.t 26)]),false,[]⟩,
 ⟨some 18,none,.p (.mov (.t 27)),false,[]⟩,
 ⟨some 28,none,.p (.ext 0 (.t 18)),false,[]⟩,
 ⟨some 29,none,.p (.ext 1 (.t 18)),false,[]⟩,
 ⟨some 6,none,.p (.mov (.t 28)),false,[]⟩,
 ⟨some 7,none,.p (.mov (.t 29)),false,[]⟩]) (.seq (.region [
 ⟨some 30,none,.p (.mov (.t 6)),false,[]⟩,
 ⟨some 31,none,.p (.fad 1 (.t 2)),false,[]⟩,
 ⟨some 32,none,.h (.load false 1 (.t 31)),false,[]⟩,
 ⟨some 33,none,.p (.bin .mul (.c (.int .i64 2)) (.t 32)),false,[]⟩,
 ⟨some 34,none,.p (.bin .add (.t 30) (.t 33)),false,[]⟩,
 ⟨some 35,none,.p (.mov (.t 7)),false,[]⟩,
 ⟨some 36,none,.p (.fad 2 (.t 2)),false,[]⟩,
 ⟨some 37,none,.h (.load false 1 (.t 36)),false,[]⟩,
 ⟨some 38,none,.p (.bin .mul (.c (.int .i64 2)) (.t 37)),false,[]⟩,
 ⟨some 39,none,.p (.bin .add (.t 35) (.t 38)),false,[]⟩,
 ⟨some 40,none,.p (.build [(.int .i64 0), (.int .i64 0)] [(0, 1, (.t 34)), (1, 1, (.t 39))]),false,[]⟩,
 ⟨some 8,none,.h (.alloc [(.int .i64 0), (.int .i64 0)]),false,[]⟩,
 ⟨none,none,.h (.store 2 (.t 8) (.t 40)),false,[]⟩]) (.seq (.seq (.region [
 ⟨some 41,none,.h (.load true 2 (.t 8)),false,[]⟩,
 ⟨some 42,none,.h (.call 42 [(.t 41)]),false,[]⟩,
 ⟨some 43,none,.p (.bin .neq (.t 42) (.c (.int .i64 0))),false,[]⟩]) (.cond (.t 43) (.seq (.region [
 ⟨some 44,none,.p (.build [(.int .i64 0), (.int .i64 0)] []),false,[]⟩,
 ⟨none,none,.h (.store 2 (.t 4) (.t 44)),false,[]⟩,
 ⟨some 5,none,.p (.mov (.c (.int .i64 3))),false,[]⟩]) .ret) .skip)) (.seq (.region [
 ⟨some 45,none,.h (.load true 2 (.t 8)),false,[]⟩,
 ⟨none,none,.h (.store 2 (.t 4) (.t 45)),false,[]⟩,
 ⟨some 5,none,.p (.mov (.c (.int .i64 0))),false,[]⟩]) .ret))))))⟩
theorem k18_ok : cfn Tryd.prog gl Tryd.f18 = some k18 := by kernel_rfl
def k19 : CFn := ⟨21, [(.t 2)], (.seq (.region [
 ⟨some 1,none,.h (.box (.t 0)),false,[]⟩,
 ⟨some 2,none,.p (.mov (.c (.int .i64 0))),false,[]⟩]) (.seq (.seq (.region [
 ⟨some 3,none,.p (.fad 0 (.t 1)),false,[]⟩,
 ⟨some 4,none,.h (.load false 1 (.t 3)),false,[]⟩,
 ⟨some 5,none,.p (.bin .geq (.t 4) (.c (.int .i64 (-65536)))),false,[]⟩,
 ⟨some 6,none,.p (.mov (.t 5)),false,[]⟩,
 ⟨some 7,(some (6, true)),.p (.fad 0 (.t 1)),false,[]⟩,
 ⟨some 8,(some (6, true)),.h (.load false 1 (.t 7)),false,[]⟩,
 ⟨some 9,(some (6, true)),.p (.bin .leq (.t 8) (.c (.int .i64 65536))),false,[]⟩,
 ⟨some 10,none,.p (.pick (.t 6) (.t 9) (.c (.bool false))),false,[]⟩,
 ⟨some 11,none,.p (.mov (.t 10)),false,[]⟩,
 ⟨some 12,(some (11, true)),.p (.fad 1 (.t 1)),false,[]⟩,
 ⟨some 13,(some (11, true)),.h (.load false 1 (.t 12)),false,[]⟩,
 ⟨some 14,(some (11, true)),.p (.bin .geq (.t 13) (.c (.int .i64 (-65536)))),false,[]⟩,
 ⟨some 15,none,.p (.pick (.t 11) (.t 14) (.c (.bool false))),false,[]⟩,
 ⟨some 16,none,.p (.mov (.t 15)),false,[]⟩,
 ⟨some 17,(some (16, true)),.p (.fad 1 (.t 1)),false,[]⟩,
 ⟨some 18,(some (16, true)),.h (.load false 1 (.t 17)),false,[]⟩,
 ⟨some 19,(some (16, true)),.p (.bin .leq (.t 18) (.c (.int .i64 65536))),false,[]⟩,
 ⟨some 20,none,.p (.pick (.t 16) (.t 19) (.c (.bool false))),false,[]⟩]) (.cond (.t 20) (.seq (.region [
 ⟨some 2,none,.p (.mov (.c (.int .i64 1))),false,[]⟩]) .ret) .skip)) (.seq (.region [
 ⟨some 2,none,.p (.mov (.c (.int .i64 0))),false,[]⟩]) .ret)))⟩
theorem k19_ok : cfn Tryd.prog gl Tryd.f19 = some k19 := by kernel_rfl
def k20 : CFn := ⟨79, [(.cell 4 true 2)], (.seq (.region [
 ⟨some 2,none,.h (.box (.t 0)),false,[]⟩,
 ⟨some 3,none,.h (.box (.t 1)),false,[]⟩,
 ⟨some 4,none,.h (.alloc [(.int .i64 0), (.int .i64 0)]),false,[]⟩]) (.seq (.region [
 ⟨some 7,none,.p (.fad 0 (.t 3)),false,[]⟩,
 ⟨some 8,none,.h (.load false 1 (.t 7)),true,[]⟩,
 ⟨some 9,none,.p (.fad 1 (.t 3)),false,[]⟩,
 ⟨some 10,none,.h (.load false 1 (.t 9)),true,[]⟩,
 ⟨some 5,none,.p (.mov (.t 8)),false,[]⟩,
 ⟨some 6,none,.p (.mov (.t 10)),false,[]⟩]) (.seq (.seq (.region [
 ⟨some 11,none,.p (.fad 0 (.t 2)),false,[]⟩,
 ⟨some 12,none,.h (.load false 1 (.t 11)),false,[]⟩,
 ⟨some 13,none,.p (.bin .eql (.t 12) (.c (.int .u8 1))),false,[]⟩]) (.cond (.t 13) (.region [
 ⟨some 14,none,.p (.fad 1 (.t 3)),false,[]⟩,
 ⟨some 15,none,.h (.load false 1 (.t 14)),true,[]⟩,
 ⟨some 16,none,.p (.neg (.t 15)),false,[]⟩,
 ⟨some 17,none,.p (.fad 0 (.t 3)),false,[]⟩,
 ⟨some 18,none,.h (.load false 1 (.t 17)),true,[]⟩,
 ⟨some 5,none,.p (.mov (.t 16)),false,[]⟩,
 ⟨some 6,none,.p (.mov (.t 18)),false,[]⟩]) .skip)) (.seq (.seq (.region [
 ⟨some 19,none,.p (.fad 0 (.t 2)),false,[]⟩,
 ⟨some 20,none,.h (.load false 1 (.t 19)),false,[]⟩,
 ⟨some 21,none,.p (.bin .eql (.t 20) (.c (.int .u8 2))),false,[]⟩]) (.cond (.t 21) (.region [
 ⟨some 22,none,.p (.fad 0 (.t 3)),false,[]⟩,
 ⟨some 23,none,.h (.load false 1 (.t 22)),true,[]⟩,
 ⟨some 24,none,.p (.neg (.t 23)),false,[]⟩,
 ⟨some 25,none,.p (.fad 1 (.t 3)),false,[]⟩,
 ⟨some 26,none,.h (.load false 1 (.t 25)),true,[]⟩,
 ⟨some 27,none,.p (.neg (.t 26)),false,[]⟩,
 ⟨some 5,none,.p (.mov (.t 24)),false,[]⟩,
 ⟨some 6,none,.p (.mov (.t 27)),false,[]⟩]) .skip)) (.seq (.seq (.region [
 ⟨some 28,none,.p (.fad 0 (.t 2)),false,[]⟩,
 ⟨some 29,none,.h (.load false 1 (.t 28)),false,[]⟩,
 ⟨some 30,none,.p (.bin .eql (.t 29) (.c (.int .u8 3))),false,[]⟩]) (.cond (.t 30) (.region [
 ⟨some 31,none,.p (.fad 1 (.t 3)),false,[]⟩,
 ⟨some 32,none,.h (.load false 1 (.t 31)),true,[]⟩,
 ⟨some 33,none,.p (.fad 0 (.t 3)),false,[]⟩,
 ⟨some 34,none,.h (.load false 1 (.t 33)),true,[]⟩,
 ⟨some 35,none,.p (.neg (.t 34)),false,[]⟩,
 ⟨some 5,none,.p (.mov (.t 32)),false,[]⟩,
 ⟨some 6,none,.p (.mov (.t 35)),false,[]⟩]) .skip)) (.seq (.seq (.region [
 ⟨some 36,none,.p (.fad 0 (.t 2)),false,[]⟩,
 ⟨some 37,none,.h (.load false 1 (.t 36)),false,[]⟩,
 ⟨some 38,none,.p (.bin .eql (.t 37) (.c (.int .u8 4))),false,[]⟩]) (.cond (.t 38) (.region [
 ⟨some 39,none,.p (.fad 0 (.t 3)),false,[]⟩,
 ⟨some 40,none,.h (.load false 1 (.t 39)),true,[]⟩,
 ⟨some 41,none,.p (.neg (.t 40)),false,[]⟩,
 ⟨some 42,none,.p (.fad 1 (.t 3)),false,[]⟩,
 ⟨some 43,none,.h (.load false 1 (.t 42)),true,[]⟩,
 ⟨some 5,none,.p (.mov (.t 41)),false,[]⟩,
 ⟨some 6,none,.p (.mov (.t 43)),false,[]⟩]) .skip)) (.seq (.seq (.region [
 ⟨some 44,none,.p (.fad 0 (.t 2)),false,[]⟩,
 ⟨some 45,none,.h (.load false 1 (.t 44)),false,[]⟩,
 ⟨some 46,none,.p (.bin .eql (.t 45) (.c (.int .u8 5))),false,[]⟩]) (.cond (.t 46) (.region [
 ⟨some 47,none,.p (.fad 1 (.t 3)),false,[]⟩,
 ⟨some 48,none,.h (.load false 1 (.t 47)),true,[]⟩,
 ⟨some 49,none,.p (.neg (.t 48)),false,[]⟩,
 ⟨some 50,none,.p (.fad 0 (.t 3)),false,[]⟩,
 ⟨some 51,none,.h (.load false 1 (.t 50)),true,[]⟩,
 ⟨some 52,none,.p (.neg (.t 51)),false,[]⟩,
 ⟨some 5,none,.p (.mov (.t 49)),false,[]⟩,
 ⟨some 6,none,.p (.mov (.t 52)),false,[]⟩]) .skip)) (.seq (.seq (.region [
 ⟨some 53,none,.p (.fad 0 (.t 2)),false,[]⟩,
 ⟨some 54,none,.h (.load false 1 (.t 53)),false,[]⟩,
 ⟨some 55,none,.p (.bin .eql (.t 54) (.c (.int .u8 6))),false,[]⟩]) (.cond (.t 55) (.region [
 ⟨some 56,none,.p (.fad 0 (.t 3)),false,[]⟩,
 ⟨some 57,none,.h (.load false 1 (.t 56)),true,[]⟩,
 ⟨some 58,none,.p (.fad 1 (.t 3)),false,[]⟩,
 ⟨some 59,none,.h (.load false 1 (.t 58)),true,[]⟩,
 ⟨some 60,none,.p (.neg (.t 59)),false,[]⟩,
 ⟨some 5,none,.p (.mov (.t 57)),false,[]⟩,
 ⟨some 6,none,.p (.mov (.t 60)),false,[]⟩]) .skip)) (.seq (.seq (.region [
 ⟨some 61,none,.p (.fad 0 (.t 2)),false,[]⟩,
 ⟨some 62,none,.h (.load false 1 (.t 61)),false,[]⟩,
 ⟨some 63,none,.p (.bin .eql (.t 62) (.c (.int .u8 7))),false,[]⟩]) (.cond (.t 63) (.region [
 ⟨some 64,none,.p (.fad 1 (.t 3)),false,[]⟩,
 ⟨some 65,none,.h (.load false 1 (.t 64)),true,[]⟩,
 ⟨some 66,none,.p (.fad 0 (.t 3)),false,[]⟩,
 ⟨some 67,none,.h (.load false 1 (.t 66)),true,[]⟩,
 ⟨some 5,none,.p (.mov (.t 65)),false,[]⟩,
 ⟨some 6,none,.p (.mov (.t 67)),false,[]⟩]) .skip)) (.seq (.region [
 ⟨some 68,none,.p (.mov (.t 5)),false,[]⟩,
 ⟨some 69,none,.p (.fad 1 (.t 2)),false,[]⟩,
 ⟨some 70,none,.h (.load false 1 (.t 69)),false,[]⟩,
 ⟨some 71,none,.p (.bin .mul (.c (.int .i64 2)) (.t 70)),false,[]⟩,
 ⟨some 72,none,.p (.bin .add (.t 68) (.t 71)),false,[]⟩,
 ⟨some 73,none,.p (.mov (.t 6)),false,[]⟩,
 ⟨some 74,none,.p (.fad 2 (.t 2)),false,[]⟩,
 ⟨some 75,none,.h (.load false 1 (.t 74)),false,[]⟩,
 ⟨some 76,none,.p (.bin .mul (.c (.int .i64 2)) (.t 75)),false,[]⟩,
 ⟨some 77,none,.p (.bin .add (.t 73) (.t 76)),false,[]⟩,
 ⟨some 78,none,.p (.build [(.int .i64 0), (.int .i64 0)] [(0, 1, (.t 72)), (1, 1, (.t 77))]),false,[]⟩,
 ⟨none,none,.h (.store 2 (.t 4) (.t 78)),false,[]⟩]) .ret))))))))))⟩
theorem k20_ok : cfn Tryd.prog gl Tryd.f20 = some k20 := by kernel_rfl
def k21 : CFn := ⟨89, [(.cell 4 true 2), (.t 5)], (.seq (.region [
 ⟨some 2,none,.h (.box (.t 0)),false,[]⟩,
 ⟨some 3,none,.h (.box (.t 1)),false,[]⟩,
 ⟨some 4,none,.h (.alloc [(.int .u8 0), (.int .i64 0)]),false,[]⟩,
 ⟨some 5,none,.p (.mov (.c (.int .i64 0))),false,[]⟩]) (.seq (.seq (.region [
 ⟨some 15,none,.h (.load true 3 (.t 2)),false,[]⟩,
 ⟨some 16,none,.h (.call 34 [(.t 15)]),false,[]⟩,
 ⟨some 17,none,.p (.bin .neq (.t 16) (.c (.int .i64 0))),false,[]⟩,
 ⟨some 18,none,.p (.mov (.t 17)),false,[]⟩,
 ⟨some 19,(some (18, false)),.h (.load true 2 (.t 3)),false,[]⟩,
 ⟨some 20,(some (18, false)),.h (.call 28 [(.t 19)]),false,[]⟩,
 ⟨some 21,(some (18, false)),.p (.bin .neq (.t 20) (.c (.int .i64 0))),false,[]⟩,
 ⟨some 22,none,.p (.pick (.t 18) (.c (.bool true)) (.t 21)),false,[]⟩]) (.cond (.t 22) (.seq (.region [
 ⟨some 23,none,.p (.build [(.int .u8 0), (.int .i64 0)] []),false,[]⟩,
 ⟨none,none,.h (.store 2 (.t 4) (.t 23)),false,[]⟩,
 ⟨some 5,none,.p (.mov (.c (.int .i64 1))),false,[]⟩]) .ret) .skip)) (.seq (.region [
 ⟨some 24,none,.p (.fad 0 (.t 2)),false,[]⟩,
 ⟨some 25,none,.h (.load false 1 (.t 24)),false,[]⟩,
 ⟨some 26,none,.p (.iadA 8 4 (.c (.ptr 0 0)) (.t 25)),false,[]⟩,
 ⟨some 27,none,.h (.load true 4 (.t 26)),false,[]⟩,
 ⟨some 28,none,.p (.mkfn (.func 37) [(.t 27)] []),false,[]⟩,
 ⟨some 6,none,.p (.mov (.t 28)),false,[]⟩]) (.seq (.region [
 ⟨some 30,none,.p (.mov (.t 6)),false,[]⟩,
 ⟨some 31,none,.p (.fad 0 (.t 3)),false,[]⟩,
 ⟨some 32,none,.h (.load false 1 (.t 31)),false,[]⟩,
 ⟨some 33,none,.h (.call 43 [(.t 32)]),false,[]⟩,
 ⟨some 34,none,.p (.ext 0 (.t 33)),false,[]⟩,
 ⟨some 35,none,.p (.ext 1 (.t 33)),false,[]⟩,
 ⟨some 36,none,.h (.calld (.t 30) [(.t 34), (.t 35)]),false,[]⟩,
 ⟨some 29,none,.p (.mov (.t 36)),false,[]⟩,
 ⟨some 37,none,.p (.ext 0 (.t 29)),false,[]⟩,
 ⟨some 38,none,.p (.ext 1 (.t 29)),false,[]⟩,
 ⟨some 7,none,.p (.mov (.t 37)),false,[]⟩,
 ⟨some 8,none,.p (.mov (.t 38)),false,[]⟩]) (.seq (.seq (.region [
 ⟨some 9,none,.p (.mov (.c (.int .u8 1))),false,[]⟩]) (.block 0 (.loop (.seq (.seq (.region [
 ⟨some 39,none,.p (.mov (.t 9)),false,[]⟩,
 ⟨some 40,none,.p (.bin .leq (.t 39) (.c (.int .u8 4))),false,[]⟩]) (.cond (.t 40) .skip (.exit 0))) (.seq (.block 1 (.seq (.region [
 ⟨some 44,none,.p (.mov (.t 9)),false,[]⟩,
 ⟨some 45,none,.h (.call 43 [(.t 44)]),false,[]⟩,
 ⟨some 43,none,.p (.mov (.t 45)),false,[]⟩,
 ⟨some 46,none,.p (.ext 0 (.t 43)),false,[]⟩,
 ⟨some 47,none,.p (.ext 1 (.t 43)),false,[]⟩,
 ⟨some 10,none,.p (.mov (.t 46)),false,[]⟩,
 ⟨some 11,none,.p (.mov (.t 47)),false,[]⟩]) (.seq (.region [
 ⟨some 48,none,.h (.bsl 1 2 [(.int .i64 0), (.int .i64 0)] [(0, 1, (.c (.int .i64 1))), (1, 1, (.c (.int .i64 (-1))))]),false,[]⟩,
 ⟨some 49,none,.p (.len (.t 48)),false,[]⟩,
 ⟨some 50,none,.p (.mov (.c (.int .i64 0))),false,[]⟩]) (.block 2 (.loop (.seq (.region [
 ⟨some 51,none,.p (.bin .lss (.t 50) (.t 49)),false,[]⟩]) (.seq (.cond (.t 51) .skip (.exit 2)) (.seq (.block 3 (.seq (.region [
 ⟨some 52,none,.p (.iadS 1 (.t 48) (.t 50)),false,[]⟩,
 ⟨some 53,none,.h (.load false 1 (.t 52)),false,[]⟩,
 ⟨some 13,none,.p (.mov (.t 53)),false,[]⟩]) (.seq (.region [
 ⟨some 54,none,.p (.mov (.t 7)),false,[]⟩,
 ⟨some 55,none,.p (.mov (.t 13)),false,[]⟩,
 ⟨some 56,none,.p (.mov (.t 10)),false,[]⟩,
 ⟨some 57,none,.p (.bin .mul (.t 55) (.t 56)),false,[]⟩,
 ⟨some 58,none,.p (.bin .eql (.t 54) (.t 57)),false,[]⟩,
 ⟨some 59,none,.p (.mov (.t 58)),false,[]⟩,
 ⟨some 60,(some (59, true)),.p (.mov (.t 8)),false,[]⟩,
 ⟨some 61,(some (59, true)),.p (.mov (.t 13)),false,[]⟩,
 ⟨some 62,(some (59, true)),.p (.mov (.t 11)),false,[]⟩,
 ⟨some 63,(some (59, true)),.p (.bin .mul (.t 61) (.t 62)),false,[]⟩,
 ⟨some 64,(some (59, true)),.p (.bin .eql (.t 60) (.t 63)),false,[]⟩,
 ⟨some 65,none,.p (.pick (.t 59) (.t 64) (.c (.bool false))),false,[]⟩]) (.cond (.t 65) (.seq (.region [
 ⟨some 66,none,.p (.mov (.t 9)),false,[]⟩,
 ⟨some 67,none,.p (.mov (.t 13)),false,[]⟩,
 ⟨some 68,none,.p (.fad 1 (.t 3)),false,[]⟩,
 ⟨some 69,none,.h (.load false 1 (.t 68)),false,[]⟩,
 ⟨some 70,none,.p (.bin .mul (.t 67) (.t 69)),false,[]⟩,
 ⟨some 71,none,.p (.mov (.t 10)),false,[]⟩,
 ⟨some 72,none,.p (.fad 1 (.t 2)),false,[]⟩,
 ⟨some 73,none,.h (.load false 1 (.t 72)),false,[]⟩,
 ⟨some 74,none,.p (.bin .mul (.t 71) (.t 73)),false,[]⟩,
 ⟨some 75,none,.p (.bin .add (.t 70) (.t 74)),false,[]⟩,
 ⟨some 76,none,.p (.mov (.t 11)),false,[]⟩,
 ⟨some 77,none,.p (.fad 2 (.t 2)),false,[]⟩,
 ⟨some 78,none,.h (.load false 1 (.t 77)),false,[]⟩,
 ⟨some 79,none,.p (.bin .mul (.t 76) (.t 78)),false,[]⟩,
 ⟨some 80,none,.p (.bin .add (.t 75) (.t 79)),false,[]⟩,
 ⟨some 81,none,.p (.build [(.int .u8 0), (.int .i64 0)] [(0, 1, (.t 66)), (1, 1, (.t 80))]),false,[]⟩,
 ⟨some 14,none,.h (.alloc [(.int .u8 0), (.int .i64 0)]),false,[]⟩,
 ⟨none,none,.h (.store 2 (.t 14) (.t 81)),false,[]⟩]) (.seq (.seq (.region [
 ⟨some 82,none,.h (.load true 2 (.t 14)),false,[]⟩,
 ⟨some 83,none,.h (.call 28 [(.t 82)]),false,[]⟩,
 ⟨some 84,none,.p (.bin .neq (.t 83) (.c (.int .i64 0))),false,[]⟩]) (.cond (.t 84) (.seq (.region [
 ⟨some 85,none,.p (.build [(.int .u8 0), (.int .i64 0)] []),false,[]⟩,
 ⟨none,none,.h (.store 2 (.t 4) (.t 85)),false,[]⟩,
 ⟨some 5,none,.p (.mov (.c (.int .i64 3))),false,[]⟩]) .ret) .skip)) (.seq (.region [
 ⟨some 86,none,.h (.load true 2 (.t 14)),false,[]⟩,
 ⟨none,none,.h (.store 2 (.t 4) (.t 86)),false,[]⟩,
 ⟨some 5,none,.p (.mov (.c (.int .i64 0))),false,[]⟩]) .ret))) .skip)))) (.region [
 ⟨some 87,none,.p (.bin .add (.t 50) (.c (.int .i64 1))),false,[]⟩,
 ⟨some 50,none,.p (.mov (.t 87)),false,[]⟩]))))))))) (.region [
 ⟨some 41,none,.p (.mov (.t 9)),false,[]⟩,
 ⟨some 42,none,.p (.bin .add (.t 41) (.c (.int .u8 1))),false,[]⟩,
 ⟨some 9,none,.p (.mov (.t 42)),false,[]⟩])))))) (.seq (.region [
 ⟨some 88,none,.p (.build [(.int .u8 0), (.int .i64 0)] []),false,[]⟩,
 ⟨none,none,.h (.store 2 (.t 4) (.t 88)),false,[]⟩,
 ⟨some 5,none,.p (.mov (.c (.int .i64 3))),false,[]⟩]) .ret))))))⟩
theorem k21_ok : cfn Tryd.prog gl Tryd.f21 = some k21 := by kernel_rfl
def k22 : CFn := ⟨21, [(.t 2)], (.seq (.region [
 ⟨some 1,none,.h (.box (.t 0)),false,[]⟩,
 ⟨some 2,none,.p (.mov (.c (.int .i64 0))),false,[]⟩]) (.seq (.seq (.region [
 ⟨some 3,none,.p (.fad 0 (.t 1)),false,[]⟩,
 ⟨some 4,none,.h (.load false 1 (.t 3)),false,[]⟩,
 ⟨some 5,none,.p (.bin .geq (.t 4) (.c (.int .u8 1))),false,[]⟩,
 ⟨some 6,none,.p (.mov (.t 5)),false,[]⟩,
 ⟨some 7,(some (6, true)),.p (.fad 0 (.t 1)),false,[]⟩,
 ⟨some 8,(some (6, true)),.h (.load false 1 (.t 7)),false,[]⟩,
 ⟨some 9,(some (6, true)),.p (.bin .leq (.t 8) (.c (.int .u8 4))),false,[]⟩,
 ⟨some 10,none,.p (.pick (.t 6) (.t 9) (.c (.bool false))),false,[]⟩,
 ⟨some 11,none,.p (.mov (.t 10)),false,[]⟩,
 ⟨some 12,(some (11, true)),.p (.fad 1 (.t 1)),false,[]⟩,
 ⟨some 13,(some (11, true)),.h (.load false 1 (.t 12)),false,[]⟩,
 ⟨some 14,(some (11, true)),.p (.bin .geq (.t 13) (.c (.int .i64 (-4096)))),false,[]⟩,
 ⟨some 15,none,.p (.pick (.t 11) (.t 14) (.c (.bool false))),false,[]⟩,
 ⟨some 16,none,.p (.mov (.t 15)),false,[]⟩,
 ⟨some 17,(some (16, true)),.p (.fad 1 (.t 1)),false,[]⟩,
 ⟨some 18,(some (16, true)),.h (.load false 1 (.t 17)),false,[]⟩,
 ⟨some 19,(some (16, true)),.p (.bin .leq (.t 18) (.c (.int .i64 4096))),false,[]⟩,
 ⟨some 20,none,.p (.pick (.t 16) (.t 19) (.c (.bool false))),false,[]⟩]) (.cond (.t 20) (.seq (.region [
 ⟨some 2,none,.p (.mov (.c (.int .i64 1))),false,[]⟩]) .ret) .skip)) (.seq (.region [
 ⟨some 2,none,.p (.mov (.c (.int .i64 0))),false,[]⟩]) .ret)))⟩
theorem k22_ok : cfn Tryd.prog gl Tryd.f22 = some k22 := by kernel_rfl
def k23 : CFn := ⟨65, [(.cell 4 true 2)], (.seq (.region [
 ⟨some 2,none,.h (.box (.t 0)),false,[]⟩,
 ⟨some 3,none,.h (.box (.t 1)),false,[]⟩,
 ⟨some 4,none,.h (.alloc [(.int .u8 0), (.int .i64 0)]),false,[]⟩]) (.seq (.region [
 ⟨some 14,none,.h (.load true 2 (.t 3)),false,[]⟩,
 ⟨some 15,none,.h (.call 44 [(.t 14)]),false,[]⟩,
 ⟨some 13,none,.p (.mov (.t 15)),false,[]⟩,
 ⟨some 16,none,.p (.ext 0 (.t 13)),false,[]⟩,
 ⟨some 17,none,.p (.ext 1 (.t 13)),false,[]⟩,
 ⟨some 5,none,.h (.alloc [(.int .i64 0), (.int .i64 0)]),false,[]⟩,
 ⟨some 6,none,.h (.alloc [(.int .i64 0), (.int .i64 0)]),false,[]⟩,
 ⟨none,none,.h (.store 2 (.t 5) (.t 16)),false,[]⟩,
 ⟨none,none,.h (.store 2 (.t 6) (.t 17)),false,[]⟩]) (.seq (.region [
 ⟨some 18,none,.h (.load true 3 (.t 2)),true,[]⟩,
 ⟨some 19,none,.h (.load true 2 (.t 5)),true,[]⟩,
 ⟨some 20,none,.h (.call 20 [(.t 18), (.t 19)]),true,[]⟩,
 ⟨some 21,none,.h (.load true 3 (.t 2)),true,[]⟩,
 ⟨some 22,none,.h (.load true 2 (.t 6)),true,[]⟩,
 ⟨some 23,none,.h (.call 20 [(.t 21), (.t 22)]),true,[]⟩,
 ⟨some 7,none,.h (.alloc [(.int .i64 0), (.int .i64 0)]),true,[]⟩,
 ⟨some 8,none,.h (.alloc [(.int .i64 0), (.int .i64 0)]),true,[]⟩,
 ⟨none,none,.h (.store 2 (.t 7) (.t 20)),false,[]⟩,
 ⟨none,none,.h (.store 2 (.t 8) (.t 23)),false,[]⟩]) (.seq (.region [
 ⟨some 9,none,.h (.alloc [(.int .u8 0), (.int .i64 0)]),false,[]⟩]) (.seq (.seq (.region [
 ⟨some 10,none,.p (.mov (.c (.int .u8 1))),false,[]⟩]) (.block 0 (.loop (.seq (.seq (.region [
 ⟨some 24,none,.p (.mov (.t 10)),false,[]⟩,
 ⟨some 25,none,.p (.bin .leq (.t 24) (.c (.int .u8 4))),false,[]⟩]) (.cond (.t 25) .skip (.exit 0))) (.seq (.block 1 (.seq (.region [
 ⟨some 29,none,.p (.mov (.t 10)),false,[]⟩,
 ⟨some 30,none,.h (.call 45 [(.t 29)]),false,[]⟩,
 ⟨some 28,none,.p (.mov (.t 30)),false,[]⟩,
 ⟨some 31,none,.p (.ext 0 (.t 28)),false,[]⟩,
 ⟨some 32,none,.p (.ext 1 (.t 28)),false,[]⟩,
 ⟨some 11,none,.p (.mov (.t 31)),false,[]⟩,
 ⟨some 12,none,.p (.mov (.t 32)),false,[]⟩]) (.seq (.region [
 ⟨some 33,none,.p (.mov (.t 11)),false,[]⟩,
 ⟨some 34,none,.p (.fad 0 (.t 7)),false,[]⟩,
 ⟨some 35,none,.h (.load false 1 (.t 34)),false,[]⟩,
 ⟨some 36,none,.p (.bin .mul (.t 33) (.t 35)),false,[]⟩,
 ⟨some 37,none,.p (.mov (.t 12)),false,[]⟩,
 ⟨some 38,none,.p (.fad 1 (.t 7)),false,[]⟩,
 ⟨some 39,none,.h (.load false 1 (.t 38)),false,[]⟩,
 ⟨some 40,none,.p (.bin .mul (.t 37) (.t 39)),false,[]⟩,
 ⟨some 41,none,.p (.bin .add (.t 36) (.t 40)),false,[]⟩,
 ⟨some 42,none,.p (.mov (.t 11)),false,[]⟩,
 ⟨some 43,none,.p (.fad 0 (.t 8)),false,[]⟩,
 ⟨some 44,none,.h (.load false 1 (.t 43)),false,[]⟩,
 ⟨some 45,none,.p (.bin .mul (.t 42) (.t 44)),false,[]⟩,
 ⟨some 46,none,.p (.mov (.t 12)),false,[]⟩,
 ⟨some 47,none,.p (.fad 1 (.t 8)),false,[]⟩,
 ⟨some 48,none,.h (.load false 1 (.t 47)),false,[]⟩,
 ⟨some 49,none,.p (.bin .mul (.t 46) (.t 48)),false,[]⟩,
 ⟨some 50,none,.p (.bin .add (.t 45) (.t 49)),false,[]⟩,
 ⟨some 51,none,.p (.bin .eql (.t 41) (.t 50)),false,[]⟩]) (.cond (.t 51) (.region [
 ⟨some 52,none,.p (.mov (.t 10)),false,[]⟩,
 ⟨some 53,none,.p (.mov (.t 11)),false,[]⟩,
 ⟨some 54,none,.p (.fad 0 (.t 7)),false,[]⟩,
 ⟨some 55,none,.h (.load false 1 (.t 54)),false,[]⟩,
 ⟨some 56,none,.p (.bin .mul (.t 53) (.t 55)),false,[]⟩,
 ⟨some 57,none,.p (.mov (.t 12)),false,[]⟩,
 ⟨some 58,none,.p (.fad 1 (.t 7)),false,[]⟩,
 ⟨some 59,none,.h (.load false 1 (.t 58)),false,[]⟩,
 ⟨some 60,none,.p (.bin .mul (.t 57) (.t 59)),false,[]⟩,
 ⟨some 61,none,.p (.bin .add (.t 56) (.t 60)),false,[]⟩,
 ⟨some 62,none,.p (.bin .quo (.t 61) (.c (.int .i64 2))),false,[]⟩,
 ⟨some 63,none,.p (.build [(.int .u8 0), (.int .i64 0)] [(0, 1, (.t 52)), (1, 1, (.t 62))]),false,[]⟩,
 ⟨none,none,.h (.store 2 (.t 9) (.t 63)),false,[]⟩]) .skip)))) (.region [
 ⟨some 26,none,.p (.mov (.t 10)),false,[]⟩,
 ⟨some 27,none,.p (.bin .add (.t 26) (.c (.int .u8 1))),false,[]⟩,
 ⟨some 10,none,.p (.mov (.t 27)),false,[]⟩])))))) (.seq (.region [
 ⟨some 64,none,.h (.load true 2 (.t 9)),false,[]⟩,
 ⟨none,none,.h (.store 2 (.t 4) (.t 64)),false,[]⟩]) .ret))))))⟩
theorem k23_ok : cfn Tryd.prog gl Tryd.f23 = some k23 := by kernel_rfl
def k24 : CFn := ⟨21, [(.cell 4 true 3)], (.seq (.region [
 ⟨some 2,none,.h (.box (.t 0)),false,[]⟩,
 ⟨some 3,none,.h (.box (.t 1)),false,[]⟩,
 ⟨some 4,none,.h (.alloc [(.int .u8 0), (.int .i64 0), (.int .i64 0)]),false,[]⟩]) (.seq (.region [
 ⟨some 5,none,.h (.load true 3 (.t 3)),true,[]⟩,
 ⟨some 6,none,.h (.load true 3 (.t 2)),true,[]⟩,
 ⟨some 7,none,.p (.build [(.int .i64 0), (.int .i64 0)] []),false,[]⟩,
 ⟨some 8,none,.h (.call 20 [(.t 6), (.t 7)]),true,[]⟩,
 ⟨some 9,none,.h (.call 20 [(.t 5), (.t 8)]),true,[]⟩,
 ⟨some 10,none,.h (.load true 3 (.t 3)),true,[]⟩,
 ⟨some 11,none,.h (.load true 3 (.t 2)),true,[]⟩,
 ⟨some 12,none,.p (.build [(.int .i64 0), (.int .i64 0)] [(0, 1, (.c (.int .i64 2)))]),false,[]⟩,
 ⟨some 13,none,.h (.call 20 [(.t 11), (.t 12)]),true,[]⟩,
 ⟨some 14,none,.h (.call 20 [(.t 10), (.t 13)]),true,[]⟩,
 ⟨some 15,none,.h (.load true 3 (.t 3)),true,[]⟩,
 ⟨some 16,none,.h (.load true 3 (.t 2)),true,[]⟩,
 ⟨some 17,none,.p (.build [(.int .i64 0), (.int .i64 0)] [(1, 1, (.c (.int .i64 2)))]),false,[]⟩,
 ⟨some 18,none,.h (.call 20 [(.t 16), (.t 17)]),true,[]⟩,
 ⟨some 19,none,.h (.call 20 [(.t 15), (.t 18)]),false,[]⟩,
 ⟨some 20,none,.h (.call 46 [(.t 9), (.t 14), (.t 19)]),false,[]⟩,
 ⟨none,none,.h (.store 3 (.t 4) (.t 20)),false,[]⟩]) .ret))⟩
theorem k24_ok : cfn Tryd.prog gl Tryd.f24 = some k24 := by kernel_rfl
def k25 : CFn := ⟨13, [(.cell 2 true 3)], (.seq (.region [
 ⟨some 1,none,.h (.box (.t 0)),false,[]⟩,
 ⟨some 2,none,.h (.alloc [(.int .u8 0), (.int .i64 0), (.int .i64 0)]),false,[]⟩]) (.seq (.region [
 ⟨some 3,none,.h (.load true 2 (.t 1)),true,[]⟩,
 ⟨some 4,none,.p (.build [(.int .i64 0), (.int .i64 0)] []),false,[]⟩,
 ⟨some 5,none,.h (.call 32 [(.t 3), (.t 4)]),true,[]⟩,
 ⟨some 6,none,.h (.load true 2 (.t 1)),true,[]⟩,
 ⟨some 7,none,.p (.build [(.int .i64 0), (.int .i64 0)] [(0, 1, (.c (.int .i64 2)))]),false,[]⟩,
 ⟨some 8,none,.h (.call 32 [(.t 6), (.t 7)]),true,[]⟩,
 ⟨some 9,none,.h (.load true 2 (.t 1)),true,[]⟩,
 ⟨some 10,none,.p (.build [(.int .i64 0), (.int .i64 0)] [(1, 1, (.c (.int .i64 2)))]),false,[]⟩,
 ⟨some 11,none,.h (.call 32 [(.t 9), (.t 10)]),false,[]⟩,
 ⟨some 12,none,.h (.call 46 [(.t 5), (.t 8), (.t 11)]),false,[]⟩,
 ⟨none,none,.h (.store 3 (.t 2) (.t 12)),false,[]⟩]) .ret))⟩
theorem k25_ok : cfn Tryd.prog gl Tryd.f25 = some k25 := by kernel_rfl
def k26 : CFn := ⟨35, [(.cell 2 true 3), (.t 3)], (.seq (.region [
 ⟨some 1,none,.h (.box (.t 0)),false,[]⟩,
 ⟨some 2,none,.h (.alloc [(.int .u8 0), (.int .i64 0), (.int .i64 0)]),false,[]⟩,
 ⟨some 3,none,.p (.mov (.c (.int .i64 0))),false,[]⟩]) (.seq (.seq (.region [
 ⟨some 4,none,.h (.load true 2 (.t 1)),false,[]⟩,
 ⟨some 5,none,.h (.call 28 [(.t 4)]),false,[]⟩,
 ⟨some 6,none,.p (.bin .neq (.t 5) (.c (.int .i64 0))),false,[]⟩]) (.cond (.t 6) (.seq (.region [
 ⟨some 7,none,.p (.build [(.int .u8 0), (.int .i64 0), (.int .i64 0)] []),false,[]⟩,
 ⟨none,none,.h (.store 3 (.t 2) (.t 7)),false,[]⟩,
 ⟨some 3,none,.p (.mov (.c (.int .i64 1))),false,[]⟩]) .ret) .skip)) (.seq (.seq (.region [
 ⟨some 8,none,.p (.fad 0 (.t 1)),false,[]⟩,
 ⟨some 9,none,.h (.load false 1 (.t 8)),false,[]⟩]) (.block 0 (.seq (.region [
 ⟨some 11,none,.p (.bin .eql (.t 9) (.c (.int .u8 1))),false,[]⟩,
 ⟨some 10,none,.p (.mov (.t 11)),false,[]⟩]) (.cond (.t 10) (.seq (.region [
 ⟨some 12,none,.p (.fad 1 (.t 1)),false,[]⟩,
 ⟨some 13,none,.h (.load false 1 (.t 12)),false,[]⟩,
 ⟨some 14,none,.p (.bin .mul (.c (.int .i64 2)) (.t 13)),false,[]⟩,
 ⟨some 15,none,.p (.build [(.int .u8 0), (.int .i64 0), (.int .i64 0)] [(0, 1, (.c (.int .u8 4))), (1, 1, (.t 14)), (2, 1, (.c (.int .i64 0)))]),false,[]⟩,
 ⟨none,none,.h (.store 3 (.t 2) (.t 15)),false,[]⟩,
 ⟨some 3,none,.p (.mov (.c (.int .i64 0))),false,[]⟩]) .ret) (.seq (.region [
 ⟨some 17,none,.p (.bin .eql (.t 9) (.c (.int .u8 2))),false,[]⟩,
 ⟨some 16,none,.p (.mov (.t 17)),false,[]⟩]) (.cond (.t 16) (.seq (.region [
 ⟨some 18,none,.p (.fad 1 (.t 1)),false,[]⟩,
 ⟨some 19,none,.h (.load false 1 (.t 18)),false,[]⟩,
 ⟨some 20,none,.p (.bin .mul (.c (.int .i64 2)) (.t 19)),false,[]⟩,
 ⟨some 21,none,.p (.build [(.int .u8 0), (.int .i64 0), (.int .i64 0)] [(0, 1, (.c (.int .u8 6))), (1, 1, (.c (.int .i64 0))), (2, 1, (.t 20))]),false,[]⟩,
 ⟨none,none,.h (.store 3 (.t 2) (.t 21)),false,[]⟩,
 ⟨some 3,none,.p (.mov (.c (.int .i64 0))),false,[]⟩]) .ret) (.seq (.region [
 ⟨some 23,none,.p (.bin .eql (.t 9) (.c (.int .u8 3))),false,[]⟩,
 ⟨some 22,none,.p (.mov (.t 23)),false,[]⟩]) (.cond (.t 22) (.seq (.region [
 ⟨some 24,none,.p (.fad 1 (.t 1)),false,[]⟩,
 ⟨some 25,none,.h (.load false 1 (.t 24)),false,[]⟩,
 ⟨some 26,none,.p (.fad 1 (.t 1)),false,[]⟩,
 ⟨some 27,none,.h (.load false 1 (.t 26)),false,[]⟩,
 ⟨some 28,none,.p (.build [(.int .u8 0), (.int .i64 0), (.int .i64 0)] [(0, 1, (.c (.int .u8 5))), (1, 1, (.t 25)), (2, 1, (.t 27))]),false,[]⟩,
 ⟨none,none,.h (.store 3 (.t 2) (.t 28)),false,[]⟩,
 ⟨some 3,none,.p (.mov (.c (.int .i64 0))),false,[]⟩]) .ret) .skip)))))))) (.seq (.region [
 ⟨some 29,none,.p (.fad 1 (.t 1)),false,[]⟩,
 ⟨some 30,none,.h (.load false 1 (.t 29)),false,[]⟩,
 ⟨some 31,none,.p (.neg (.t 30)),false,[]⟩,
 ⟨some 32,none,.p (.fad 1 (.t 1)),false,[]⟩,
 ⟨some 33,none,.h (.load false 1 (.t 32)),false,[]⟩,
 ⟨some 34,none,.p (.build [(.int .u8 0), (.int .i64 0), (.int .i64 0)] [(0, 1, (.c (.int .u8 7))), (1, 1, (.t 31)), (2, 1, (.t 33))]),false,[]⟩,
 ⟨none,none,.h (.store 3 (.t 2) (.t 34)),false,[]⟩,
 ⟨some 3,none,.p (.mov (.c (.int .i64 0))),false,[]⟩]) .ret))))⟩
theorem k26_ok : cfn Tryd.prog gl Tryd.f26 = some k26 := by kernel_rfl
def k27 : CFn := ⟨26, [(.cell 2 true 3)], (.seq (.region [
 ⟨some 1,none,.h (.box (.t 0)),false,[]⟩,
 ⟨some 2,none,.h (.alloc [(.int .u8 0), (.int .i64 0), (.int .i64 0)]),false,[]⟩]) (.seq (.region [
 ⟨some 4,none,.p (.fad 0 (.t 1)),false,[]⟩,
 ⟨some 5,none,.h (.load false 1 (.t 4)),false,[]⟩,
 ⟨some 6,none,.p (.bin .rem (.t 5) (.c (.int .u8 8))),false,[]⟩,
 ⟨some 7,none,.p (.fad 1 (.t 1)),false,[]⟩,
 ⟨some 8,none,.h (.load false 1 (.t 7)),false,[]⟩,
 ⟨some 9,none,.p (.cvi .i64 (.t 8)),false,[]⟩,
 ⟨some 10,none,.p (.fad 2 (.t 1)),false,[]⟩,
 ⟨some 11,none,.h (.load false 1 (.t 10)),false,[]⟩,
 ⟨some 12,none,.p (.cvi .i64 (.t 11)),false,[]⟩,
 ⟨some 13,none,.p (.build [(.int .u8 0), (.int .i64 0), (.int .i64 0)] [(0, 1, (.t 6)), (1, 1, (.t 9)), (2, 1, (.t 12))]),false,[]⟩,
 ⟨some 3,none,.h (.alloc [(.int .u8 0), (.int .i64 0), (.int .i64 0)]),false,[]⟩,
 ⟨none,none,.h (.store 3 (.t 3) (.t 13)),false,[]⟩]) (.seq (.seq (.region [
 ⟨some 14,none,.p (.fad 1 (.t 3)),false,[]⟩,
 ⟨some 15,none,.h (.load false 1 (.t 14)),false,[]⟩,
 ⟨some 16,none,.p (.fad 2 (.t 3)),false,[]⟩,
 ⟨some 17,none,.h (.load false 1 (.t 16)),false,[]⟩,
 ⟨some 18,none,.p (.bin .add (.t 15) (.t 17)),false,[]⟩,
 ⟨some 19,none,.p (.bin .rem (.t 18) (.c (.int .i64 2))),false,[]⟩,
 ⟨some 20,none,.p (.bin .neq (.t 19) (.c (.int .i64 0))),false,[]⟩]) (.cond (.t 20) (.region [
 ⟨some 21,none,.p (.fad 2 (.t 3)),false,[]⟩,
 ⟨some 22,none,.h (.load false 1 (.t 21)),false,[]⟩,
 ⟨some 23,none,.p (.bin .add (.t 22) (.c (.int .i64 1))),false,[]⟩,
 ⟨some 24,none,.p (.fad 2 (.t 3)),false,[]⟩,
 ⟨none,none,.h (.store 1 (.t 24) (.t 23)),false,[]⟩]) .skip)) (.seq (.region [
 ⟨some 25,none,.h (.load true 3 (.t 3)),false,[]⟩,
 ⟨none,none,.h (.store 3 (.t 2) (.t 25)),false,[]⟩]) .ret))))⟩
theorem k27_ok : cfn Tryd.prog gl Tryd.f27 = some k27 := by kernel_rfl
def k28 : CFn := ⟨21, [(.t 2)], (.seq (.region [
 ⟨some 1,none,.h (.box (.t 0)),false,[]⟩,
 ⟨some 2,none,.p (.mov (.c (.int .i64 0))),false,[]⟩]) (.seq (.seq (.region [
 ⟨some 3,none,.p (.fad 0 (.t 1)),false,[]⟩,
 ⟨some 4,none,.h (.load false 1 (.t 3)),false,[]⟩,
 ⟨some 5,none,.p (.bin .lss (.t 4) (.c (.int .u8 1))),false,[]⟩,
 ⟨some 6,none,.p (.mov (.t 5)),false,[]⟩,
 ⟨some 7,(some (6, false)),.p (.fad 0 (.t 1)),false,[]⟩,
 ⟨some 8,(some (6, false)),.h (.load false 1 (.t 7)),false,[]⟩,
 ⟨some 9,(some (6, false)),.p (.bin .gtr (.t 8) (.c (.int .u8 4))),false,[]⟩,
 ⟨some 10,none,.p (.pick (.t 6) (.c (.bool true)) (.t 9)),false,[]⟩,
 ⟨some 11,none,.p (.mov (.t 10)),false,[]⟩,
 ⟨some 12,(some (11, false)),.p (.fad 1 (.t 1)),false,[]⟩,
 ⟨some 13,(some (11, false)),.h (.load false 1 (.t 12)),false,[]⟩,
 ⟨some 14,(some (11, false)),.p (.bin .lss (.t 13) (.c (.int .i64 (-4096)))),false,[]⟩,
 ⟨some 15,none,.p (.pick (.t 11) (.c (.bool true)) (.t 14)),false,[]⟩,
 ⟨some 16,none,.p (.mov (.t 15)),false,[]⟩,
 ⟨some 17,(some (16, false)),.p (.fad 1 (.t 1)),false,[]⟩,
 ⟨some 18,(some (16, false)),.h (.load false 1 (.t 17)),false,[]⟩,
 ⟨some 19,(some (16, false)),.p (.bin .gtr (.t 18) (.c (.int .i64 4096))),false,[]⟩,
 ⟨some 20,none,.p (.pick (.t 16) (.c (.bool true)) (.t 19)),false,[]⟩]) (.cond (.t 20) (.seq (.region [
 ⟨some 2,none,.p (.mov (.c (.int .i64 1))),false,[]⟩]) .ret) .skip)) (.seq (.region [
 ⟨some 2,none,.p (.mov (.c (.int .i64 0))),false,[]⟩]) .ret)))⟩
theorem k28_ok : cfn Tryd.prog gl Tryd.f28 = some k28 := by kernel_rfl
def k29 : CFn := ⟨17, [(.t 2)], (.seq (.region [
 ⟨some 1,none,.h (.box (.t 0)),false,[]⟩,
 ⟨some 2,none,.p (.mov (.c (.str []))),false,[]⟩]) (.seq (.region [
 ⟨some 3,none,.p (.fad 0 (.t 1)),false,[]⟩,
 ⟨some 4,none,.h (.load false 1 (.t 3)),true,[]⟩,
 ⟨some 5,none,.p (.cvi .i64 (.t 4)),false,[]⟩,
 ⟨some 6,none,.h (.call 47 [(.t 5)]),true,[]⟩,
 ⟨some 7,none,.p (.bin .add (.t 6) (.c (.str [32]))),false,[]⟩,
 ⟨some 8,none,.p (.fad 1 (.t 1)),false,[]⟩,
 ⟨some 9,none,.h (.load false 1 (.t 8)),true,[]⟩,
 ⟨some 10,none,.h (.call 47 [(.t 9)]),true,[]⟩,
 ⟨some 11,none,.p (.bin .add (.t 7) (.t 10)),false,[]⟩,
 ⟨some 12,none,.p (.bin .add (.t 11) (.c (.str [32]))),false,[]⟩,
 ⟨some 13,none,.p (.fad 2 (.t 1)),false,[]⟩,
 ⟨some 14,none,.h (.load false 1 (.t 13)),true,[]⟩,
 ⟨some 15,none,.h (.call 47 [(.t 14)]),false,[]⟩,
 ⟨some 16,none,.p (.bin .add (.t 12) (.t 15)),false,[]⟩,
 ⟨some 2,none,.p (.mov (.t 16)),false,[]⟩]) .ret))⟩
theorem k29_ok : cfn Tryd.prog gl Tryd.f29 = some k29 := by kernel_rfl
def k30 : CFn := ⟨62, [(.cell 2 true 3), (.t 3)], (.seq (.region [
 ⟨some 2,none,.h (.alloc [(.int .u8 0), (.int .i64 0), (.int .i64 0)]),false,[]⟩,
 ⟨some 3,none,.p (.mov (.c (.int .i64 0))),false,[]⟩]) (.seq (.region [
 ⟨some 12,none,.p (.mov (.t 0)),false,[]⟩,
 ⟨some 13,none,.h (.call 48 [(.t 12), (.c (.str [32]))]),false,[]⟩,
 ⟨some 4,none,.p (.mov (.t 13)),false,[]⟩]) (.seq (.seq (.region [
 ⟨some 14,none,.p (.mov (.t 4)),false,[]⟩,
 ⟨some 15,none,.p (.len (.t 14)),false,[]⟩,
 ⟨some 16,none,.p (.bin .neq (.t 15) (.c (.int .i64 3))),false,[]⟩]) (.cond (.t 16) (.seq (.region [
 ⟨some 17,none,.p (.build [(.int .u8 0), (.int .i64 0), (.int .i64 0)] []),false,[]⟩,
 ⟨none,none,.h (.store 3 (.t 2) (.t 17)),false,[]⟩,
 ⟨some 3,none,.p (.mov (.c (.int .i64 4))),false,[]⟩]) .ret) .skip)) (.seq (.region [
 ⟨some 19,none,.p (.mov (.t 4)),false,[]⟩,
 ⟨some 20,none,.p (.iadS 1 (.t 19) (.c (.int .i64 0))),false,[]⟩,
 ⟨some 21,none,.h (.load false 1 (.t 20)),false,[]⟩,
 ⟨some 22,none,.h (.call 49 [(.t 21), (.c (.int .i64 10)), (.c (.int .i64 8))]),false,[]⟩,
 ⟨some 18,none,.p (.mov (.t 22)),false,[]⟩,
 ⟨some 23,none,.p (.ext 0 (.t 18)),false,[]⟩,
 ⟨some 24,none,.p (.ext 1 (.t 18)),false,[]⟩,
 ⟨some 5,none,.p (.mov (.t 23)),false,[]⟩,
 ⟨some 6,none,.p (.mov (.t 24)),false,[]⟩]) (.seq (.region [
 ⟨some 26,none,.p (.mov (.t 4)),false,[]⟩,
 ⟨some 27,none,.p (.iadS 1 (.t 26) (.c (.int .i64 1))),false,[]⟩,
 ⟨some 28,none,.h (.load false 1 (.t 27)),false,[]⟩,
 ⟨some 29,none,.h (.call 50 [(.t 28)]),false,[]⟩,
 ⟨some 25,none,.p (.mov (.t 29)),false,[]⟩,
 ⟨some 30,none,.p (.ext 0 (.t 25)),false,[]⟩,
 ⟨some 31,none,.p (.ext 1 (.t 25)),false,[]⟩,
 ⟨some 7,none,.p (.mov (.t 30)),false,[]⟩,
 ⟨some 8,none,.p (.mov (.t 31)),false,[]⟩]) (.seq (.region [
 ⟨some 33,none,.p (.mov (.t 4)),false,[]⟩,
 ⟨some 34,none,.p (.iadS 1 (.t 33) (.c (.int .i64 2))),false,[]⟩,
 ⟨some 35,none,.h (.load false 1 (.t 34)),false,[]⟩,
 ⟨some 36,none,.h (.call 50 [(.t 35)]),false,[]⟩,
 ⟨some 32,none,.p (.mov (.t 36)),false,[]⟩,
 ⟨some 37,none,.p (.ext 0 (.t 32)),false,[]⟩,
 ⟨some 38,none,.p (.ext 1 (.t 32)),false,[]⟩,
 ⟨some 9,none,.p (.mov (.t 37)),false,[]⟩,
 ⟨some 10,none,.p (.mov (.t 38)),false,[]⟩]) (.seq (.region [
 ⟨some 39,none,.p (.mov (.t 5)),false,[]⟩,
 ⟨some 40,none,.p (.cvi .u8 (.t 39)),false,[]⟩,
 ⟨some 41,none,.p (.mov (.t 7)),false,[]⟩,
 ⟨some 42,none,.p (.mov (.t 9)),false,[]⟩,
 ⟨some 43,none,.p (.build [(.int .u8 0), (.int .i64 0), (.int .i64 0)] [(0, 1, (.t 40)), (1, 1, (.t 41)), (2, 1, (.t 42))]),false,[]⟩,
 ⟨some 11,none,.h (.alloc [(.int .u8 0), (.int .i64 0), (.int .i64 0)]),false,[]⟩,
 ⟨none,none,.h (.store 3 (.t 11) (.t 43)),false,[]⟩]) (.seq (.seq (.region [
 ⟨some 44,none,.p (.mov (.t 6)),false,[]⟩,
 ⟨some 45,none,.p (.eqn true 0 (.t 44) (.c .nili)),false,[]⟩,
 ⟨some 46,none,.p (.mov (.t 45)),false,[]⟩,
 ⟨some 47,(some (46, false)),.p (.mov (.t 8)),false,[]⟩,
 ⟨some 48,(some (46, false)),.p (.eqn true 0 (.t 47) (.c .nili)),false,[]⟩,
 ⟨some 49,none,.p (.pick (.t 46) (.c (.bool true)) (.t 48)),false,[]⟩,
 ⟨some 50,none,.p (.mov (.t 49)),false,[]⟩,
 ⟨some 51,(some (50, false)),.p (.mov (.t 10)),false,[]⟩,
 ⟨some 52,(some (50, false)),.p (.eqn true 0 (.t 51) (.c .nili)),false,[]⟩,
 ⟨some 53,none,.p (.pick (.t 50) (.c (.bool true)) (.t 52)),false,[]⟩,
 ⟨some 54,none,.p (.mov (.t 53)),false,[]⟩,
 ⟨some 55,(some (54, false)),.h (.load true 3 (.t 11)),false,[]⟩,
 ⟨some 56,(some (54, false)),.h (.call 31 [(.t 55)]),false,[]⟩,
 ⟨some 57,(some (54, false)),.p (.mov (.t 0)),false,[]⟩,
 ⟨some 58,(some (54, false)),.p (.bin .neq (.t 56) (.t 57)),false,[]⟩,
 ⟨some 59,none,.p (.pick (.t 54) (.c (.bool true)) (.t 58)),false,[]⟩]) (.cond (.t 59) (.seq (.region [
 ⟨some 60,none,.p (.build [(.int .u8 0), (.int .i64 0), (.int .i64 0)] []),false,[]⟩,
 ⟨none,none,.h (.store 3 (.t 2) (.t 60)),false,[]⟩,
 ⟨some 3,none,.p (.mov (.c (.int .i64 4))),false,[]⟩]) .ret) .skip)) (.seq (.region [
 ⟨some 61,none,.h (.load true 3 (.t 11)),false,[]⟩,
 ⟨none,none,.h (.store 3 (.t 2) (.t 61)),false,[]⟩,
 ⟨some 3,none,.p (.mov (.c (.int .i64 0))),false,[]⟩]) .ret)))))))))⟩
theorem k30_ok : cfn Tryd.prog gl Tryd.f30 = some k30 := by kernel_rfl
def k31 : CFn := ⟨20, [(.t 2)], (.seq (.region [
 ⟨some 1,none,.h (.box (.t 0)),false,[]⟩,
 ⟨some 2,none,.p (.mov (.c (.str []))),false,[]⟩]) (.seq (.seq (.region [
 ⟨some 3,none,.h (.load true 3 (.t 1)),false,[]⟩,
 ⟨some 4,none,.h (.call 34 [(.t 3)]),false,[]⟩,
 ⟨some 5,none,.p (.bin .neq (.t 4) (.c (.int .i64 0))),false,[]⟩]) (.cond (.t 5) (.seq (.region [
 ⟨some 2,none,.p (.mov (.c (.str []))),false,[]⟩]) .ret) .skip)) (.seq (.region [
 ⟨some 6,none,.p (.fad 0 (.t 1)),false,[]⟩,
 ⟨some 7,none,.h (.load false 1 (.t 6)),true,[]⟩,
 ⟨some 8,none,.p (.cvi .i64 (.t 7)),false,[]⟩,
 ⟨some 9,none,.h (.call 51 [(.t 8)]),true,[]⟩,
 ⟨some 10,none,.p (.bin .add (.t 9) (.c (.str [32]))),false,[]⟩,
 ⟨some 11,none,.p (.fad 1 (.t 1)),false,[]⟩,
 ⟨some 12,none,.h (.load false 1 (.t 11)),true,[]⟩,
 ⟨some 13,none,.h (.call 51 [(.t 12)]),true,[]⟩,
 ⟨some 14,none,.p (.bin .add (.t 10) (.t 13)),false,[]⟩,
 ⟨some 15,none,.p (.bin .add (.t 14) (.c (.str [32]))),false,[]⟩,
 ⟨some 16,none,.p (.fad 2 (.t 1)),false,[]⟩,
 ⟨some 17,none,.h (.load false 1 (.t 16)),true,[]⟩,
 ⟨some 18,none,.h (.call 51 [(.t 17)]),false,[]⟩,
 ⟨some 19,none,.p (.bin .add (.t 15) (.t 18)),false,[]⟩,
 ⟨some 2,none,.p (.mov (.t 19)),false,[]⟩]) .ret)))⟩
theorem k31_ok : cfn Tryd.prog gl Tryd.f31 = some k31 := by kernel_rfl
def k32 : CFn := ⟨39, [(.cell 4 true 2)], (.seq (.region [
 ⟨some 2,none,.h (.box (.t 0)),false,[]⟩,
 ⟨some 3,none,.h (.box (.t 1)),false,[]⟩,
 ⟨some 4,none,.h (.alloc [(.int .i64 0), (.int .i64 0)]),false,[]⟩]) (.seq (.region [
 ⟨some 9,none,.p (.fad 0 (.t 2)),false,[]⟩,
 ⟨some 10,none,.h (.load false 1 (.t 9)),false,[]⟩,
 ⟨some 11,none,.h (.call 45 [(.t 10)]),false,[]⟩,
 ⟨some 8,none,.p (.mov (.t 11)),false,[]⟩,
 ⟨some 12,none,.p (.ext 0 (.t 8)),false,[]⟩,
 ⟨some 13,none,.p (.ext 1 (.t 8)),false,[]⟩,
 ⟨some 5,none,.p (.mov (.t 12)),false,[]⟩,
 ⟨some 6,none,.p (.mov (.t 13)),false,[]⟩]) (.seq (.region [
 ⟨some 14,none,.h (.load true 2 (.t 2)),false,[]⟩,
 ⟨some 15,none,.h (.load true 2 (.t 3)),false,[]⟩,
 ⟨some 16,none,.h (.call 52 [(.t 14), (.t 15)]),false,[]⟩,
 ⟨some 17,none,.p (.bin .mul (.c (.int .i64 2)) (.t 16)),false,[]⟩,
 ⟨some 18,none,.p (.mov (.t 5)),false,[]⟩,
 ⟨some 19,none,.p (.mov (.t 5)),false,[]⟩,
 ⟨some 20,none,.p (.bin .mul (.t 18) (.t 19)),false,[]⟩,
 ⟨some 21,none,.p (.mov (.t 6)),false,[]⟩,
 ⟨some 22,none,.p (.mov (.t 6)),false,[]⟩,
 ⟨some 23,none,.p (.bin .mul (.t 21) (.t 22)),false,[]⟩,
 ⟨some 24,none,.p (.bin .add (.t 20) (.t 23)),false,[]⟩,
 ⟨some 25,none,.p (.bin .quo (.t 17) (.t 24)),false,[]⟩,
 ⟨some 7,none,.p (.mov (.t 25)),false,[]⟩]) (.seq (.region [
 ⟨some 26,none,.p (.fad 0 (.t 3)),false,[]⟩,
 ⟨some 27,none,.h (.load false 1 (.t 26)),false,[]⟩,
 ⟨some 28,none,.p (.mov (.t 7)),false,[]⟩,
 ⟨some 29,none,.p (.mov (.t 5)),false,[]⟩,
 ⟨some 30,none,.p (.bin .mul (.t 28) (.t 29)),false,[]⟩,
 ⟨some 31,none,.p (.bin .sub (.t 27) (.t 30)),false,[]⟩,
 ⟨some 32,none,.p (.fad 1 (.t 3)),false,[]⟩,
 ⟨some 33,none,.h (.load false 1 (.t 32)),false,[]⟩,
 ⟨some 34,none,.p (.mov (.t 7)),false,[]⟩,
 ⟨some 35,none,.p (.mov (.t 6)),false,[]⟩,
 ⟨some 36,none,.p (.bin .mul (.t 34) (.t 35)),false,[]⟩,
 ⟨some 37,none,.p (.bin .sub (.t 33) (.t 36)),false,[]⟩,
 ⟨some 38,none,.p (.build [(.int .i64 0), (.int .i64 0)] [(0, 1, (.t 31)), (1, 1, (.t 37))]),false,[]⟩,
 ⟨none,none,.h (.store 2 (.t 4) (.t 38)),false,[]⟩]) .ret))))⟩
theorem k32_ok : cfn Tryd.prog gl Tryd.f32 = some k32 := by kernel_rfl
def k33 : CFn := ⟨11, [(.t 2)], (.seq (.region [
 ⟨some 1,none,.h (.box (.t 0)),false,[]⟩,
 ⟨some 2,none,.p (.mov (.c (.bool false))),false,[]⟩]) (.seq (.region [
 ⟨some 3,none,.h (.load true 3 (.t 1)),false,[]⟩,
 ⟨some 4,none,.h (.call 34 [(.t 3)]),false,[]⟩,
 ⟨some 5,none,.p (.bin .eql (.t 4) (.c (.int .i64 0))),false,[]⟩,
 ⟨some 6,none,.p (.mov (.t 5)),false,[]⟩,
 ⟨some 7,(some (6, true)),.p (.fad 0 (.t 1)),false,[]⟩,
 ⟨some 8,(some (6, true)),.h (.load false 1 (.t 7)),false,[]⟩,
 ⟨some 9,(some (6, true)),.p (.bin .geq (.t 8) (.c (.int .u8 4))),false,[]⟩,
 ⟨some 10,none,.p (.pick (.t 6) (.t 9) (.c (.bool false))),false,[]⟩,
 ⟨some 2,none,.p (.mov (.t 10)),false,[]⟩]) .ret))⟩
theorem k33_ok : cfn Tryd.prog gl Tryd.f33 = some k33 := by kernel_rfl
def k34 : CFn := ⟨26, [(.t 2)], (.seq (.region [
 ⟨some 1,none,.h (.box (.t 0)),false,[]⟩,
 ⟨some 2,none,.p (.mov (.c (.int .i64 0))),false,[]⟩]) (.seq (.seq (.region [
 ⟨some 3,none,.p (.fad 0 (.t 1)),false,[]⟩,
 ⟨some 4,none,.h (.load false 1 (.t 3)),false,[]⟩,
 ⟨some 5,none,.p (.cvi .i64 (.t 4)),false,[]⟩,
 ⟨some 6,none,.p (.bin .geq (.t 5) (.c (.int .i64 8))),false,[]⟩,
 ⟨some 7,none,.p (.mov (.t 6)),false,[]⟩,
 ⟨some 8,(some (7, false)),.p (.fad 1 (.t 1)),false,[]⟩,
 ⟨some 9,(some (7, false)),.h (.load false 1 (.t 8)),false,[]⟩,
 ⟨some 10,(some (7, false)),.h (.call 53 [(.t 9)]),false,[]⟩,
 ⟨some 11,none,.p (.pick (.t 7) (.c (.bool true)) (.t 10)),false,[]⟩,
 ⟨some 12,none,.p (.mov (.t 11)),false,[]⟩,
 ⟨some 13,(some (12, false)),.p (.fad 2 (.t 1)),false,[]⟩,
 ⟨some 14,(some (12, false)),.h (.load false 1 (.t 13)),false,[]⟩,
 ⟨some 15,(some (12, false)),.h (.call 53 [(.t 14)]),false,[]⟩,
 ⟨some 16,none,.p (.pick (.t 12) (.c (.bool true)) (.t 15)),false,[]⟩,
 ⟨some 17,none,.p (.mov (.t 16)),false,[]⟩,
 ⟨some 18,(some (17, false)),.p (.fad 1 (.t 1)),false,[]⟩,
 ⟨some 19,(some (17, false)),.h (.load false 1 (.t 18)),false,[]⟩,
 ⟨some 20,(some (17, false)),.p (.fad 2 (.t 1)),false,[]⟩,
 ⟨some 21,(some (17, false)),.h (.load false 1 (.t 20)),false,[]⟩,
 ⟨some 22,(some (17, false)),.p (.bin .add (.t 19) (.t 21)),false,[]⟩,
 ⟨some 23,(some (17, false)),.p (.bin .rem (.t 22) (.c (.int .i64 2))),false,[]⟩,
 ⟨some 24,(some (17, false)),.p (.bin .neq (.t 23) (.c (.int .i64 0))),false,[]⟩,
 ⟨some 25,none,.p (.pick (.t 17) (.c (.bool true)) (.t 24)),false,[]⟩]) (.cond (.t 25) (.seq (.region [
 ⟨some 2,none,.p (.mov (.c (.int .i64 1))),false,[]⟩]) .ret) .skip)) (.seq (.region [
 ⟨some 2,none,.p (.mov (.c (.int .i64 0))),false,[]⟩]) .ret)))⟩
theorem k34_ok : cfn Tryd.prog gl Tryd.f34 = some k34 := by kernel_rfl
def k35 : CFn := ⟨11, [(.cell 2 true 2)], (.seq (.region [
 ⟨some 1,none,.h (.box (.t 0)),false,[]⟩,
 ⟨some 2,none,.h (.alloc [(.int .u8 0), (.int .i64 0)]),false,[]⟩]) (.seq (.region [
 ⟨some 3,none,.p (.fad 0 (.t 1)),false,[]⟩,
 ⟨some 4,none,.h (.load false 1 (.t 3)),false,[]⟩,
 ⟨some 5,none,.p (.bin .rem (.t 4) (.c (.int .u8 4))),false,[]⟩,
 ⟨some 6,none,.p (.bin .add (.c (.int .u8 1)) (.t 5)),false,[]⟩,
 ⟨some 7,none,.p (.fad 1 (.t 1)),false,[]⟩,
 ⟨some 8,none,.h (.load false 1 (.t 7)),false,[]⟩,
 ⟨some 9,none,.p (.cvi .i64 (.t 8)),false,[]⟩,
 ⟨some 10,none,.p (.build [(.int .u8 0), (.int .i64 0)] [(0, 1, (.t 6)), (1, 1, (.t 9))]),false,[]⟩,
 ⟨none,none,.h (.store 2 (.t 2) (.t 10)),false,[]⟩]) .ret))⟩
theorem k35_ok : cfn Tryd.prog gl Tryd.f35 = some k35 := by kernel_rfl
def k36 : CFn := ⟨11, [(.cell 6 true 3)], (.seq (.region [
 ⟨some 6,none,.h (.alloc [(.int .u8 0), (.int .i64 0), (.int .i64 0)]),false,[]⟩]) (.seq (.region [
 ⟨some 7,none,.p (.mov (.t 0)),false,[]⟩,
 ⟨some 8,none,.p (.mov (.t 1)),false,[]⟩,
 ⟨some 9,none,.p (.mov (.t 2)),false,[]⟩,
 ⟨some 10,none,.p (.build [(.int .u8 0), (.int .i64 0), (.int .i64 0)] [(0, 1, (.t 7)), (1, 1, (.t 8)), (2, 1, (.t 9))]),false,[]⟩,
 ⟨none,none,.h (.store 3 (.t 6) (.t 10)),false,[]⟩]) .ret))⟩
theorem k36_ok : cfn Tryd.prog gl Tryd.f36 = some k36 := by kernel_rfl
def k37 : CFn := ⟨26, [(.t 6), (.t 7)], (.seq (.region [
 ⟨some 3,none,.h (.box (.t 0)),false,[]⟩,
 ⟨some 6,none,.p (.mov (.c (.int .i64 0))),false,[]⟩,
 ⟨some 7,none,.p (.mov (.c (.int .i64 0))),false,[]⟩]) (.seq (.region [
 ⟨some 8,none,.p (.fad 0 (.t 3)),false,[]⟩,
 ⟨some 9,none,.h (.load false 1 (.t 8)),true,[]⟩,
 ⟨some 10,none,.p (.mov (.t 1)),false,[]⟩,
 ⟨some 11,none,.p (.bin .mul (.t 9) (.t 10)),false,[]⟩,
 ⟨some 12,none,.p (.fad 1 (.t 3)),false,[]⟩,
 ⟨some 13,none,.h (.load false 1 (.t 12)),true,[]⟩,
 ⟨some 14,none,.p (.mov (.t 2)),false,[]⟩,
 ⟨some 15,none,.p (.bin .mul (.t 13) (.t 14)),false,[]⟩,
 ⟨some 16,none,.p (.bin .add (.t 11) (.t 15)),false,[]⟩,
 ⟨some 17,none,.p (.fad 2 (.t 3)),false,[]⟩,
 ⟨some 18,none,.h (.load false 1 (.t 17)),true,[]⟩,
 ⟨some 19,none,.p (.mov (.t 1)),false,[]⟩,
 ⟨some 20,none,.p (.bin .mul (.t 18) (.t 19)),false,[]⟩,
 ⟨some 21,none,.p (.fad 3 (.t 3)),false,[]⟩,
 ⟨some 22,none,.h (.load false 1 (.t 21)),true,[]⟩,
 ⟨some 23,none,.p (.mov (.t 2)),false,[]⟩,
 ⟨some 24,none,.p (.bin .mul (.t 22) (.t 23)),false,[]⟩,
 ⟨some 25,none,.p (.bin .add (.t 20) (.t 24)),false,[]⟩,
 ⟨some 6,none,.p (.mov (.t 16)),false,[]⟩,
 ⟨some 7,none,.p (.mov (.t 25)),false,[]⟩]) .ret))⟩
theorem k37_ok : cfn Tryd.prog gl Tryd.f37 = some k37 := by kernel_rfl
def k38 : CFn := ⟨9, [(.cell 2 true 3), (.t 3)], (.seq (.region [
 ⟨some 1,none,.h (.box (.t 0)),false,[]⟩,
 ⟨some 2,none,.h (.alloc [(.int .u8 0), (.int .i64 0), (.int .i64 0)]),false,[]⟩,
 ⟨some 3,none,.p (.mov (.c (.int .i64 0))),false,[]⟩]) (.seq (.seq (.region [
 ⟨some 4,none,.h (.load true 3 (.t 1)),false,[]⟩,
 ⟨some 5,none,.h (.call 34 [(.t 4)]),false,[]⟩,
 ⟨some 6,none,.p (.bin .neq (.t 5) (.c (.int .i64 0))),false,[]⟩]) (.cond (.t 6) (.seq (.region [
 ⟨some 7,none,.p (.build [(.int .u8 0), (.int .i64 0), (.int .i64 0)] []),false,[]⟩,
 ⟨none,none,.h (.store 3 (.t 2) (.t 7)),false,[]⟩,
 ⟨some 3,none,.p (.mov (.c (.int .i64 3))),false,[]⟩]) .ret) .skip)) (.seq (.region [
 ⟨some 8,none,.h (.load true 3 (.t 1)),false,[]⟩,
 ⟨none,none,.h (.store 3 (.t 2) (.t 8)),false,[]⟩,
 ⟨some 3,none,.p (.mov (.c (.int .i64 0))),false,[]⟩]) .ret)))⟩
theorem k38_ok : cfn Tryd.prog gl Tryd.f38 = some k38 := by kernel_rfl
def k39 : CFn := ⟨16, [(.t 2)], (.seq (.region [
 ⟨some 1,none,.h (.box (.t 0)),false,[]⟩,
 ⟨some 2,none,.p (.mov (.c (.int .u8 0))),false,[]⟩]) (.seq (.seq (.region [
 ⟨some 5,none,.h (.load true 32 (.c (.ptr 0 0))),false,[]⟩,
 ⟨some 6,none,.p (.mov (.c (.int .i64 0))),false,[]⟩]) (.block 0 (.loop (.seq (.region [
 ⟨some 7,none,.p (.bin .lss (.t 6) (.c (.int .i64 8))),false,[]⟩]) (.seq (.cond (.t 7) .skip (.exit 0)) (.seq (.block 1 (.seq (.region [
 ⟨some 8,none,.p (.mov (.t 6)),false,[]⟩,
 ⟨some 9,none,.p (.idxA true 8 4 (.t 5) (.t 6)),false,[]⟩,
 ⟨some 4,none,.h (.alloc [(.int .i64 0), (.int .i64 0), (.int .i64 0), (.int .i64 0)]),false,[]⟩,
 ⟨some 3,none,.p (.mov (.t 8)),false,[]⟩,
 ⟨none,none,.h (.store 4 (.t 4) (.t 9)),false,[]⟩]) (.seq (.region [
 ⟨some 10,none,.h (.load true 4 (.t 4)),false,[]⟩,
 ⟨some 11,none,.h (.load true 4 (.t 1)),false,[]⟩,
 ⟨some 12,none,.p (.eqf false true [1, 1, 1, 1] (.t 10) (.t 11)),false,[]⟩]) (.cond (.t 12) (.seq (.region [
 ⟨some 13,none,.p (.mov (.t 3)),false,[]⟩,
 ⟨some 14,none,.p (.cvi .u8 (.t 13)),false,[]⟩,
 ⟨some 2,none,.p (.mov (.t 14)),false,[]⟩]) .ret) .skip)))) (.region [
 ⟨some 15,none,.p (.bin .add (.t 6) (.c (.int .i64 1))),false,[]⟩,
 ⟨some 6,none,.p (.mov (.t 15)),false,[]⟩]))))))) (.seq (.region [
 ⟨some 2,none,.p (.mov (.c (.int .u8 0))),false,[]⟩]) .ret)))⟩
theorem k39_ok : cfn Tryd.prog gl Tryd.f39 = some k39 := by kernel_rfl
def k40 : CFn := ⟨15, [(.cell 4 true 3)], (.seq (.region [
 ⟨some 4,none,.h (.alloc [(.int .u8 0), (.int .i64 0), (.int .i64 0)]),false,[]⟩]) (.seq (.region [
 ⟨some 8,none,.p (.mov (.t 0)),false,[]⟩,
 ⟨some 9,none,.p (.mov (.t 1)),false,[]⟩,
 ⟨some 10,none,.p (.build [(.int .u8 0), (.int .i64 0)] [(0, 1, (.t 8)), (1, 1, (.t 9))]),false,[]⟩,
 ⟨some 11,none,.h (.call 26 [(.t 10)]),false,[]⟩,
 ⟨some 7,none,.p (.mov (.t 11)),false,[]⟩,
 ⟨some 12,none,.p (.ext 0 (.t 7)),false,[]⟩,
 ⟨some 13,none,.p (.ext 1 (.t 7)),false,[]⟩,
 ⟨some 5,none,.h (.alloc [(.int .u8 0), (.int .i64 0), (.int .i64 0)]),false,[]⟩,
 ⟨none,none,.h (.store 3 (.t 5) (.t 12)),false,[]⟩,
 ⟨some 6,none,.p (.mov (.t 13)),false,[]⟩]) (.seq (.region [
 ⟨some 14,none,.h (.load true 3 (.t 5)),false,[]⟩,
 ⟨none,none,.h (.store 3 (.t 4) (.t 14)),false,[]⟩]) .ret)))⟩
theorem k40_ok : cfn Tryd.prog gl Tryd.f40 = some k40 := by kernel_rfl
def k41 : CFn := ⟨32, [(.cell 4 true 4)], (.seq (.region [
 ⟨some 2,none,.h (.box (.t 0)),false,[]⟩,
 ⟨some 3,none,.h (.box (.t 1)),false,[]⟩,
 ⟨some 4,none,.h (.alloc [(.int .i64 0), (.int .i64 0), (.int .i64 0), (.int .i64 0)]),false,[]⟩]) (.seq (.region [
 ⟨some 10,none,.h (.load true 4 (.t 3)),false,[]⟩,
 ⟨some 11,none,.p (.fad 0 (.t 2)),false,[]⟩,
 ⟨some 12,none,.h (.load false 1 (.t 11)),false,[]⟩,
 ⟨some 13,none,.p (.fad 2 (.t 2)),false,[]⟩,
 ⟨some 14,none,.h (.load false 1 (.t 13)),false,[]⟩,
 ⟨some 15,none,.h (.call 37 [(.t 10), (.t 12), (.t 14)]),false,[]⟩,
 ⟨some 9,none,.p (.mov (.t 15)),false,[]⟩,
 ⟨some 16,none,.p (.ext 0 (.t 9)),false,[]⟩,
 ⟨some 17,none,.p (.ext 1 (.t 9)),false,[]⟩,
 ⟨some 5,none,.p (.mov (.t 16)),false,[]⟩,
 ⟨some 6,none,.p (.mov (.t 17)),false,[]⟩]) (.seq (.region [
 ⟨some 19,none,.h (.load true 4 (.t 3)),false,[]⟩,
 ⟨some 20,none,.p (.fad 1 (.t 2)),false,[]⟩,
 ⟨some 21,none,.h (.load false 1 (.t 20)),false,[]⟩,
 ⟨some 22,none,.p (.fad 3 (.t 2)),false,[]⟩,
 ⟨some 23,none,.h (.load false 1 (.t 22)),false,[]⟩,
 ⟨some 24,none,.h (.call 37 [(.t 19), (.t 21), (.t 23)]),false,[]⟩,
 ⟨some 18,none,.p (.mov (.t 24)),false,[]⟩,
 ⟨some 25,none,.p (.ext 0 (.t 18)),false,[]⟩,
 ⟨some 26,none,.p (.ext 1 (.t 18)),false,[]⟩,
 ⟨some 7,none,.p (.mov (.t 25)),false,[]⟩,
 ⟨some 8,none,.p (.mov (.t 26)),false,[]⟩]) (.seq (.region [
 ⟨some 27,none,.p (.mov (.t 5)),false,[]⟩,
 ⟨some 28,none,.p (.mov (.t 7)),false,[]⟩,
 ⟨some 29,none,.p (.mov (.t 6)),false,[]⟩,
 ⟨some 30,none,.p (.mov (.t 8)),false,[]⟩,
 ⟨some 31,none,.p (.build [(.int .i64 0), (.int .i64 0), (.int .i64 0), (.int .i64 0)] [(0, 1, (.t 27)), (1, 1, (.t 28)), (2, 1, (.t 29)), (3, 1, (.t 30))]),false,[]⟩,
 ⟨none,none,.h (.store 4 (.t 4) (.t 31)),false,[]⟩]) .ret))))⟩
theorem k41_ok : cfn Tryd.prog gl Tryd.f41 = some k41 := by kernel_rfl
def k42 : CFn := ⟨21, [(.t 2)], (.seq (.region [
 ⟨some 1,none,.h (.box (.t 0)),false,[]⟩,
 ⟨some 2,none,.p (.mov (.c (.int .i64 0))),false,[]⟩]) (.seq (.seq (.region [
 ⟨some 3,none,.p (.fad 0 (.t 1)),false,[]⟩,
 ⟨some 4,none,.h (.load false 1 (.t 3)),false,[]⟩,
 ⟨some 5,none,.p (.bin .lss (.t 4) (.c (.int .i64 (-65536)))),false,[]⟩,
 ⟨some 6,none,.p (.mov (.t 5)),false,[]⟩,
 ⟨some 7,(some (6, false)),.p (.fad 0 (.t 1)),false,[]⟩,
 ⟨some 8,(some (6, false)),.h (.load false 1 (.t 7)),false,[]⟩,
 ⟨some 9,(some (6, false)),.p (.bin .gtr (.t 8) (.c (.int .i64 65536))),false,[]⟩,
 ⟨some 10,none,.p (.pick (.t 6) (.c (.bool true)) (.t 9)),false,[]⟩,
 ⟨some 11,none,.p (.mov (.t 10)),false,[]⟩,
 ⟨some 12,(some (11, false)),.p (.fad 1 (.t 1)),false,[]⟩,
 ⟨some 13,(some (11, false)),.h (.load false 1 (.t 12)),false,[]⟩,
 ⟨some 14,(some (11, false)),.p (.bin .lss (.t 13) (.c (.int .i64 (-65536)))),false,[]⟩,
 ⟨some 15,none,.p (.pick (.t 11) (.c (.bool true)) (.t 14)),false,[]⟩,
 ⟨some 16,none,.p (.mov (.t 15)),false,[]⟩,
 ⟨some 17,(some (16, false)),.p (.fad 1 (.t 1)),false,[]⟩,
 ⟨some 18,(some (16, false)),.h (.load false 1 (.t 17)),false,[]⟩,
 ⟨some 19,(some (16, false)),.p (.bin .gtr (.t 18) (.c (.int .i64 65536))),false,[]⟩,
 ⟨some 20,none,.p (.pick (.t 16) (.c (.bool true)) (.t 19)),false,[]⟩]) (.cond (.t 20) (.seq (.region [
 ⟨some 2,none,.p (.mov (.c (.int .i64 1))),false,[]⟩]) .ret) .skip)) (.seq (.region [
 ⟨some 2,none,.p (.mov (.c (.int .i64 0))),false,[]⟩]) .ret)))⟩
theorem k42_ok : cfn Tryd.prog gl Tryd.f42 = some k42 := by kernel_rfl
def k43 : CFn := ⟨16, [(.t 2), (.t 3)], (.seq (.region [
 ⟨some 2,none,.p (.mov (.c (.int .i64 0))),false,[]⟩,
 ⟨some 3,none,.p (.mov (.c (.int .i64 0))),false,[]⟩]) (.seq (.region [
 ⟨some 5,none,.p (.build [(.int .i64 0), (.int .i64 0)] [(0, 1, (.c (.int .i64 1))), (1, 1, (.c (.int .i64 0)))]),false,[]⟩,
 ⟨some 6,none,.p (.build [(.int .i64 0), (.int .i64 0)] [(0, 1, (.c (.int .i64 0))), (1, 1, (.c (.int .i64 1)))]),false,[]⟩,
 ⟨some 7,none,.p (.build [(.int .i64 0), (.int .i64 0)] [(0, 1, (.c (.int .i64 1))), (1, 1, (.c (.int .i64 1)))]),false,[]⟩,
 ⟨some 8,none,.p (.build [(.int .i64 0), (.int .i64 0)] [(0, 1, (.c (.int .i64 (-1)))), (1, 1, (.c (.int .i64 1)))]),false,[]⟩,
 ⟨some 9,none,.p (.build [(.int .i64 0), (.int .i64 0), (.int .i64 0), (.int .i64 0), (.int .i64 0), (.int .i64 0), (.int .i64 0), (.int .i64 0), (.int .i64 0), (.int .i64 0)] [(2, 2, (.t 5)), (4, 2, (.t 6)), (6, 2, (.t 7)), (8, 2, (.t 8))]),false,[]⟩,
 ⟨some 10,none,.p (.mov (.t 0)),false,[]⟩,
 ⟨some 11,none,.p (.idxA true 5 2 (.t 9) (.t 10)),false,[]⟩,
 ⟨some 4,none,.h (.alloc [(.int .i64 0), (.int .i64 0)]),false,[]⟩,
 ⟨none,none,.h (.store 2 (.t 4) (.t 11)),false,[]⟩]) (.seq (.region [
 ⟨some 12,none,.p (.iadA 2 1 (.t 4) (.c (.int .i64 0))),false,[]⟩,
 ⟨some 13,none,.h (.load false 1 (.t 12)),true,[]⟩,
 ⟨some 14,none,.p (.iadA 2 1 (.t 4) (.c (.int .i64 1))),false,[]⟩,
 ⟨some 15,none,.h (.load false 1 (.t 14)),true,[]⟩,
 ⟨some 2,none,.p (.mov (.t 13)),false,[]⟩,
 ⟨some 3,none,.p (.mov (.t 15)),false,[]⟩]) .ret)))⟩
theorem k43_ok : cfn Tryd.prog gl Tryd.f43 = some k43 := by kernel_rfl
def k44 : CFn := ⟨53, [(.cell 2 true 2), (.cell 3 true 2)], (.seq (.region [
 ⟨some 1,none,.h (.box (.t 0)),false,[]⟩,
 ⟨some 2,none,.h (.alloc [(.int .i64 0), (.int .i64 0)]),false,[]⟩,
 ⟨some 3,none,.h (.alloc [(.int .i64 0), (.int .i64 0)]),false,[]⟩]) (.seq (.region [
 ⟨some 8,none,.p (.fad 0 (.t 1)),false,[]⟩,
 ⟨some 9,none,.h (.load false 1 (.t 8)),false,[]⟩,
 ⟨some 10,none,.h (.call 45 [(.t 9)]),false,[]⟩,
 ⟨some 7,none,.p (.mov (.t 10)),false,[]⟩,
 ⟨some 11,none,.p (.ext 0 (.t 7)),false,[]⟩,
 ⟨some 12,none,.p (.ext 1 (.t 7)),false,[]⟩,
 ⟨some 4,none,.p (.mov (.t 11)),false,[]⟩,
 ⟨some 5,none,.p (.mov (.t 12)),false,[]⟩]) (.seq (.region [
 ⟨some 13,none,.p (.fad 1 (.t 1)),false,[]⟩,
 ⟨some 14,none,.h (.load false 1 (.t 13)),false,[]⟩,
 ⟨some 15,none,.p (.bin .mul (.c (.int .i64 2)) (.t 14)),false,[]⟩,
 ⟨some 16,none,.p (.mov (.t 4)),false,[]⟩,
 ⟨some 17,none,.p (.bin .mul (.t 15) (.t 16)),false,[]⟩,
 ⟨some 18,none,.p (.fad 1 (.t 1)),false,[]⟩,
 ⟨some 19,none,.h (.load false 1 (.t 18)),false,[]⟩,
 ⟨some 20,none,.p (.bin .mul (.c (.int .i64 2)) (.t 19)),false,[]⟩,
 ⟨some 21,none,.p (.mov (.t 5)),false,[]⟩,
 ⟨some 22,none,.p (.bin .mul (.t 20) (.t 21)),false,[]⟩,
 ⟨some 23,none,.p (.build [(.int .i64 0), (.int .i64 0)] [(0, 1, (.t 17)), (1, 1, (.t 22))]),false,[]⟩,
 ⟨some 6,none,.h (.alloc [(.int .i64 0), (.int .i64 0)]),false,[]⟩,
 ⟨none,none,.h (.store 2 (.t 6) (.t 23)),false,[]⟩]) (.seq (.seq (.region [
 ⟨some 24,none,.p (.mov (.t 4)),false,[]⟩,
 ⟨some 25,none,.p (.mov (.t 4)),false,[]⟩,
 ⟨some 26,none,.p (.bin .mul (.t 24) (.t 25)),false,[]⟩,
 ⟨some 27,none,.p (.mov (.t 5)),false,[]⟩,
 ⟨some 28,none,.p (.mov (.t 5)),false,[]⟩,
 ⟨some 29,none,.p (.bin .mul (.t 27) (.t 28)),false,[]⟩,
 ⟨some 30,none,.p (.bin .add (.t 26) (.t 29)),false,[]⟩,
 ⟨some 31,none,.p (.bin .eql (.t 30) (.c (.int .i64 2))),false,[]⟩]) (.cond (.t 31) (.region [
 ⟨some 32,none,.p (.fad 1 (.t 1)),false,[]⟩,
 ⟨some 33,none,.h (.load false 1 (.t 32)),false,[]⟩,
 ⟨some 34,none,.p (.mov (.t 4)),false,[]⟩,
 ⟨some 35,none,.p (.bin .mul (.t 33) (.t 34)),false,[]⟩,
 ⟨some 36,none,.p (.fad 1 (.t 1)),false,[]⟩,
 ⟨some 37,none,.h (.load false 1 (.t 36)),false,[]⟩,
 ⟨some 38,none,.p (.mov (.t 5)),false,[]⟩,
 ⟨some 39,none,.p (.bin .mul (.t 37) (.t 38)),false,[]⟩,
 ⟨some 40,none,.p (.build [(.int .i64 0), (.int .i64 0)] [(0, 1, (.t 35)), (1, 1, (.t 39))]),false,[]⟩,
 ⟨none,none,.h (.store 2 (.t 6) (.t 40)),false,[]⟩]) .skip)) (.seq (.region [
 ⟨some 41,none,.h (.load true 2 (.t 6)),true,[]⟩,
 ⟨some 42,none,.p (.fad 0 (.t 6)),false,[]⟩,
 ⟨some 43,none,.h (.load false 1 (.t 42)),true,[]⟩,
 ⟨some 44,none,.p (.mov (.t 5)),false,[]⟩,
 ⟨some 45,none,.p (.bin .mul (.c (.int .i64 2)) (.t 44)),false,[]⟩,
 ⟨some 46,none,.p (.bin .sub (.t 43) (.t 45)),false,[]⟩,
 ⟨some 47,none,.p (.fad 1 (.t 6)),false,[]⟩,
 ⟨some 48,none,.h (.load false 1 (.t 47)),true,[]⟩,
 ⟨some 49,none,.p (.mov (.t 4)),false,[]⟩,
 ⟨some 50,none,.p (.bin .mul (.c (.int .i64 2)) (.t 49)),false,[]⟩,
 ⟨some 51,none,.p (.bin .add (.t 48) (.t 50)),false,[]⟩,
 ⟨some 52,none,.p (.build [(.int .i64 0), (.int .i64 0)] [(0, 1, (.t 46)), (1, 1, (.t 51))]),false,[]⟩,
 ⟨none,none,.h (.store 2 (.t 2) (.t 41)),false,[(.t 42), (.t 47)]⟩,
 ⟨none,none,.h (.store 2 (.t 3) (.t 52)),false,[]⟩]) .ret)))))⟩
theorem k44_ok : cfn Tryd.prog gl Tryd.f44 = some k44 := by kernel_rfl
def k45 : CFn := ⟨10, [(.t 2), (.t 3)], (.seq (.region [
 ⟨some 2,none,.p (.mov (.c (.int .i64 0))),false,[]⟩,
 ⟨some 3,none,.p (.mov (.c (.int .i64 0))),false,[]⟩]) (.seq (.seq (.region [
 ⟨some 4,none,.p (.mov (.t 0)),false,[]⟩,
 ⟨some 5,none,.p (.bin .eql (.t 4) (.c (.int .u8 1))),false,[]⟩]) (.cond (.t 5) (.seq (.region [
 ⟨some 2,none,.p (.mov (.c (.int .i64 1))),false,[]⟩,
 ⟨some 3,none,.p (.mov (.c (.int .i64 0))),false,[]⟩]) .ret) .skip)) (.seq (.seq (.region [
 ⟨some 6,none,.p (.mov (.t 0)),false,[]⟩,
 ⟨some 7,none,.p (.bin .eql (.t 6) (.c (.int .u8 2))),false,[]⟩]) (.cond (.t 7) (.seq (.region [
 ⟨some 2,none,.p (.mov (.c (.int .i64 0))),false,[]⟩,
 ⟨some 3,none,.p (.mov (.c (.int .i64 1))),false,[]⟩]) .ret) .skip)) (.seq (.seq (.region [
 ⟨some 8,none,.p (.mov (.t 0)),false,[]⟩,
 ⟨some 9,none,.p (.bin .eql (.t 8) (.c (.int .u8 3))),false,[]⟩]) (.cond (.t 9) (.seq (.region [
 ⟨some 2,none,.p (.mov (.c (.int .i64 1))),false,[]⟩,
 ⟨some 3,none,.p (.mov (.c (.int .i64 1))),false,[]⟩]) .ret) .skip)) (.seq (.region [
 ⟨some 2,none,.p (.mov (.c (.int .i64 (-1)))),false,[]⟩,
 ⟨some 3,none,.p (.mov (.c (.int .i64 1))),false,[]⟩]) .ret)))))⟩
theorem k45_ok : cfn Tryd.prog gl Tryd.f45 = some k45 := by kernel_rfl
def k46 : CFn := ⟨42, [(.cell 6 true 3)], (.seq (.region [
 ⟨some 3,none,.h (.box (.t 0)),false,[]⟩,
 ⟨some 4,none,.h (.box (.t 1)),false,[]⟩,
 ⟨some 5,none,.h (.box (.t 2)),false,[]⟩,
 ⟨some 6,none,.h (.alloc [(.int .u8 0), (.int .i64 0), (.int .i64 0)]),false,[]⟩]) (.seq (.seq (.region [
 ⟨some 7,none,.p (.mov (.c (.int .u8 0))),false,[]⟩]) (.block 0 (.loop (.seq (.seq (.region [
 ⟨some 9,none,.p (.mov (.t 7)),false,[]⟩,
 ⟨some 10,none,.p (.bin .lss (.t 9) (.c (.int .u8 8))),false,[]⟩]) (.cond (.t 10) .skip (.exit 0))) (.seq (.block 1 (.seq (.region [
 ⟨some 13,none,.p (.mov (.t 7)),false,[]⟩,
 ⟨some 14,none,.p (.fad 0 (.t 3)),false,[]⟩,
 ⟨some 15,none,.h (.load false 1 (.t 14)),false,[]⟩,
 ⟨some 16,none,.p (.bin .quo (.t 15) (.c (.int .i64 2))),false,[]⟩,
 ⟨some 17,none,.p (.fad 1 (.t 3)),false,[]⟩,
 ⟨some 18,none,.h (.load false 1 (.t 17)),false,[]⟩,
 ⟨some 19,none,.p (.bin .quo (.t 18) (.c (.int .i64 2))),false,[]⟩,
 ⟨some 20,none,.p (.build [(.int .u8 0), (.int .i64 0), (.int .i64 0)] [(0, 1, (.t 13)), (1, 1, (.t 16)), (2, 1, (.t 19))]),false,[]⟩,
 ⟨some 8,none,.h (.alloc [(.int .u8 0), (.int .i64 0), (.int .i64 0)]),false,[]⟩,
 ⟨none,none,.h (.store 3 (.t 8) (.t 20)),false,[]⟩]) (.seq (.region [
 ⟨some 21,none,.h (.load true 3 (.t 8)),true,[]⟩,
 ⟨some 22,none,.p (.build [(.int .i64 0), (.int .i64 0)] [(0, 1, (.c (.int .i64 2)))]),false,[]⟩,
 ⟨some 23,none,.h (.call 20 [(.t 21), (.t 22)]),true,[]⟩,
 ⟨some 24,none,.h (.load true 2 (.t 4)),true,[]⟩,
 ⟨some 25,none,.p (.eqf false true [1, 1] (.t 23) (.t 24)),false,[]⟩,
 ⟨some 26,none,.p (.mov (.t 25)),false,[]⟩,
 ⟨some 27,(some (26, true)),.h (.load true 3 (.t 8)),true,[]⟩,
 ⟨some 28,(some (26, true)),.p (.build [(.int .i64 0), (.int .i64 0)] [(1, 1, (.c (.int .i64 2)))]),false,[]⟩,
 ⟨some 29,(some (26, true)),.h (.call 20 [(.t 27), (.t 28)]),true,[]⟩,
 ⟨some 30,(some (26, true)),.h (.load true 2 (.t 5)),true,[]⟩,
 ⟨some 31,(some (26, true)),.p (.eqf false true [1, 1] (.t 29) (.t 30)),false,[]⟩,
 ⟨some 32,none,.p (.pick (.t 26) (.t 31) (.c (.bool false))),false,[]⟩,
 ⟨some 33,none,.p (.mov (.t 32)),false,[]⟩,
 ⟨some 34,(some (33, true)),.h (.load true 3 (.t 8)),true,[]⟩,
 ⟨some 35,(some (33, true)),.p (.build [(.int .i64 0), (.int .i64 0)] []),false,[]⟩,
 ⟨some 36,(some (33, true)),.h (.call 20 [(.t 34), (.t 35)]),true,[]⟩,
 ⟨some 37,(some (33, true)),.h (.load true 2 (.t 3)),true,[]⟩,
 ⟨some 38,(some (33, true)),.p (.eqf false true [1, 1] (.t 36) (.t 37)),false,[]⟩,
 ⟨some 39,none,.p (.pick (.t 33) (.t 38) (.c (.bool false))),false,[]⟩]) (.cond (.t 39) (.seq (.region [
 ⟨some 40,none,.h (.load true 3 (.t 8)),false,[]⟩,
 ⟨none,none,.h (.store 3 (.t 6) (.t 40)),false,[]⟩]) .ret) .skip)))) (.region [
 ⟨some 11,none,.p (.mov (.t 7)),false,[]⟩,
 ⟨some 12,none,.p (.bin .add (.t 11) (.c (.int .u8 1))),false,[]⟩,
 ⟨some 7,none,.p (.mov (.t 12)),false,[]⟩])))))) (.seq (.region [
 ⟨some 41,none,.p (.build [(.int .u8 0), (.int .i64 0), (.int .i64 0)] [(0, 1, (.c (.int .u8 8)))]),false,[]⟩,
 ⟨none,none,.h (.store 3 (.t 6) (.t 41)),false,[]⟩]) .ret)))⟩
theorem k46_ok : cfn Tryd.prog gl Tryd.f46 = some k46 := by kernel_rfl
def k47 : CFn := ⟨26, [(.t 2)], (.seq (.region [
 ⟨some 2,none,.p (.mov (.c (.str []))),false,[]⟩]) (.seq (.seq (.region [
 ⟨some 3,none,.p (.mov (.t 0)),false,[]⟩,
 ⟨some 4,none,.p (.bin .lss (.t 3) (.c (.int .i64 0))),false,[]⟩]) (.cond (.t 4) (.seq (.region [
 ⟨some 5,none,.p (.mov (.t 0)),false,[]⟩,
 ⟨some 6,none,.p (.neg (.t 5)),false,[]⟩,
 ⟨some 7,none,.h (.call 47 [(.t 6)]),false,[]⟩,
 ⟨some 8,none,.p (.bin .add (.c (.str [45])) (.t 7)),false,[]⟩,
 ⟨some 2,none,.p (.mov (.t 8)),false,[]⟩]) .ret) .skip)) (.seq (.seq (.region [
 ⟨some 9,none,.p (.mov (.t 0)),false,[]⟩,
 ⟨some 10,none,.p (.bin .lss (.t 9) (.c (.int .i64 10))),false,[]⟩]) (.cond (.t 10) (.seq (.region [
 ⟨some 11,none,.p (.mov (.t 0)),false,[]⟩,
 ⟨some 12,none,.p (.bin .add (.c (.int .i64 48)) (.t 11)),false,[]⟩,
 ⟨some 13,none,.p (.cvi .u8 (.t 12)),false,[]⟩,
 ⟨some 14,none,.h (.bsl 1 1 [(.int .u8 0)] [(0, 1, (.t 13))]),false,[]⟩,
 ⟨some 15,none,.h (.b2s (.t 14)),false,[]⟩,
 ⟨some 2,none,.p (.mov (.t 15)),false,[]⟩]) .ret) .skip)) (.seq (.region [
 ⟨some 16,none,.p (.mov (.t 0)),false,[]⟩,
 ⟨some 17,none,.p (.bin .quo (.t 16) (.c (.int .i64 10))),false,[]⟩,
 ⟨some 18,none,.h (.call 47 [(.t 17)]),true,[]⟩,
 ⟨some 19,none,.p (.mov (.t 0)),false,[]⟩,
 ⟨some 20,none,.p (.bin .rem (.t 19) (.c (.int .i64 10))),false,[]⟩,
 ⟨some 21,none,.p (.bin .add (.c (.int .i64 48)) (.t 20)),false,[]⟩,
 ⟨some 22,none,.p (.cvi .u8 (.t 21)),false,[]⟩,
 ⟨some 23,none,.h (.bsl 1 1 [(.int .u8 0)] [(0, 1, (.t 22))]),true,[]⟩,
 ⟨some 24,none,.h (.b2s (.t 23)),true,[]⟩,
 ⟨some 25,none,.p (.bin .add (.t 18) (.t 24)),false,[]⟩,
 ⟨some 2,none,.p (.mov (.t 25)),false,[]⟩]) .ret))))⟩
theorem k47_ok : cfn Tryd.prog gl Tryd.f47 = some k47 := by kernel_rfl
def k48 : CFn := ⟨8, [(.t 4)], (.seq (.region [
 ⟨some 4,none,.p (.mov (.c .nils)),false,[]⟩]) (.seq (.region [
 ⟨some 5,none,.p (.mov (.t 0)),false,[]⟩,
 ⟨some 6,none,.p (.mov (.t 1)),false,[]⟩,
 ⟨some 7,none,.h (.call 54 [(.t 5), (.t 6), (.c (.int .i64 0)), (.c (.int .i64 (-1)))]),false,[]⟩,
 ⟨some 4,none,.p (.mov (.t 7)),false,[]⟩]) .ret))⟩
theorem k48_ok : cfn Tryd.prog gl Tryd.f48 = some k48 := by kernel_rfl
def k49 : CFn := ⟨26, [(.t 6), (.t 7)], (.seq (.region [
 ⟨some 6,none,.p (.mov (.c (.int .u64 0))),false,[]⟩,
 ⟨some 7,none,.p (.mov (.c .nili)),false,[]⟩]) (.seq (.region [
 ⟨some 11,none,.p (.mov (.t 0)),false,[]⟩,
 ⟨some 12,none,.p (.mov (.t 1)),false,[]⟩,
 ⟨some 13,none,.p (.mov (.t 2)),false,[]⟩,
 ⟨some 14,none,.h (.call 55 [(.t 11), (.t 12), (.t 13)]),false,[]⟩,
 ⟨some 10,none,.p (.mov (.t 14)),false,[]⟩,
 ⟨some 15,none,.p (.ext 0 (.t 10)),false,[]⟩,
 ⟨some 16,none,.p (.ext 1 (.t 10)),false,[]⟩,
 ⟨some 8,none,.p (.mov (.t 15)),false,[]⟩,
 ⟨some 9,none,.p (.mov (.t 16)),false,[]⟩]) (.seq (.seq (.region [
 ⟨some 17,none,.p (.mov (.t 9)),false,[]⟩,
 ⟨some 18,none,.p (.eqn true 0 (.t 17) (.c .nili)),false,[]⟩]) (.cond (.t 18) (.seq (.region [
 ⟨some 19,none,.p (.mov (.t 8)),false,[]⟩,
 ⟨some 20,none,.p (.mov (.t 0)),false,[]⟩,
 ⟨some 21,none,.p (.mov (.t 1)),false,[]⟩,
 ⟨some 22,none,.p (.mov (.t 2)),false,[]⟩,
 ⟨some 23,none,.p (.mov (.t 9)),false,[]⟩,
 ⟨some 24,none,.h (.call 56 [(.c (.str [80, 97, 114, 115, 101, 85, 105, 110, 116])), (.t 20), (.t 21), (.t 22), (.t 23)]),false,[]⟩,
 ⟨some 6,none,.p (.mov (.t 19)),false,[]⟩,
 ⟨some 7,none,.p (.mov (.t 24)),false,[]⟩]) .ret) .skip)) (.seq (.region [
 ⟨some 25,none,.p (.mov (.t 8)),false,[]⟩,
 ⟨some 6,none,.p (.mov (.t 25)),false,[]⟩,
 ⟨some 7,none,.p (.mov (.c .nili)),false,[]⟩]) .ret))))⟩
theorem k49_ok : cfn Tryd.prog gl Tryd.f49 = some k49 := by kernel_rfl
def k50 : CFn := ⟨18, [(.t 2), (.t 3)], (.seq (.region [
 ⟨some 2,none,.p (.mov (.c (.int .i64 0))),false,[]⟩,
 ⟨some 3,none,.p (.mov (.c .nili)),false,[]⟩]) (.seq (.region [
 ⟨some 7,none,.p (.mov (.t 0)),false,[]⟩,
 ⟨some 8,none,.h (.call 57 [(.t 7)]),false,[]⟩,
 ⟨some 6,none,.p (.mov (.t 8)),false,[]⟩,
 ⟨some 9,none,.p (.ext 0 (.t 6)),false,[]⟩,
 ⟨some 10,none,.p (.ext 1 (.t 6)),false,[]⟩,
 ⟨some 4,none,.p (.mov (.t 9)),false,[]⟩,
 ⟨some 5,none,.p (.mov (.t 10)),false,[]⟩]) (.seq (.seq (.region [
 ⟨some 11,none,.p (.mov (.t 5)),false,[]⟩,
 ⟨some 12,none,.p (.eqn true 0 (.t 11) (.c .nili)),false,[]⟩]) (.cond (.t 12) (.seq (.region [
 ⟨some 13,none,.p (.mov (.t 4)),false,[]⟩,
 ⟨some 14,none,.p (.mov (.t 0)),false,[]⟩,
 ⟨some 15,none,.p (.mov (.t 5)),false,[]⟩,
 ⟨some 16,none,.h (.call 56 [(.c (.str [65, 116, 111, 105])), (.t 14), (.c (.int .i64 0)), (.c (.int .i64 0)), (.t 15)]),false,[]⟩,
 ⟨some 2,none,.p (.mov (.t 13)),false,[]⟩,
 ⟨some 3,none,.p (.mov (.t 16)),false,[]⟩]) .ret) .skip)) (.seq (.region [
 ⟨some 17,none,.p (.mov (.t 4)),false,[]⟩,
 ⟨some 2,none,.p (.mov (.t 17)),false,[]⟩,
 ⟨some 3,none,.p (.mov (.c .nili)),false,[]⟩]) .ret))))⟩
theorem k50_ok : cfn Tryd.prog gl Tryd.f50 = some k50 := by kernel_rfl
def k51 : CFn := ⟨5, [(.t 2)], (.seq (.region [
 ⟨some 2,none,.p (.mov (.c (.str []))),false,[]⟩]) (.seq (.region [
 ⟨some 3,none,.p (.mov (.t 0)),false,[]⟩,
 ⟨some 4,none,.h (.call 58 [(.t 3)]),false,[]⟩,
 ⟨some 2,none,.p (.mov (.t 4)),false,[]⟩]) .ret))⟩
theorem k51_ok : cfn Tryd.prog gl Tryd.f51 = some k51 := by kernel_rfl
def k52 : CFn := ⟨26, [(.t 4)], (.seq (.region [
 ⟨some 2,none,.h (.box (.t 0)),false,[]⟩,
 ⟨some 3,none,.h (.box (.t 1)),false,[]⟩,
 ⟨some 4,none,.p (.mov (.c (.int .i64 0))),false,[]⟩]) (.seq (.region [
 ⟨some 8,none,.p (.fad 0 (.t 2)),false,[]⟩,
 ⟨some 9,none,.h (.load false 1 (.t 8)),false,[]⟩,
 ⟨some 10,none,.h (.call 45 [(.t 9)]),false,[]⟩,
 ⟨some 7,none,.p (.mov (.t 10)),false,[]⟩,
 ⟨some 11,none,.p (.ext 0 (.t 7)),false,[]⟩,
 ⟨some 12,none,.p (.ext 1 (.t 7)),false,[]⟩,
 ⟨some 5,none,.p (.mov (.t 11)),false,[]⟩,
 ⟨some 6,none,.p (.mov (.t 12)),false,[]⟩]) (.seq (.region [
 ⟨some 13,none,.p (.mov (.t 5)),false,[]⟩,
 ⟨some 14,none,.p (.fad 0 (.t 3)),false,[]⟩,
 ⟨some 15,none,.h (.load false 1 (.t 14)),false,[]⟩,
 ⟨some 16,none,.p (.bin .mul (.t 13) (.t 15)),false,[]⟩,
 ⟨some 17,none,.p (.mov (.t 6)),false,[]⟩,
 ⟨some 18,none,.p (.fad 1 (.t 3)),false,[]⟩,
 ⟨some 19,none,.h (.load false 1 (.t 18)),false,[]⟩,
 ⟨some 20,none,.p (.bin .mul (.t 17) (.t 19)),false,[]⟩,
 ⟨some 21,none,.p (.bin .add (.t 16) (.t 20)),false,[]⟩,
 ⟨some 22,none,.p (.fad 1 (.t 2)),false,[]⟩,
 ⟨some 23,none,.h (.load false 1 (.t 22)),false,[]⟩,
 ⟨some 24,none,.p (.bin .mul (.c (.int .i64 2)) (.t 23)),false,[]⟩,
 ⟨some 25,none,.p (.bin .sub (.t 21) (.t 24)),false,[]⟩,
 ⟨some 4,none,.p (.mov (.t 25)),false,[]⟩]) .ret)))⟩
theorem k52_ok : cfn Tryd.prog gl Tryd.f52 = some k52 := by kernel_rfl
def k53 : CFn := ⟨9, [(.t 2)], (.seq (.region [
 ⟨some 2,none,.p (.mov (.c (.bool false))),false,[]⟩]) (.seq (.region [
 ⟨some 3,none,.p (.mov (.t 0)),false,[]⟩,
 ⟨some 4,none,.p (.bin .lss (.t 3) (.c (.int .i64 (-16384)))),false,[]⟩,
 ⟨some 5,none,.p (.mov (.t 4)),false,[]⟩,
 ⟨some 6,(some (5, false)),.p (.mov (.t 0)),false,[]⟩,
 ⟨some 7,(some (5, false)),.p (.bin .gtr (.t 6) (.c (.int .i64 16384))),false,[]⟩,
 ⟨some 8,none,.p (.pick (.t 5) (.c (.bool true)) (.t 7)),false,[]⟩,
 ⟨some 2,none,.p (.mov (.t 8)),false,[]⟩]) .ret))⟩
theorem k53_ok : cfn Tryd.prog gl Tryd.f53 = some k53 := by kernel_rfl
def k54 : CFn := ⟨66, [(.t 8)], (.seq (.region [
 ⟨some 8,none,.p (.mov (.c .nils)),false,[]⟩]) (.seq (.seq (.region [
 ⟨some 12,none,.p (.mov (.t 3)),false,[]⟩,
 ⟨some 13,none,.p (.bin .eql (.t 12) (.c (.int .i64 0))),false,[]⟩]) (.cond (.t 13) (.seq (.region [
 ⟨some 8,none,.p (.mov (.c .nils)),false,[]⟩]) .ret) .skip)) (.seq (.seq (.region [
 ⟨some 14,none,.p (.mov (.t 1)),false,[]⟩,
 ⟨some 15,none,.p (.bin .eql (.t 14) (.c (.str []))),false,[]⟩]) (.cond (.t 15) (.seq (.region [
 ⟨some 16,none,.p (.mov (.t 0)),false,[]⟩,
 ⟨some 17,none,.p (.mov (.t 3)),false,[]⟩,
 ⟨some 18,none,.h (.call 59 [(.t 16), (.t 17)]),false,[]⟩,
 ⟨some 8,none,.p (.mov (.t 18)),false,[]⟩]) .ret) .skip)) (.seq (.seq (.region [
 ⟨some 19,none,.p (.mov (.t 3)),false,[]⟩,
 ⟨some 20,none,.p (.bin .lss (.t 19) (.c (.int .i64 0))),false,[]⟩]) (.cond (.t 20) (.region [
 ⟨some 21,none,.p (.mov (.t 0)),false,[]⟩,
 ⟨some 22,none,.p (.mov (.t 1)),false,[]⟩,
 ⟨some 23,none,.h (.call 60 [(.t 21), (.t 22)]),false,[]⟩,
 ⟨some 24,none,.p (.bin .add (.t 23) (.c (.int .i64 1))),false,[]⟩,
 ⟨some 3,none,.p (.mov (.t 24)),false,[]⟩]) .skip)) (.seq (.region [
 ⟨some 25,none,.p (.mov (.t 3)),false,[]⟩,
 ⟨some 26,none,.p (.mov (.t 0)),false,[]⟩,
 ⟨some 27,none,.p (.lenS (.t 26)),false,[]⟩,
 ⟨some 28,none,.p (.bin .add (.t 27) (.c (.int .i64 1))),false,[]⟩,
 ⟨some 29,none,.p (.mins (.t 25) [(.t 28)]),false,[]⟩,
 ⟨some 3,none,.p (.mov (.t 29)),false,[]⟩]) (.seq (.region [
 ⟨some 30,none,.p (.mov (.t 3)),false,[]⟩,
 ⟨some 31,none,.h (.mksl 1 16 [(.str [])] (.t 30) (.t 30)),false,[]⟩,
 ⟨some 9,none,.p (.mov (.t 31)),false,[]⟩]) (.seq (.region [
 ⟨some 32,none,.p (.mov (.t 3)),false,[]⟩,
 ⟨some 33,none,.p (.bin .sub (.t 32) (.c (.int .i64 1))),false,[]⟩,
 ⟨some 3,none,.p (.mov (.t 33)),false,[]⟩]) (.seq (.region [
 ⟨some 10,none,.p (.mov (.c (.int .i64 0))),false,[]⟩]) (.seq (.block 0 (.loop (.seq (.seq (.region [
 ⟨some 34,none,.p (.mov (.t 10)),false,[]⟩,
 ⟨some 35,none,.p (.mov (.t 3)),false,[]⟩,
 ⟨some 36,none,.p (.bin .lss (.t 34) (.t 35)),false,[]⟩]) (.cond (.t 36) .skip (.exit 0))) (.block 1 (.seq (.region [
 ⟨some 37,none,.p (.mov (.t 0)),false,[]⟩,
 ⟨some 38,none,.p (.mov (.t 1)),false,[]⟩,
 ⟨some 39,none,.h (.call 61 [(.t 37), (.t 38)]),false,[]⟩,
 ⟨some 11,none,.p (.mov (.t 39)),false,[]⟩]) (.seq (.seq (.region [
 ⟨some 40,none,.p (.mov (.t 11)),false,[]⟩,
 ⟨some 41,none,.p (.bin .lss (.t 40) (.c (.int .i64 0))),false,[]⟩]) (.cond (.t 41) (.exit 0) .skip)) (.seq (.region [
 ⟨some 42,none,.p (.mov (.t 9)),false,[]⟩,
 ⟨some 43,none,.p (.mov (.t 10)),false,[]⟩,
 ⟨some 44,none,.p (.mov (.t 0)),false,[]⟩,
 ⟨some 45,none,.p (.mov (.t 11)),false,[]⟩,
 ⟨some 46,none,.p (.mov (.t 2)),false,[]⟩,
 ⟨some 47,none,.p (.bin .add (.t 45) (.t 46)),false,[]⟩,
 ⟨some 48,none,.p (.slT (.t 44) none (some (.t 47))),false,[]⟩,
 ⟨some 49,none,.p (.iadS 1 (.t 42) (.t 43)),false,[]⟩,
 ⟨none,none,.h (.store 1 (.t 49) (.t 48)),false,[]⟩]) (.seq (.region [
 ⟨some 50,none,.p (.mov (.t 0)),false,[]⟩,
 ⟨some 51,none,.p (.mov (.t 11)),false,[]⟩,
 ⟨some 52,none,.p (.mov (.t 1)),false,[]⟩,
 ⟨some 53,none,.p (.lenS (.t 52)),false,[]⟩,
 ⟨some 54,none,.p (.bin .add (.t 51) (.t 53)),false,[]⟩,
 ⟨some 55,none,.p (.slT (.t 50) (some (.t 54)) none),false,[]⟩,
 ⟨some 0,none,.p (.mov (.t 55)),false,[]⟩]) (.region [
 ⟨some 56,none,.p (.mov (.t 10)),false,[]⟩,
 ⟨some 57,none,.p (.bin .add (.t 56) (.c (.int .i64 1))),false,[]⟩,
 ⟨some 10,none,.p (.mov (.t 57)),false,[]⟩]))))))))) (.seq (.region [
 ⟨some 58,none,.p (.mov (.t 9)),false,[]⟩,
 ⟨some 59,none,.p (.mov (.t 10)),false,[]⟩,
 ⟨some 60,none,.p (.mov (.t 0)),false,[]⟩,
 ⟨some 61,none,.p (.iadS 1 (.t 58) (.t 59)),false,[]⟩,
 ⟨none,none,.h (.store 1 (.t 61) (.t 60)),false,[]⟩]) (.seq (.region [
 ⟨some 62,none,.p (.mov (.t 9)),false,[]⟩,
 ⟨some 63,none,.p (.mov (.t 10)),false,[]⟩,
 ⟨some 64,none,.p (.bin .add (.t 63) (.c (.int .i64 1))),false,[]⟩,
 ⟨some 65,none,.p (.slS 1 (.t 62) none (some (.t 64)) none),false,[]⟩,
 ⟨some 8,none,.p (.mov (.t 65)),false,[]⟩]) .ret)))))))))))⟩
theorem k54_ok : cfn Tryd.prog gl Tryd.f54 = some k54 := by kernel_rfl
def k55 : CFn := ⟨172, [(.t 6), (.t 7)], (.seq (.region [
 ⟨some 6,none,.p (.mov (.c (.int .u64 0))),false,[]⟩,
 ⟨some 7,none,.p (.mov (.c .nili)),false,[]⟩]) (.seq (.seq (.region [
 ⟨some 18,none,.p (.mov (.t 0)),false,[]⟩,
 ⟨some 19,none,.p (.bin .eql (.t 18) (.c (.str []))),false,[]⟩]) (.cond (.t 19) (.seq (.region [
 ⟨some 20,none,.p (.mkif 105 (.c (.int .i64 2))),false,[]⟩,
 ⟨some 6,none,.p (.mov (.c (.int .u64 0))),false,[]⟩,
 ⟨some 7,none,.p (.mov (.t 20)),false,[]⟩]) .ret) .skip)) (.seq (.region [
 ⟨some 21,none,.p (.mov (.t 1)),false,[]⟩,
 ⟨some 22,none,.p (.bin .eql (.t 21) (.c (.int .i64 0))),false,[]⟩,
 ⟨some 8,none,.p (.mov (.t 22)),false,[]⟩]) (.seq (.region [
 ⟨some 23,none,.p (.mov (.t 0)),false,[]⟩,
 ⟨some 9,none,.p (.mov (.t 23)),false,[]⟩]) (.seq (.block 0 (.seq (.region [
 ⟨some 26,none,.p (.mov (.t 1)),false,[]⟩,
 ⟨some 27,none,.p (.bin .leq (.c (.int .i64 2)) (.t 26)),false,[]⟩,
 ⟨some 28,none,.p (.mov (.t 27)),false,[]⟩,
 ⟨some 29,(some (28, true)),.p (.mov (.t 1)),false,[]⟩,
 ⟨some 30,(some (28, true)),.p (.bin .leq (.t 29) (.c (.int .i64 36))),false,[]⟩,
 ⟨some 31,none,.p (.pick (.t 28) (.t 30) (.c (.bool false))),false,[]⟩,
 ⟨some 25,none,.p (.mov (.t 31)),false,[]⟩]) (.cond (.t 25) .skip (.seq (.region [
 ⟨some 33,none,.p (.mov (.t 1)),false,[]⟩,
 ⟨some 34,none,.p (.bin .eql (.t 33) (.c (.int .i64 0))),false,[]⟩,
 ⟨some 32,none,.p (.mov (.t 34)),false,[]⟩]) (.cond (.t 32) (.seq (.region [
 ⟨some 1,none,.p (.mov (.c (.int .i64 10))),false,[]⟩]) (.seq (.region [
 ⟨some 35,none,.p (.mov (.t 0)),false,[]⟩,
 ⟨some 36,none,.p (.idxS (.t 35) (.c (.int .i64 0))),false,[]⟩,
 ⟨some 37,none,.p (.bin .eql (.t 36) (.c (.int .u8 48))),false,[]⟩]) (.cond (.t 37) (.block 1 (.seq (.region [
 ⟨some 41,none,.p (.mov (.t 0)),false,[]⟩,
 ⟨some 42,none,.p (.lenS (.t 41)),false,[]⟩,
 ⟨some 43,none,.p (.bin .geq (.t 42) (.c (.int .i64 3))),false,[]⟩,
 ⟨some 44,none,.p (.mov (.t 43)),false,[]⟩,
 ⟨some 45,(some (44, true)),.p (.mov (.t 0)),false,[]⟩,
 ⟨some 46,(some (44, true)),.p (.idxS (.t 45) (.c (.int .i64 1))),false,[]⟩,
 ⟨some 47,(some (44, true)),.h (.call 62 [(.t 46)]),false,[]⟩,
 ⟨some 48,(some (44, true)),.p (.bin .eql (.t 47) (.c (.int .u8 98))),false,[]⟩,
 ⟨some 49,none,.p (.pick (.t 44) (.t 48) (.c (.bool false))),false,[]⟩,
 ⟨some 40,none,.p (.mov (.t 49)),false,[]⟩]) (.cond (.t 40) (.seq (.region [
 ⟨some 1,none,.p (.mov (.c (.int .i64 2))),false,[]⟩]) (.region [
 ⟨some 50,none,.p (.mov (.t 0)),false,[]⟩,
 ⟨some 51,none,.p (.slT (.t 50) (some (.c (.int .i64 2))) none),false,[]⟩,
 ⟨some 0,none,.p (.mov (.t 51)),false,[]⟩])) (.seq (.region [
 ⟨some 53,none,.p (.mov (.t 0)),false,[]⟩,
 ⟨some 54,none,.p (.lenS (.t 53)),false,[]⟩,
 ⟨some 55,none,.p (.bin .geq (.t 54) (.c (.int .i64 3))),false,[]⟩,
 ⟨some 56,none,.p (.mov (.t 55)),false,[]⟩,
 ⟨some 57,(some (56, true)),.p (.mov (.t 0)),false,[]⟩,
 ⟨some 58,(some (56, true)),.p (.idxS (.t 57) (.c (.int .i64 1))),false,[]⟩,
 ⟨some 59,(some (56, true)),.h (.call 62 [(.t 58)]),false,[]⟩,
 ⟨some 60,(some (56, true)),.p (.bin .eql (.t 59) (.c (.int .u8 111))),false,[]⟩,
 ⟨some 61,none,.p (.pick (.t 56) (.t 60) (.c (.bool false))),false,[]⟩,
 ⟨some 52,none,.p (.mov (.t 61)),false,[]⟩]) (.cond (.t 52) (.seq (.region [
 ⟨some 1,none,.p (.mov (.c (.int .i64 8))),false,[]⟩]) (.region [
 ⟨some 62,none,.p (.mov (.t 0)),false,[]⟩,
 ⟨some 63,none,.p (.slT (.t 62) (some (.c (.int .i64 2))) none),false,[]⟩,
 ⟨some 0,none,.p (.mov (.t 63)),false,[]⟩])) (.seq (.region [
 ⟨some 65,none,.p (.mov (.t 0)),false,[]⟩,
 ⟨some 66,none,.p (.lenS (.t 65)),false,[]⟩,
 ⟨some 67,none,.p (.bin .geq (.t 66) (.c (.int .i64 3))),false,[]⟩,
 ⟨some 68,none,.p (.mov (.t 67)),false,[]⟩,
 ⟨some 69,(some (68, true)),.p (.mov (.t 0)),false,[]⟩,
 ⟨some 70,(some (68, true)),.p (.idxS (.t 69) (.c (.int .i64 1))),false,[]⟩,
 ⟨some 71,(some (68, true)),.h (.call 62 [(.t 70)]),false,[]⟩,
 ⟨some 72,(some (68, true)),.p (.bin .eql (.t 71) (.c (.int .u8 120))),false,[]⟩,
 ⟨some 73,none,.p (.pick (.t 68) (.t 72) (.c (.bool false))),false,[]⟩,
 ⟨some 64,none,.p (.mov (.t 73)),false,[]⟩]) (.cond (.t 64) (.seq (.region [
 ⟨some 1,none,.p (.mov (.c (.int .i64 16))),false,[]⟩]) (.region [
 ⟨some 74,none,.p (.mov (.t 0)),false,[]⟩,
 ⟨some 75,none,.p (.slT (.t 74) (some (.c (.int .i64 2))) none),false,[]⟩,
 ⟨some 0,none,.p (.mov (.t 75)),false,[]⟩])) (.seq (.region [
 ⟨some 1,none,.p (.mov (.c (.int .i64 8))),false,[]⟩]) (.region [
 ⟨some 38,none,.p (.mov (.t 0)),false,[]⟩,
 ⟨some 39,none,.p (.slT (.t 38) (some (.c (.int .i64 1))) none),false,[]⟩,
 ⟨some 0,none,.p (.mov (.t 39)),false,[]⟩]))))))))) .skip))) (.seq (.region [
 ⟨some 24,none,.p (.mkif 105 (.c (.int .i64 3))),false,[]⟩,
 ⟨some 6,none,.p (.mov (.c (.int .u64 0))),false,[]⟩,
 ⟨some 7,none,.p (.mov (.t 24)),false,[]⟩]) .ret)))))) (.seq (.seq (.region [
 ⟨some 76,none,.p (.mov (.t 2)),false,[]⟩,
 ⟨some 77,none,.p (.bin .eql (.t 76) (.c (.int .i64 0))),false,[]⟩]) (.cond (.t 77) (.region [
 ⟨some 2,none,.p (.mov (.c (.int .i64 64))),false,[]⟩]) (.seq (.region [
 ⟨some 78,none,.p (.mov (.t 2)),false,[]⟩,
 ⟨some 79,none,.p (.bin .lss (.t 78) (.c (.int .i64 0))),false,[]⟩,
 ⟨some 80,none,.p (.mov (.t 79)),false,[]⟩,
 ⟨some 81,(some (80, false)),.p (.mov (.t 2)),false,[]⟩,
 ⟨some 82,(some (80, false)),.p (.bin .gtr (.t 81) (.c (.int .i64 64))),false,[]⟩,
 ⟨some 83,none,.p (.pick (.t 80) (.c (.bool true)) (.t 82)),false,[]⟩]) (.cond (.t 83) (.seq (.region [
 ⟨some 84,none,.p (.mkif 105 (.c (.int .i64 4))),false,[]⟩,
 ⟨some 6,none,.p (.mov (.c (.int .u64 0))),false,[]⟩,
 ⟨some 7,none,.p (.mov (.t 84)),false,[]⟩]) .ret) .skip)))) (.seq (.region [
 ⟨some 10,none,.p (.mov (.c (.int .u64 0))),false,[]⟩]) (.seq (.seq (.region [
 ⟨some 85,none,.p (.mov (.t 1)),false,[]⟩]) (.block 2 (.seq (.region [
 ⟨some 91,none,.p (.bin .eql (.t 85) (.c (.int .i64 10))),false,[]⟩,
 ⟨some 90,none,.p (.mov (.t 91)),false,[]⟩]) (.cond (.t 90) (.region [
 ⟨some 10,none,.p (.mov (.c (.int .u64 1844674407370955162))),false,[]⟩]) (.seq (.region [
 ⟨some 93,none,.p (.bin .eql (.t 85) (.c (.int .i64 16))),false,[]⟩,
 ⟨some 92,none,.p (.mov (.t 93)),false,[]⟩]) (.cond (.t 92) (.region [
 ⟨some 10,none,.p (.mov (.c (.int .u64 1152921504606846976))),false,[]⟩]) (.region [
 ⟨some 86,none,.p (.mov (.t 1)),false,[]⟩,
 ⟨some 87,none,.p (.cvi .u64 (.t 86)),false,[]⟩,
 ⟨some 88,none,.p (.bin .quo (.c (.int .u64 18446744073709551615)) (.t 87)),false,[]⟩,
 ⟨some 89,none,.p (.bin .add (.t 88) (.c (.int .u64 1))),false,[]⟩,
 ⟨some 10,none,.p (.mov (.t 89)),false,[]⟩]))))))) (.seq (.region [
 ⟨some 94,none,.p (.mov (.t 2)),false,[]⟩,
 ⟨some 95,none,.p (.cvi .u64 (.t 94)),false,[]⟩,
 ⟨some 96,none,.p (.bin .shl (.c (.int .u64 1)) (.t 95)),false,[]⟩,
 ⟨some 97,none,.p (.bin .sub (.t 96) (.c (.int .u64 1))),false,[]⟩,
 ⟨some 11,none,.p (.mov (.t 97)),false,[]⟩]) (.seq (.region [
 ⟨some 12,none,.p (.mov (.c (.bool false))),false,[]⟩]) (.seq (.region [
 ⟨some 13,none,.p (.mov (.c (.int .u64 0))),false,[]⟩]) (.seq (.seq (.region [
 ⟨some 98,none,.p (.mov (.t 0)),false,[]⟩,
 ⟨some 99,none,.h (.s2b (.t 98)),false,[]⟩,
 ⟨some 100,none,.p (.len (.t 99)),false,[]⟩,
 ⟨some 101,none,.p (.mov (.c (.int .i64 0))),false,[]⟩]) (.block 3 (.loop (.seq (.region [
 ⟨some 102,none,.p (.bin .lss (.t 101) (.t 100)),false,[]⟩]) (.seq (.cond (.t 102) .skip (.exit 3)) (.seq (.block 4 (.seq (.region [
 ⟨some 103,none,.p (.iadS 1 (.t 99) (.t 101)),false,[]⟩,
 ⟨some 104,none,.h (.load false 1 (.t 103)),false,[]⟩,
 ⟨some 15,none,.p (.mov (.t 104)),false,[]⟩]) (.seq (.region [
 ⟨some 16,none,.p (.mov (.c (.int .u8 0))),false,[]⟩]) (.seq (.block 5 (.seq (.region [
 ⟨some 107,none,.p (.mov (.t 15)),false,[]⟩,
 ⟨some 108,none,.p (.bin .eql (.t 107) (.c (.int .u8 95))),false,[]⟩,
 ⟨some 109,none,.p (.mov (.t 108)),false,[]⟩,
 ⟨some 110,(some (109, true)),.p (.mov (.t 8)),false,[]⟩,
 ⟨some 111,none,.p (.pick (.t 109) (.t 110) (.c (.bool false))),false,[]⟩,
 ⟨some 106,none,.p (.mov (.t 111)),false,[]⟩]) (.cond (.t 106) (.seq (.region [
 ⟨some 12,none,.p (.mov (.c (.bool true))),false,[]⟩]) (.exit 4)) (.seq (.region [
 ⟨some 113,none,.p (.mov (.t 15)),false,[]⟩,
 ⟨some 114,none,.p (.bin .leq (.c (.int .u8 48)) (.t 113)),false,[]⟩,
 ⟨some 115,none,.p (.mov (.t 114)),false,[]⟩,
 ⟨some 116,(some (115, true)),.p (.mov (.t 15)),false,[]⟩,
 ⟨some 117,(some (115, true)),.p (.bin .leq (.t 116) (.c (.int .u8 57))),false,[]⟩,
 ⟨some 118,none,.p (.pick (.t 115) (.t 117) (.c (.bool false))),false,[]⟩,
 ⟨some 112,none,.p (.mov (.t 118)),false,[]⟩]) (.cond (.t 112) (.region [
 ⟨some 119,none,.p (.mov (.t 15)),false,[]⟩,
 ⟨some 120,none,.p (.bin .sub (.t 119) (.c (.int .u8 48))),false,[]⟩,
 ⟨some 16,none,.p (.mov (.t 120)),false,[]⟩]) (.seq (.region [
 ⟨some 122,none,.p (.mov (.t 15)),false,[]⟩,
 ⟨some 123,none,.h (.call 62 [(.t 122)]),false,[]⟩,
 ⟨some 124,none,.p (.bin .leq (.c (.int .u8 97)) (.t 123)),false,[]⟩,
 ⟨some 125,none,.p (.mov (.t 124)),false,[]⟩,
 ⟨some 126,(some (125, true)),.p (.mov (.t 15)),false,[]⟩,
 ⟨some 127,(some (125, true)),.h (.call 62 [(.t 126)]),false,[]⟩,
 ⟨some 128,(some (125, true)),.p (.bin .leq (.t 127) (.c (.int .u8 122))),false,[]⟩,
 ⟨some 129,none,.p (.pick (.t 125) (.t 128) (.c (.bool false))),false,[]⟩,
 ⟨some 121,none,.p (.mov (.t 129)),false,[]⟩]) (.cond (.t 121) (.region [
 ⟨some 130,none,.p (.mov (.t 15)),false,[]⟩,
 ⟨some 131,none,.h (.call 62 [(.t 130)]),false,[]⟩,
 ⟨some 132,none,.p (.bin .sub (.t 131) (.c (.int .u8 97))),false,[]⟩,
 ⟨some 133,none,.p (.bin .add (.t 132) (.c (.int .u8 10))),false,[]⟩,
 ⟨some 16,none,.p (.mov (.t 133)),false,[]⟩]) (.seq (.region [
 ⟨some 105,none,.p (.mkif 105 (.c (.int .i64 2))),false,[]⟩,
 ⟨some 6,none,.p (.mov (.c (.int .u64 0))),false,[]⟩,
 ⟨some 7,none,.p (.mov (.t 105)),false,[]⟩]) .ret)))))))) (.seq (.seq (.region [
 ⟨some 134,none,.p (.mov (.t 16)),false,[]⟩,
 ⟨some 135,none,.p (.mov (.t 1)),false,[]⟩,
 ⟨some 136,none,.p (.cvi .u8 (.t 135)),false,[]⟩,
 ⟨some 137,none,.p (.bin .geq (.t 134) (.t 136)),false,[]⟩]) (.cond (.t 137) (.seq (.region [
 ⟨some 138,none,.p (.mkif 105 (.c (.int .i64 2))),false,[]⟩,
 ⟨some 6,none,.p (.mov (.c (.int .u64 0))),false,[]⟩,
 ⟨some 7,none,.p (.mov (.t 138)),false,[]⟩]) .ret) .skip)) (.seq (.seq (.region [
 ⟨some 139,none,.p (.mov (.t 13)),false,[]⟩,
 ⟨some 140,none,.p (.mov (.t 10)),false,[]⟩,
 ⟨some 141,none,.p (.bin .geq (.t 139) (.t 140)),false,[]⟩]) (.cond (.t 141) (.seq (.region [
 ⟨some 142,none,.p (.mov (.t 11)),false,[]⟩,
 ⟨some 143,none,.p (.mkif 105 (.c (.int .i64 1))),false,[]⟩,
 ⟨some 6,none,.p (.mov (.t 142)),false,[]⟩,
 ⟨some 7,none,.p (.mov (.t 143)),false,[]⟩]) .ret) .skip)) (.seq (.region [
 ⟨some 144,none,.p (.mov (.t 13)),false,[]⟩,
 ⟨some 145,none,.p (.mov (.t 1)),false,[]⟩,
 ⟨some 146,none,.p (.cvi .u64 (.t 145)),false,[]⟩,
 ⟨some 147,none,.p (.bin .mul (.t 144) (.t 146)),false,[]⟩,
 ⟨some 13,none,.p (.mov (.t 147)),false,[]⟩]) (.seq (.region [
 ⟨some 148,none,.p (.mov (.t 13)),false,[]⟩,
 ⟨some 149,none,.p (.mov (.t 16)),false,[]⟩,
 ⟨some 150,none,.p (.cvi .u64 (.t 149)),false,[]⟩,
 ⟨some 151,none,.p (.bin .add (.t 148) (.t 150)),false,[]⟩,
 ⟨some 17,none,.p (.mov (.t 151)),false,[]⟩]) (.seq (.seq (.region [
 ⟨some 152,none,.p (.mov (.t 17)),false,[]⟩,
 ⟨some 153,none,.p (.mov (.t 13)),false,[]⟩,
 ⟨some 154,none,.p (.bin .lss (.t 152) (.t 153)),false,[]⟩,
 ⟨some 155,none,.p (.mov (.t 154)),false,[]⟩,
 ⟨some 156,(some (155, false)),.p (.mov (.t 17)),false,[]⟩,
 ⟨some 157,(some (155, false)),.p (.mov (.t 11)),false,[]⟩,
 ⟨some 158,(some (155, false)),.p (.bin .gtr (.t 156) (.t 157)),false,[]⟩,
 ⟨some 159,none,.p (.pick (.t 155) (.c (.bool true)) (.t 158)),false,[]⟩]) (.cond (.t 159) (.seq (.region [
 ⟨some 160,none,.p (.mov (.t 11)),false,[]⟩,
 ⟨some 161,none,.p (.mkif 105 (.c (.int .i64 1))),false,[]⟩,
 ⟨some 6,none,.p (.mov (.t 160)),false,[]⟩,
 ⟨some 7,none,.p (.mov (.t 161)),false,[]⟩]) .ret) .skip)) (.region [
 ⟨some 162,none,.p (.mov (.t 17)),false,[]⟩,
 ⟨some 13,none,.p (.mov (.t 162)),false,[]⟩])))))))))) (.region [
 ⟨some 163,none,.p (.bin .add (.t 101) (.c (.int .i64 1))),false,[]⟩,
 ⟨some 101,none,.p (.mov (.t 163)),false,[]⟩]))))))) (.seq (.seq (.region [
 ⟨some 164,none,.p (.mov (.t 12)),false,[]⟩,
 ⟨some 165,none,.p (.mov (.t 164)),false,[]⟩,
 ⟨some 166,(some (165, true)),.p (.mov (.t 9)),false,[]⟩,
 ⟨some 167,(some (165, true)),.h (.call 63 [(.t 166)]),false,[]⟩,
 ⟨some 168,(some (165, true)),.p (.not (.t 167)),false,[]⟩,
 ⟨some 169,none,.p (.pick (.t 165) (.t 168) (.c (.bool false))),false,[]⟩]) (.cond (.t 169) (.seq (.region [
 ⟨some 170,none,.p (.mkif 105 (.c (.int .i64 2))),false,[]⟩,
 ⟨some 6,none,.p (.mov (.c (.int .u64 0))),false,[]⟩,
 ⟨some 7,none,.p (.mov (.t 170)),false,[]⟩]) .ret) .skip)) (.seq (.region [
 ⟨some 171,none,.p (.mov (.t 13)),false,[]⟩,
 ⟨some 6,none,.p (.mov (.t 171)),false,[]⟩,
 ⟨some 7,none,.p (.mov (.c .nili)),false,[]⟩]) .ret))))))))))))))⟩
theorem k55_ok : cfn Tryd.prog gl Tryd.f55 = some k55 := by kernel_rfl
def k56 : CFn := ⟨43, [(.t 10)], (.seq (.region [
 ⟨some 10,none,.p (.mov (.c .nili)),false,[]⟩]) (.seq (.seq (.region [
 ⟨some 11,none,.p (.mov (.t 4)),false,[]⟩]) (.block 0 (.seq (.region [
 ⟨some 13,none,.p (.mkif 105 (.c (.int .i64 2))),false,[]⟩,
 ⟨some 14, none, (.h .bad),false,[]⟩,
 ⟨some 12,none,.p (.mov (.t 14)),false,[]⟩]) (.cond (.t 12) (.seq (.region [
 ⟨some 15,none,.p (.mov (.t 0)),false,[]⟩,
 ⟨some 16,none,.p (.mov (.t 1)),false,[]⟩,
 ⟨some 17,none,.h (.call 64 [(.t 15), (.t 16)]),false,[]⟩,
 ⟨some 18,none,.p (.mkif 109 (.t 17)),false,[]⟩,
 ⟨some 10,none,.p (.mov (.t 18)),false,[]⟩]) .ret) (.seq (.region [
 ⟨some 20,none,.p (.mkif 105 (.c (.int .i64 1))),false,[]⟩,
 ⟨some 21, none, (.h .bad),false,[]⟩,
 ⟨some 19,none,.p (.mov (.t 21)),false,[]⟩]) (.cond (.t 19) (.seq (.region [
 ⟨some 22,none,.p (.mov (.t 0)),false,[]⟩,
 ⟨some 23,none,.p (.mov (.t 1)),false,[]⟩,
 ⟨some 24,none,.h (.call 65 [(.t 22), (.t 23)]),false,[]⟩,
 ⟨some 25,none,.p (.mkif 109 (.t 24)),false,[]⟩,
 ⟨some 10,none,.p (.mov (.t 25)),false,[]⟩]) .ret) (.seq (.region [
 ⟨some 27,none,.p (.mkif 105 (.c (.int .i64 3))),false,[]⟩,
 ⟨some 28, none, (.h .bad),false,[]⟩,
 ⟨some 26,none,.p (.mov (.t 28)),false,[]⟩]) (.cond (.t 26) (.seq (.region [
 ⟨some 29,none,.p (.mov (.t 0)),false,[]⟩,
 ⟨some 30,none,.p (.mov (.t 1)),false,[]⟩,
 ⟨some 31,none,.p (.mov (.t 2)),false,[]⟩,
 ⟨some 32,none,.h (.call 66 [(.t 29), (.t 30), (.t 31)]),false,[]⟩,
 ⟨some 33,none,.p (.mkif 109 (.t 32)),false,[]⟩,
 ⟨some 10,none,.p (.mov (.t 33)),false,[]⟩]) .ret) (.seq (.region [
 ⟨some 35,none,.p (.mkif 105 (.c (.int .i64 4))),false,[]⟩,
 ⟨some 36, none, (.h .bad),false,[]⟩,
 ⟨some 34,none,.p (.mov (.t 36)),false,[]⟩]) (.cond (.t 34) (.seq (.region [
 ⟨some 37,none,.p (.mov (.t 0)),false,[]⟩,
 ⟨some 38,none,.p (.mov (.t 1)),false,[]⟩,
 ⟨some 39,none,.p (.mov (.t 3)),false,[]⟩,
 ⟨some 40,none,.h (.call 67 [(.t 37), (.t 38), (.t 39)]),false,[]⟩,
 ⟨some 41,none,.p (.mkif 109 (.t 40)),false,[]⟩,
 ⟨some 10,none,.p (.mov (.t 41)),false,[]⟩]) .ret) .skip)))))))))) (.seq (.region [
 ⟨some 42,none,.p (.mov (.t 4)),false,[]⟩,
 ⟨some 10,none,.p (.mov (.t 42)),false,[]⟩]) .ret)))⟩
theorem k56_ok : cfn Tryd.prog gl Tryd.f56 = some k56 := by kernel_rfl
def k57 : CFn := ⟨77, [(.t 2), (.t 3)], (.seq (.region [
 ⟨some 2,none,.p (.mov (.c (.int .i64 0))),false,[]⟩,
 ⟨some 3,none,.p (.mov (.c .nili)),false,[]⟩]) (.seq (.region [
 ⟨some 11,none,.p (.mov (.t 0)),false,[]⟩,
 ⟨some 12,none,.p (.lenS (.t 11)),false,[]⟩,
 ⟨some 4,none,.p (.mov (.t 12)),false,[]⟩]) (.seq (.seq (.region [
 ⟨some 13,none,.p (.mov (.c (.bool false))),false,[]⟩,
 ⟨some 14,(some (13, true)),.p (.mov (.t 4)),false,[]⟩,
 ⟨some 15,(some (13, true)),.p (.bin .lss (.c (.int .i64 0)) (.t 14)),false,[]⟩,
 ⟨some 16,(some (13, true)),.p (.mov (.t 15)),false,[]⟩,
 ⟨some 17,(some (16, true)),.p (.mov (.t 4)),false,[]⟩,
 ⟨some 18,(some (16, true)),.p (.bin .lss (.t 17) (.c (.int .i64 10))),false,[]⟩,
 ⟨some 19,(some (13, true)),.p (.pick (.t 16) (.t 18) (.c (.bool false))),false,[]⟩,
 ⟨some 20,none,.p (.pick (.t 13) (.t 19) (.c (.bool false))),false,[]⟩,
 ⟨some 21,none,.p (.mov (.t 20)),false,[]⟩,
 ⟨some 22,(some (21, false)),.p (.mov (.c (.bool true))),false,[]⟩,
 ⟨some 23,(some (22, true)),.p (.mov (.t 4)),false,[]⟩,
 ⟨some 24,(some (22, true)),.p (.bin .lss (.c (.int .i64 0)) (.t 23)),false,[]⟩,
 ⟨some 25,(some (22, true)),.p (.mov (.t 24)),false,[]⟩,
 ⟨some 26,(some (25, true)),.p (.mov (.t 4)),false,[]⟩,
 ⟨some 27,(some (25, true)),.p (.bin .lss (.t 26) (.c (.int .i64 19))),false,[]⟩,
 ⟨some 28,(some (22, true)),.p (.pick (.t 25) (.t 27) (.c (.bool false))),false,[]⟩,
 ⟨some 29,(some (21, false)),.p (.pick (.t 22) (.t 28) (.c (.bool false))),false,[]⟩,
 ⟨some 30,none,.p (.pick (.t 21) (.c (.bool true)) (.t 29)),false,[]⟩]) (.cond (.t 30) (.seq (.region [
 ⟨some 31,none,.p (.mov (.t 0)),false,[]⟩,
 ⟨some 5,none,.p (.mov (.t 31)),false,[]⟩]) (.seq (.seq (.region [
 ⟨some 32,none,.p (.mov (.t 0)),false,[]⟩,
 ⟨some 33,none,.p (.idxS (.t 32) (.c (.int .i64 0))),false,[]⟩,
 ⟨some 34,none,.p (.bin .eql (.t 33) (.c (.int .u8 45))),false,[]⟩,
 ⟨some 35,none,.p (.mov (.t 34)),false,[]⟩,
 ⟨some 36,(some (35, false)),.p (.mov (.t 0)),false,[]⟩,
 ⟨some 37,(some (35, false)),.p (.idxS (.t 36) (.c (.int .i64 0))),false,[]⟩,
 ⟨some 38,(some (35, false)),.p (.bin .eql (.t 37) (.c (.int .u8 43))),false,[]⟩,
 ⟨some 39,none,.p (.pick (.t 35) (.c (.bool true)) (.t 38)),false,[]⟩]) (.cond (.t 39) (.seq (.region [
 ⟨some 40,none,.p (.mov (.t 0)),false,[]⟩,
 ⟨some 41,none,.p (.slT (.t 40) (some (.c (.int .i64 1))) none),false,[]⟩,
 ⟨some 0,none,.p (.mov (.t 41)),false,[]⟩]) (.seq (.region [
 ⟨some 42,none,.p (.mov (.t 0)),false,[]⟩,
 ⟨some 43,none,.p (.lenS (.t 42)),false,[]⟩,
 ⟨some 44,none,.p (.bin .lss (.t 43) (.c (.int .i64 1))),false,[]⟩]) (.cond (.t 44) (.seq (.region [
 ⟨some 45,none,.p (.mkif 105 (.c (.int .i64 2))),false,[]⟩,
 ⟨some 2,none,.p (.mov (.c (.int .i64 0))),false,[]⟩,
 ⟨some 3,none,.p (.mov (.t 45)),false,[]⟩]) .ret) .skip))) .skip)) (.seq (.region [
 ⟨some 6,none,.p (.mov (.c (.int .i64 0))),false,[]⟩]) (.seq (.seq (.region [
 ⟨some 46,none,.p (.mov (.t 0)),false,[]⟩,
 ⟨some 47,none,.h (.s2b (.t 46)),false,[]⟩,
 ⟨some 48,none,.p (.len (.t 47)),false,[]⟩,
 ⟨some 49,none,.p (.mov (.c (.int .i64 0))),false,[]⟩]) (.block 0 (.loop (.seq (.region [
 ⟨some 50,none,.p (.bin .lss (.t 49) (.t 48)),false,[]⟩]) (.seq (.cond (.t 50) .skip (.exit 0)) (.seq (.block 1 (.seq (.region [
 ⟨some 51,none,.p (.iadS 1 (.t 47) (.t 49)),false,[]⟩,
 ⟨some 52,none,.h (.load false 1 (.t 51)),false,[]⟩,
 ⟨some 8,none,.p (.mov (.t 52)),false,[]⟩]) (.seq (.region [
 ⟨some 53,none,.p (.mov (.t 8)),false,[]⟩,
 ⟨some 54,none,.p (.bin .sub (.t 53) (.c (.int .u8 48))),false,[]⟩,
 ⟨some 8,none,.p (.mov (.t 54)),false,[]⟩]) (.seq (.seq (.region [
 ⟨some 55,none,.p (.mov (.t 8)),false,[]⟩,
 ⟨some 56,none,.p (.bin .gtr (.t 55) (.c (.int .u8 9))),false,[]⟩]) (.cond (.t 56) (.seq (.region [
 ⟨some 57,none,.p (.mkif 105 (.c (.int .i64 2))),false,[]⟩,
 ⟨some 2,none,.p (.mov (.c (.int .i64 0))),false,[]⟩,
 ⟨some 3,none,.p (.mov (.t 57)),false,[]⟩]) .ret) .skip)) (.region [
 ⟨some 58,none,.p (.mov (.t 6)),false,[]⟩,
 ⟨some 59,none,.p (.bin .mul (.t 58) (.c (.int .i64 10))),false,[]⟩,
 ⟨some 60,none,.p (.mov (.t 8)),false,[]⟩,
 ⟨some 61,none,.p (.cvi .i64 (.t 60)),false,[]⟩,
 ⟨some 62,none,.p (.bin .add (.t 59) (.t 61)),false,[]⟩,
 ⟨some 6,none,.p (.mov (.t 62)),false,[]⟩]))))) (.region [
 ⟨some 63,none,.p (.bin .add (.t 49) (.c (.int .i64 1))),false,[]⟩,
 ⟨some 49,none,.p (.mov (.t 63)),false,[]⟩]))))))) (.seq (.seq (.region [
 ⟨some 64,none,.p (.mov (.t 5)),false,[]⟩,
 ⟨some 65,none,.p (.idxS (.t 64) (.c (.int .i64 0))),false,[]⟩,
 ⟨some 66,none,.p (.bin .eql (.t 65) (.c (.int .u8 45))),false,[]⟩]) (.cond (.t 66) (.region [
 ⟨some 67,none,.p (.mov (.t 6)),false,[]⟩,
 ⟨some 68,none,.p (.neg (.t 67)),false,[]⟩,
 ⟨some 6,none,.p (.mov (.t 68)),false,[]⟩]) .skip)) (.seq (.region [
 ⟨some 69,none,.p (.mov (.t 6)),false,[]⟩,
 ⟨some 2,none,.p (.mov (.t 69)),false,[]⟩,
 ⟨some 3,none,.p (.mov (.c .nili)),false,[]⟩]) .ret)))))) .skip)) (.seq (.region [
 ⟨some 71,none,.p (.mov (.t 0)),false,[]⟩,
 ⟨some 72,none,.h (.call 68 [(.t 71), (.c (.int .i64 10)), (.c (.int .i64 0))]),false,[]⟩,
 ⟨some 70,none,.p (.mov (.t 72)),false,[]⟩,
 ⟨some 73,none,.p (.ext 0 (.t 70)),false,[]⟩,
 ⟨some 74,none,.p (.ext 1 (.t 70)),false,[]⟩,
 ⟨some 9,none,.p (.mov (.t 73)),false,[]⟩,
 ⟨some 10,none,.p (.mov (.t 74)),false,[]⟩]) (.seq (.region [
 ⟨some 75,none,.p (.mov (.t 9)),false,[]⟩,
 ⟨some 76,none,.p (.mov (.t 10)),false,[]⟩,
 ⟨some 2,none,.p (.mov (.t 75)),false,[]⟩,
 ⟨some 3,none,.p (.mov (.t 76)),false,[]⟩]) .ret)))))⟩
theorem k57_ok : cfn Tryd.prog gl Tryd.f57 = some k57 := by kernel_rfl
def k58 : CFn := ⟨5, [(.t 2)], (.seq (.region [
 ⟨some 2,none,.p (.mov (.c (.str []))),false,[]⟩]) (.seq (.region [
 ⟨some 3,none,.p (.mov (.t 0)),false,[]⟩,
 ⟨some 4,none,.h (.call 69 [(.t 3), (.c (.int .i64 10))]),false,[]⟩,
 ⟨some 2,none,.p (.mov (.t 4)),false,[]⟩]) .ret))⟩
theorem k58_ok : cfn Tryd.prog gl Tryd.f58 = some k58 := by kernel_rfl
def k59 : CFn := ⟨50, [(.t 4)], (.seq (.region [
 ⟨some 4,none,.p (.mov (.c .nils)),false,[]⟩]) (.seq (.region [
 ⟨some 10,none,.p (.mov (.t 0)),false,[]⟩,
 ⟨some 11,none,.h (.call 70 [(.t 10)]),false,[]⟩,
 ⟨some 5,none,.p (.mov (.t 11)),false,[]⟩]) (.seq (.seq (.region [
 ⟨some 12,none,.p (.mov (.t 1)),false,[]⟩,
 ⟨some 13,none,.p (.bin .lss (.t 12) (.c (.int .i64 0))),false,[]⟩,
 ⟨some 14,none,.p (.mov (.t 13)),false,[]⟩,
 ⟨some 15,(some (14, false)),.p (.mov (.t 1)),false,[]⟩,
 ⟨some 16,(some (14, false)),.p (.mov (.t 5)),false,[]⟩,
 ⟨some 17,(some (14, false)),.p (.bin .gtr (.t 15) (.t 16)),false,[]⟩,
 ⟨some 18,none,.p (.pick (.t 14) (.c (.bool true)) (.t 17)),false,[]⟩]) (.cond (.t 18) (.region [
 ⟨some 19,none,.p (.mov (.t 5)),false,[]⟩,
 ⟨some 1,none,.p (.mov (.t 19)),false,[]⟩]) .skip)) (.seq (.region [
 ⟨some 20,none,.p (.mov (.t 1)),false,[]⟩,
 ⟨some 21,none,.h (.mksl 1 16 [(.str [])] (.t 20) (.t 20)),false,[]⟩,
 ⟨some 6,none,.p (.mov (.t 21)),false,[]⟩]) (.seq (.seq (.region [
 ⟨some 7,none,.p (.mov (.c (.int .i64 0))),false,[]⟩]) (.block 0 (.loop (.seq (.seq (.region [
 ⟨some 22,none,.p (.mov (.t 7)),false,[]⟩,
 ⟨some 23,none,.p (.mov (.t 1)),false,[]⟩,
 ⟨some 24,none,.p (.bin .sub (.t 23) (.c (.int .i64 1))),false,[]⟩,
 ⟨some 25,none,.p (.bin .lss (.t 22) (.t 24)),false,[]⟩]) (.cond (.t 25) .skip (.exit 0))) (.seq (.block 1 (.seq (.region [
 ⟨some 29,none,.p (.mov (.t 0)),false,[]⟩,
 ⟨some 30,none,.h (.call 71 [(.t 29)]),false,[]⟩,
 ⟨some 28,none,.p (.mov (.t 30)),false,[]⟩,
 ⟨some 31,none,.p (.ext 0 (.t 28)),false,[]⟩,
 ⟨some 32,none,.p (.ext 1 (.t 28)),false,[]⟩,
 ⟨some 8,none,.p (.mov (.t 31)),false,[]⟩,
 ⟨some 9,none,.p (.mov (.t 32)),false,[]⟩]) (.seq (.region [
 ⟨some 33,none,.p (.mov (.t 6)),false,[]⟩,
 ⟨some 34,none,.p (.mov (.t 7)),false,[]⟩,
 ⟨some 35,none,.p (.mov (.t 0)),false,[]⟩,
 ⟨some 36,none,.p (.mov (.t 9)),false,[]⟩,
 ⟨some 37,none,.p (.slT (.t 35) none (some (.t 36))),false,[]⟩,
 ⟨some 38,none,.p (.iadS 1 (.t 33) (.t 34)),false,[]⟩,
 ⟨none,none,.h (.store 1 (.t 38) (.t 37)),false,[]⟩]) (.region [
 ⟨some 39,none,.p (.mov (.t 0)),false,[]⟩,
 ⟨some 40,none,.p (.mov (.t 9)),false,[]⟩,
 ⟨some 41,none,.p (.slT (.t 39) (some (.t 40)) none),false,[]⟩,
 ⟨some 0,none,.p (.mov (.t 41)),false,[]⟩])))) (.region [
 ⟨some 26,none,.p (.mov (.t 7)),false,[]⟩,
 ⟨some 27,none,.p (.bin .add (.t 26) (.c (.int .i64 1))),false,[]⟩,
 ⟨some 7,none,.p (.mov (.t 27)),false,[]⟩])))))) (.seq (.seq (.region [
 ⟨some 42,none,.p (.mov (.t 1)),false,[]⟩,
 ⟨some 43,none,.p (.bin .gtr (.t 42) (.c (.int .i64 0))),false,[]⟩]) (.cond (.t 43) (.region [
 ⟨some 44,none,.p (.mov (.t 6)),false,[]⟩,
 ⟨some 45,none,.p (.mov (.t 1)),false,[]⟩,
 ⟨some 46,none,.p (.bin .sub (.t 45) (.c (.int .i64 1))),false,[]⟩,
 ⟨some 47,none,.p (.mov (.t 0)),false,[]⟩,
 ⟨some 48,none,.p (.iadS 1 (.t 44) (.t 46)),false,[]⟩,
 ⟨none,none,.h (.store 1 (.t 48) (.t 47)),false,[]⟩]) .skip)) (.seq (.region [
 ⟨some 49,none,.p (.mov (.t 6)),false,[]⟩,
 ⟨some 4,none,.p (.mov (.t 49)),false,[]⟩]) .ret)))))))⟩
theorem k59_ok : cfn Tryd.prog gl Tryd.f59 = some k59 := by kernel_rfl
def k60 : CFn := ⟨34, [(.t 4)], (.seq (.region [
 ⟨some 4,none,.p (.mov (.c (.int .i64 0))),false,[]⟩]) (.seq (.seq (.region [
 ⟨some 7,none,.p (.mov (.t 1)),false,[]⟩,
 ⟨some 8,none,.p (.lenS (.t 7)),false,[]⟩,
 ⟨some 9,none,.p (.bin .eql (.t 8) (.c (.int .i64 0))),false,[]⟩]) (.cond (.t 9) (.seq (.region [
 ⟨some 10,none,.p (.mov (.t 0)),false,[]⟩,
 ⟨some 11,none,.h (.call 70 [(.t 10)]),false,[]⟩,
 ⟨some 12,none,.p (.bin .add (.t 11) (.c (.int .i64 1))),false,[]⟩,
 ⟨some 4,none,.p (.mov (.t 12)),false,[]⟩]) .ret) .skip)) (.seq (.seq (.region [
 ⟨some 13,none,.p (.mov (.t 1)),false,[]⟩,
 ⟨some 14,none,.p (.lenS (.t 13)),false,[]⟩,
 ⟨some 15,none,.p (.bin .eql (.t 14) (.c (.int .i64 1))),false,[]⟩]) (.cond (.t 15) (.seq (.region [
 ⟨some 16,none,.p (.mov (.t 0)),false,[]⟩,
 ⟨some 17,none,.p (.mov (.t 1)),false,[]⟩,
 ⟨some 18,none,.p (.idxS (.t 17) (.c (.int .i64 0))),false,[]⟩,
 ⟨some 19,none,.h (.xrow 1 [(.t 16), (.t 18)]),false,[]⟩,
 ⟨some 4,none,.p (.mov (.t 19)),false,[]⟩]) .ret) .skip)) (.seq (.region [
 ⟨some 5,none,.p (.mov (.c (.int .i64 0))),false,[]⟩]) (.block 0 (.loop (.block 1 (.seq (.region [
 ⟨some 20,none,.p (.mov (.t 0)),false,[]⟩,
 ⟨some 21,none,.p (.mov (.t 1)),false,[]⟩,
 ⟨some 22,none,.h (.call 61 [(.t 20), (.t 21)]),false,[]⟩,
 ⟨some 6,none,.p (.mov (.t 22)),false,[]⟩]) (.seq (.seq (.region [
 ⟨some 23,none,.p (.mov (.t 6)),false,[]⟩,
 ⟨some 24,none,.p (.bin .eql (.t 23) (.c (.int .i64 (-1)))),false,[]⟩]) (.cond (.t 24) (.seq (.region [
 ⟨some 25,none,.p (.mov (.t 5)),false,[]⟩,
 ⟨some 4,none,.p (.mov (.t 25)),false,[]⟩]) .ret) .skip)) (.seq (.region [
 ⟨some 26,none,.p (.mov (.t 5)),false,[]⟩,
 ⟨some 27,none,.p (.bin .add (.t 26) (.c (.int .i64 1))),false,[]⟩,
 ⟨some 5,none,.p (.mov (.t 27)),false,[]⟩]) (.region [
 ⟨some 28,none,.p (.mov (.t 0)),false,[]⟩,
 ⟨some 29,none,.p (.mov (.t 6)),false,[]⟩,
 ⟨some 30,none,.p (.mov (.t 1)),false,[]⟩,
 ⟨some 31,none,.p (.lenS (.t 30)),false,[]⟩,
 ⟨some 32,none,.p (.bin .add (.t 29) (.t 31)),false,[]⟩,
 ⟨some 33,none,.p (.slT (.t 28) (some (.t 32)) none),false,[]⟩,
 ⟨some 0,none,.p (.mov (.t 33)),false,[]⟩])))))))))))⟩
theorem k60_ok : cfn Tryd.prog gl Tryd.f60 = some k60 := by kernel_rfl
def k61 : CFn := ⟨8, [(.t 4)], (.seq (.region [
 ⟨some 4,none,.p (.mov (.c (.int .i64 0))),false,[]⟩]) (.seq (.region [
 ⟨some 5,none,.p (.mov (.t 0)),false,[]⟩,
 ⟨some 6,none,.p (.mov (.t 1)),false,[]⟩,
 ⟨some 7,none,.h (.call 73 [(.t 5), (.t 6)]),false,[]⟩,
 ⟨some 4,none,.p (.mov (.t 7)),false,[]⟩]) .ret))⟩
theorem k61_ok : cfn Tryd.prog gl Tryd.f61 = some k61 := by kernel_rfl
def k62 : CFn := ⟨5, [(.t 2)], (.seq (.region [
 ⟨some 2,none,.p (.mov (.c (.int .u8 0))),false,[]⟩]) (.seq (.region [
 ⟨some 3,none,.p (.mov (.t 0)),false,[]⟩,
 ⟨some 4,none,.p (.bin .or (.t 3) (.c (.int .u8 32))),false,[]⟩,
 ⟨some 2,none,.p (.mov (.t 4)),false,[]⟩]) .ret))⟩
theorem k62_ok : cfn Tryd.prog gl Tryd.f62 = some k62 := by kernel_rfl
def k63 : CFn := ⟨94, [(.t 2)], (.seq (.region [
 ⟨some 2,none,.p (.mov (.c (.bool false))),false,[]⟩]) (.seq (.region [
 ⟨some 3,none,.p (.mov (.c (.int .i32 94))),false,[]⟩]) (.seq (.region [
 ⟨some 4,none,.p (.mov (.c (.int .i64 0))),false,[]⟩]) (.seq (.seq (.region [
 ⟨some 6,none,.p (.mov (.t 0)),false,[]⟩,
 ⟨some 7,none,.p (.lenS (.t 6)),false,[]⟩,
 ⟨some 8,none,.p (.bin .geq (.t 7) (.c (.int .i64 1))),false,[]⟩,
 ⟨some 9,none,.p (.mov (.t 8)),false,[]⟩,
 ⟨some 10,(some (9, true)),.p (.mov (.t 0)),false,[]⟩,
 ⟨some 11,(some (9, true)),.p (.idxS (.t 10) (.c (.int .i64 0))),false,[]⟩,
 ⟨some 12,(some (9, true)),.p (.bin .eql (.t 11) (.c (.int .u8 45))),false,[]⟩,
 ⟨some 13,(some (9, true)),.p (.mov (.t 12)),false,[]⟩,
 ⟨some 14,(some (13, false)),.p (.mov (.t 0)),false,[]⟩,
 ⟨some 15,(some (13, false)),.p (.idxS (.t 14) (.c (.int .i64 0))),false,[]⟩,
 ⟨some 16,(some (13, false)),.p (.bin .eql (.t 15) (.c (.int .u8 43))),false,[]⟩,
 ⟨some 17,(some (9, true)),.p (.pick (.t 13) (.c (.bool true)) (.t 16)),false,[]⟩,
 ⟨some 18,none,.p (.pick (.t 9) (.t 17) (.c (.bool false))),false,[]⟩]) (.cond (.t 18) (.region [
 ⟨some 19,none,.p (.mov (.t 0)),false,[]⟩,
 ⟨some 20,none,.p (.slT (.t 19) (some (.c (.int .i64 1))) none),false,[]⟩,
 ⟨some 0,none,.p (.mov (.t 20)),false,[]⟩]) .skip)) (.seq (.region [
 ⟨some 5,none,.p (.mov (.c (.bool false))),false,[]⟩]) (.seq (.seq (.region [
 ⟨some 21,none,.p (.mov (.t 0)),false,[]⟩,
 ⟨some 22,none,.p (.lenS (.t 21)),false,[]⟩,
 ⟨some 23,none,.p (.bin .geq (.t 22) (.c (.int .i64 2))),false,[]⟩,
 ⟨some 24,none,.p (.mov (.t 23)),false,[]⟩,
 ⟨some 25,(some (24, true)),.p (.mov (.t 0)),false,[]⟩,
 ⟨some 26,(some (24, true)),.p (.idxS (.t 25) (.c (.int .i64 0))),false,[]⟩,
 ⟨some 27,(some (24, true)),.p (.bin .eql (.t 26) (.c (.int .u8 48))),false,[]⟩,
 ⟨some 28,none,.p (.pick (.t 24) (.t 27) (.c (.bool false))),false,[]⟩,
 ⟨some 29,none,.p (.mov (.t 28)),false,[]⟩,
 ⟨some 30,(some (29, true)),.p (.mov (.t 0)),false,[]⟩,
 ⟨some 31,(some (29, true)),.p (.idxS (.t 30) (.c (.int .i64 1))),false,[]⟩,
 ⟨some 32,(some (29, true)),.h (.call 62 [(.t 31)]),false,[]⟩,
 ⟨some 33,(some (29, true)),.p (.bin .eql (.t 32) (.c (.int .u8 98))),false,[]⟩,
 ⟨some 34,(some (29, true)),.p (.mov (.t 33)),false,[]⟩,
 ⟨some 35,(some (34, false)),.p (.mov (.t 0)),false,[]⟩,
 ⟨some 36,(some (34, false)),.p (.idxS (.t 35) (.c (.int .i64 1))),false,[]⟩,
 ⟨some 37,(some (34, false)),.h (.call 62 [(.t 36)]),false,[]⟩,
 ⟨some 38,(some (34, false)),.p (.bin .eql (.t 37) (.c (.int .u8 111))),false,[]⟩,
 ⟨some 39,(some (29, true)),.p (.pick (.t 34) (.c (.bool true)) (.t 38)),false,[]⟩,
 ⟨some 40,(some (29, true)),.p (.mov (.t 39)),false,[]⟩,
 ⟨some 41,(some (40, false)),.p (.mov (.t 0)),false,[]⟩,
 ⟨some 42,(some (40, false)),.p (.idxS (.t 41) (.c (.int .i64 1))),false,[]⟩,
 ⟨some 43,(some (40, false)),.h (.call 62 [(.t 42)]),false,[]⟩,
 ⟨some 44,(some (40, false)),.p (.bin .eql (.t 43) (.c (.int .u8 120))),false,[]⟩,
 ⟨some 45,(some (29, true)),.p (.pick (.t 40) (.c (.bool true)) (.t 44)),false,[]⟩,
 ⟨some 46,none,.p (.pick (.t 29) (.t 45) (.c (.bool false))),false,[]⟩]) (.cond (.t 46) (.seq (.region [
 ⟨some 4,none,.p (.mov (.c (.int .i64 2))),false,[]⟩]) (.seq (.region [
 ⟨some 3,none,.p (.mov (.c (.int .i32 48))),false,[]⟩]) (.region [
 ⟨some 47,none,.p (.mov (.t 0)),false,[]⟩,
 ⟨some 48,none,.p (.idxS (.t 47) (.c (.int .i64 1))),false,[]⟩,
 ⟨some 49,none,.h (.call 62 [(.t 48)]),false,[]⟩,
 ⟨some 50,none,.p (.bin .eql (.t 49) (.c (.int .u8 120))),false,[]⟩,
 ⟨some 5,none,.p (.mov (.t 50)),false,[]⟩]))) .skip)) (.seq (.block 0 (.loop (.seq (.seq (.region [
 ⟨some 51,none,.p (.mov (.t 4)),false,[]⟩,
 ⟨some 52,none,.p (.mov (.t 0)),false,[]⟩,
 ⟨some 53,none,.p (.lenS (.t 52)),false,[]⟩,
 ⟨some 54,none,.p (.bin .lss (.t 51) (.t 53)),false,[]⟩]) (.cond (.t 54) .skip (.exit 0))) (.seq (.block 1 (.seq (.seq (.region [
 ⟨some 57,none,.p (.mov (.t 0)),false,[]⟩,
 ⟨some 58,none,.p (.mov (.t 4)),false,[]⟩,
 ⟨some 59,none,.p (.idxS (.t 57) (.t 58)),false,[]⟩,
 ⟨some 60,none,.p (.bin .leq (.c (.int .u8 48)) (.t 59)),false,[]⟩,
 ⟨some 61,none,.p (.mov (.t 60)),false,[]⟩,
 ⟨some 62,(some (61, true)),.p (.mov (.t 0)),false,[]⟩,
 ⟨some 63,(some (61, true)),.p (.mov (.t 4)),false,[]⟩,
 ⟨some 64,(some (61, true)),.p (.idxS (.t 62) (.t 63)),false,[]⟩,
 ⟨some 65,(some (61, true)),.p (.bin .leq (.t 64) (.c (.int .u8 57))),false,[]⟩,
 ⟨some 66,none,.p (.pick (.t 61) (.t 65) (.c (.bool false))),false,[]⟩,
 ⟨some 67,none,.p (.mov (.t 66)),false,[]⟩,
 ⟨some 68,(some (67, false)),.p (.mov (.t 5)),false,[]⟩,
 ⟨some 69,(some (67, false)),.p (.mov (.t 68)),false,[]⟩,
 ⟨some 70,(some (69, true)),.p (.mov (.t 0)),false,[]⟩,
 ⟨some 71,(some (69, true)),.p (.mov (.t 4)),false,[]⟩,
 ⟨some 72,(some (69, true)),.p (.idxS (.t 70) (.t 71)),false,[]⟩,
 ⟨some 73,(some (69, true)),.h (.call 62 [(.t 72)]),false,[]⟩,
 ⟨some 74,(some (69, true)),.p (.bin .leq (.c (.int .u8 97)) (.t 73)),false,[]⟩,
 ⟨some 75,(some (67, false)),.p (.pick (.t 69) (.t 74) (.c (.bool false))),false,[]⟩,
 ⟨some 76,(some (67, false)),.p (.mov (.t 75)),false,[]⟩,
 ⟨some 77,(some (76, true)),.p (.mov (.t 0)),false,[]⟩,
 ⟨some 78,(some (76, true)),.p (.mov (.t 4)),false,[]⟩,
 ⟨some 79,(some (76, true)),.p (.idxS (.t 77) (.t 78)),false,[]⟩,
 ⟨some 80,(some (76, true)),.h (.call 62 [(.t 79)]),false,[]⟩,
 ⟨some 81,(some (76, true)),.p (.bin .leq (.t 80) (.c (.int .u8 102))),false,[]⟩,
 ⟨some 82,(some (67, false)),.p (.pick (.t 76) (.t 81) (.c (.bool false))),false,[]⟩,
 ⟨some 83,none,.p (.pick (.t 67) (.c (.bool true)) (.t 82)),false,[]⟩]) (.cond (.t 83) (.seq (.region [
 ⟨some 3,none,.p (.mov (.c (.int .i32 48))),false,[]⟩]) (.exit 1)) .skip)) (.seq (.seq (.region [
 ⟨some 84,none,.p (.mov (.t 0)),false,[]⟩,
 ⟨some 85,none,.p (.mov (.t 4)),false,[]⟩,
 ⟨some 86,none,.p (.idxS (.t 84) (.t 85)),false,[]⟩,
 ⟨some 87,none,.p (.bin .eql (.t 86) (.c (.int .u8 95))),false,[]⟩]) (.cond (.t 87) (.seq (.seq (.region [
 ⟨some 88,none,.p (.mov (.t 3)),false,[]⟩,
 ⟨some 89,none,.p (.bin .neq (.t 88) (.c (.int .i32 48))),false,[]⟩]) (.cond (.t 89) (.seq (.region [
 ⟨some 2,none,.p (.mov (.c (.bool false))),false,[]⟩]) .ret) .skip)) (.seq (.region [
 ⟨some 3,none,.p (.mov (.c (.int .i32 95))),false,[]⟩]) (.exit 1))) .skip)) (.seq (.seq (.region [
 ⟨some 90,none,.p (.mov (.t 3)),false,[]⟩,
 ⟨some 91,none,.p (.bin .eql (.t 90) (.c (.int .i32 95))),false,[]⟩]) (.cond (.t 91) (.seq (.region [
 ⟨some 2,none,.p (.mov (.c (.bool false))),false,[]⟩]) .ret) .skip)) (.region [
 ⟨some 3,none,.p (.mov (.c (.int .i32 33))),false,[]⟩]))))) (.region [
 ⟨some 55,none,.p (.mov (.t 4)),false,[]⟩,
 ⟨some 56,none,.p (.bin .add (.t 55) (.c (.int .i64 1))),false,[]⟩,
 ⟨some 4,none,.p (.mov (.t 56)),false,[]⟩]))))) (.seq (.region [
 ⟨some 92,none,.p (.mov (.t 3)),false,[]⟩,
 ⟨some 93,none,.p (.bin .neq (.t 92) (.c (.int .i32 95))),false,[]⟩,
 ⟨some 2,none,.p (.mov (.t 93)),false,[]⟩]) .ret))))))))⟩
theorem k63_ok : cfn Tryd.prog gl Tryd.f63 = some k63 := by kernel_rfl
def k64 : CFn := ⟨11, [(.t 4)], (.seq (.region [
 ⟨some 4,none,.p (.mov (.c .nilp)),false,[]⟩]) (.seq (.region [
 ⟨some 5,none,.p (.mov (.t 0)),false,[]⟩,
 ⟨some 6,none,.p (.mov (.t 1)),false,[]⟩,
 ⟨some 7,none,.h (.call 74 [(.t 6)]),true,[]⟩,
 ⟨some 8,none,.h (.load false 1 (.c (.ptr 1 0))),true,[]⟩,
 ⟨some 9,none,.p (.build [(.str []), (.str []), .nili] [(0, 1, (.t 5)), (1, 1, (.t 7)), (2, 1, (.t 8))]),false,[]⟩,
 ⟨some 10,none,.h (.box (.t 9)),false,[]⟩,
 ⟨some 4,none,.p (.mov (.t 10)),false,[]⟩]) .ret))⟩
theorem k64_ok : cfn Tryd.prog gl Tryd.f64 = some k64 := by kernel_rfl
def k65 : CFn := ⟨11, [(.t 4)], (.seq (.region [
 ⟨some 4,none,.p (.mov (.c .nilp)),false,[]⟩]) (.seq (.region [
 ⟨some 5,none,.p (.mov (.t 0)),false,[]⟩,
 ⟨some 6,none,.p (.mov (.t 1)),false,[]⟩,
 ⟨some 7,none,.h (.call 74 [(.t 6)]),true,[]⟩,
 ⟨some 8,none,.h (.load false 1 (.c (.ptr 2 0))),true,[]⟩,
 ⟨some 9,none,.p (.build [(.str []), (.str []), .nili] [(0, 1, (.t 5)), (1, 1, (.t 7)), (2, 1, (.t 8))]),false,[]⟩,
 ⟨some 10,none,.h (.box (.t 9)),false,[]⟩,
 ⟨some 4,none,.p (.mov (.t 10)),false,[]⟩]) .ret))⟩
theorem k65_ok : cfn Tryd.prog gl Tryd.f65 = some k65 := by kernel_rfl
def k66 : CFn := ⟨16, [(.t 6)], (.seq (.region [
 ⟨some 6,none,.p (.mov (.c .nilp)),false,[]⟩]) (.seq (.region [
 ⟨some 7,none,.p (.mov (.t 0)),false,[]⟩,
 ⟨some 8,none,.p (.mov (.t 1)),false,[]⟩,
 ⟨some 9,none,.h (.call 74 [(.t 8)]),false,[]⟩,
 ⟨some 10,none,.p (.mov (.t 2)),false,[]⟩,
 ⟨some 11,none,.h (.call 51 [(.t 10)]),false,[]⟩,
 ⟨some 12,none,.p (.bin .add (.c (.str [105, 110, 118, 97, 108, 105, 100, 32, 98, 97, 115, 101, 32])) (.t 11)),false,[]⟩,
 ⟨some 13,none,.h (.call 75 [(.t 12)]),false,[]⟩,
 ⟨some 14,none,.p (.build [(.str []), (.str []), .nili] [(0, 1, (.t 7)), (1, 1, (.t 9)), (2, 1, (.t 13))]),false,[]⟩,
 ⟨some 15,none,.h (.box (.t 14)),false,[]⟩,
 ⟨some 6,none,.p (.mov (.t 15)),false,[]⟩]) .ret))⟩
theorem k66_ok : cfn Tryd.prog gl Tryd.f66 = some k66 := by kernel_rfl
def k67 : CFn := ⟨16, [(.t 6)], (.seq (.region [
 ⟨some 6,none,.p (.mov (.c .nilp)),false,[]⟩]) (.seq (.region [
 ⟨some 7,none,.p (.mov (.t 0)),false,[]⟩,
 ⟨some 8,none,.p (.mov (.t 1)),false,[]⟩,
 ⟨some 9,none,.h (.call 74 [(.t 8)]),false,[]⟩,
 ⟨some 10,none,.p (.mov (.t 2)),false,[]⟩,
 ⟨some 11,none,.h (.call 51 [(.t 10)]),false,[]⟩,
 ⟨some 12,none,.p (.bin .add (.c (.str [105, 110, 118, 97, 108, 105, 100, 32, 98, 105, 116, 32, 115, 105, 122, 101, 32])) (.t 11)),false,[]⟩,
 ⟨some 13,none,.h (.call 75 [(.t 12)]),false,[]⟩,
 ⟨some 14,none,.p (.build [(.str []), (.str []), .nili] [(0, 1, (.t 7)), (1, 1, (.t 9)), (2, 1, (.t 13))]),false,[]⟩,
 ⟨some 15,none,.h (.box (.t 14)),false,[]⟩,
 ⟨some 6,none,.p (.mov (.t 15)),false,[]⟩]) .ret))⟩
theorem k67_ok : cfn Tryd.prog gl Tryd.f67 = some k67 := by kernel_rfl
def k68 : CFn := ⟨73, [(.t 6), (.t 7)], (.seq (.region [
 ⟨some 6,none,.p (.mov (.c (.int .i64 0))),false,[]⟩,
 ⟨some 7,none,.p (.mov (.c .nili)),false,[]⟩]) (.seq (.seq (.region [
 ⟨some 12,none,.p (.mov (.t 0)),false,[]⟩,
 ⟨some 13,none,.p (.bin .eql (.t 12) (.c (.str []))),false,[]⟩]) (.cond (.t 13) (.seq (.region [
 ⟨some 14,none,.p (.mkif 105 (.c (.int .i64 2))),false,[]⟩,
 ⟨some 6,none,.p (.mov (.c (.int .i64 0))),false,[]⟩,
 ⟨some 7,none,.p (.mov (.t 14)),false,[]⟩]) .ret) .skip)) (.seq (.region [
 ⟨some 8,none,.p (.mov (.c (.bool false))),false,[]⟩]) (.seq (.seq (.region [
 ⟨some 15,none,.p (.mov (.t 0)),false,[]⟩,
 ⟨some 16,none,.p (.idxS (.t 15) (.c (.int .i64 0))),false,[]⟩]) (.block 0 (.seq (.region [
 ⟨some 18,none,.p (.bin .eql (.t 16) (.c (.int .u8 43))),false,[]⟩,
 ⟨some 17,none,.p (.mov (.t 18)),false,[]⟩]) (.cond (.t 17) (.region [
 ⟨some 19,none,.p (.mov (.t 0)),false,[]⟩,
 ⟨some 20,none,.p (.slT (.t 19) (some (.c (.int .i64 1))) none),false,[]⟩,
 ⟨some 0,none,.p (.mov (.t 20)),false,[]⟩]) (.seq (.region [
 ⟨some 22,none,.p (.bin .eql (.t 16) (.c (.int .u8 45))),false,[]⟩,
 ⟨some 21,none,.p (.mov (.t 22)),false,[]⟩]) (.cond (.t 21) (.seq (.region [
 ⟨some 23,none,.p (.mov (.t 0)),false,[]⟩,
 ⟨some 24,none,.p (.slT (.t 23) (some (.c (.int .i64 1))) none),false,[]⟩,
 ⟨some 0,none,.p (.mov (.t 24)),false,[]⟩]) (.region [
 ⟨some 8,none,.p (.mov (.c (.bool true))),false,[]⟩])) .skip)))))) (.seq (.region [
 ⟨some 9,none,.p (.mov (.c (.int .u64 0))),false,[]⟩]) (.seq (.region [
 ⟨some 26,none,.p (.mov (.t 0)),false,[]⟩,
 ⟨some 27,none,.p (.mov (.t 1)),false,[]⟩,
 ⟨some 28,none,.p (.mov (.t 2)),false,[]⟩,
 ⟨some 29,none,.h (.call 55 [(.t 26), (.t 27), (.t 28)]),false,[]⟩,
 ⟨some 25,none,.p (.mov (.t 29)),false,[]⟩,
 ⟨some 30,none,.p (.ext 0 (.t 25)),false,[]⟩,
 ⟨some 31,none,.p (.ext 1 (.t 25)),false,[]⟩,
 ⟨some 9,none,.p (.mov (.t 30)),false,[]⟩,
 ⟨some 7,none,.p (.mov (.t 31)),false,[]⟩]) (.seq (.seq (.region [
 ⟨some 32,none,.p (.mov (.t 7)),false,[]⟩,
 ⟨some 33,none,.p (.eqn true 0 (.t 32) (.c .nili)),false,[]⟩,
 ⟨some 34,none,.p (.mov (.t 33)),false,[]⟩,
 ⟨some 35,(some (34, true)),.p (.mov (.t 7)),false,[]⟩,
 ⟨some 36,(some (34, true)),.p (.mkif 105 (.c (.int .i64 1))),false,[]⟩,
 ⟨some 37, (some (34, true)), (.h .bad),false,[]⟩,
 ⟨some 38,none,.p (.pick (.t 34) (.t 37) (.c (.bool false))),false,[]⟩]) (.cond (.t 38) (.seq (.region [
 ⟨some 39,none,.p (.mov (.t 7)),false,[]⟩,
 ⟨some 6,none,.p (.mov (.c (.int .i64 0))),false,[]⟩,
 ⟨some 7,none,.p (.mov (.t 39)),false,[]⟩]) .ret) .skip)) (.seq (.seq (.region [
 ⟨some 40,none,.p (.mov (.t 2)),false,[]⟩,
 ⟨some 41,none,.p (.bin .eql (.t 40) (.c (.int .i64 0))),false,[]⟩]) (.cond (.t 41) (.region [
 ⟨some 2,none,.p (.mov (.c (.int .i64 64))),false,[]⟩]) .skip)) (.seq (.region [
 ⟨some 42,none,.p (.mov (.t 2)),false,[]⟩,
 ⟨some 43,none,.p (.bin .sub (.t 42) (.c (.int .i64 1))),false,[]⟩,
 ⟨some 44,none,.p (.cvi .u64 (.t 43)),false,[]⟩,
 ⟨some 45,none,.p (.bin .shl (.c (.int .u64 1)) (.t 44)),false,[]⟩,
 ⟨some 10,none,.p (.mov (.t 45)),false,[]⟩]) (.seq (.seq (.region [
 ⟨some 46,none,.p (.mov (.t 8)),false,[]⟩,
 ⟨some 47,none,.p (.not (.t 46)),false,[]⟩,
 ⟨some 48,none,.p (.mov (.t 47)),false,[]⟩,
 ⟨some 49,(some (48, true)),.p (.mov (.t 9)),false,[]⟩,
 ⟨some 50,(some (48, true)),.p (.mov (.t 10)),false,[]⟩,
 ⟨some 51,(some (48, true)),.p (.bin .geq (.t 49) (.t 50)),false,[]⟩,
 ⟨some 52,none,.p (.pick (.t 48) (.t 51) (.c (.bool false))),false,[]⟩]) (.cond (.t 52) (.seq (.region [
 ⟨some 53,none,.p (.mov (.t 10)),false,[]⟩,
 ⟨some 54,none,.p (.bin .sub (.t 53) (.c (.int .u64 1))),false,[]⟩,
 ⟨some 55,none,.p (.cvi .i64 (.t 54)),false,[]⟩,
 ⟨some 56,none,.p (.mkif 105 (.c (.int .i64 1))),false,[]⟩,
 ⟨some 6,none,.p (.mov (.t 55)),false,[]⟩,
 ⟨some 7,none,.p (.mov (.t 56)),false,[]⟩]) .ret) .skip)) (.seq (.seq (.region [
 ⟨some 57,none,.p (.mov (.t 8)),false,[]⟩,
 ⟨some 58,none,.p (.mov (.t 57)),false,[]⟩,
 ⟨some 59,(some (58, true)),.p (.mov (.t 9)),false,[]⟩,
 ⟨some 60,(some (58, true)),.p (.mov (.t 10)),false,[]⟩,
 ⟨some 61,(some (58, true)),.p (.bin .gtr (.t 59) (.t 60)),false,[]⟩,
 ⟨some 62,none,.p (.pick (.t 58) (.t 61) (.c (.bool false))),false,[]⟩]) (.cond (.t 62) (.seq (.region [
 ⟨some 63,none,.p (.mov (.t 10)),false,[]⟩,
 ⟨some 64,none,.p (.cvi .i64 (.t 63)),false,[]⟩,
 ⟨some 65,none,.p (.neg (.t 64)),false,[]⟩,
 ⟨some 66,none,.p (.mkif 105 (.c (.int .i64 1))),false,[]⟩,
 ⟨some 6,none,.p (.mov (.t 65)),false,[]⟩,
 ⟨some 7,none,.p (.mov (.t 66)),false,[]⟩]) .ret) .skip)) (.seq (.region [
 ⟨some 67,none,.p (.mov (.t 9)),false,[]⟩,
 ⟨some 68,none,.p (.cvi .i64 (.t 67)),false,[]⟩,
 ⟨some 11,none,.p (.mov (.t 68)),false,[]⟩]) (.seq (.seq (.region [
 ⟨some 69,none,.p (.mov (.t 8)),false,[]⟩]) (.cond (.t 69) (.region [
 ⟨some 70,none,.p (.mov (.t 11)),false,[]⟩,
 ⟨some 71,none,.p (.neg (.t 70)),false,[]⟩,
 ⟨some 11,none,.p (.mov (.t 71)),false,[]⟩]) .skip)) (.seq (.region [
 ⟨some 72,none,.p (.mov (.t 11)),false,[]⟩,
 ⟨some 6,none,.p (.mov (.t 72)),false,[]⟩,
 ⟨some 7,none,.p (.mov (.c .nili)),false,[]⟩]) .ret))))))))))))))⟩
theorem k68_ok : cfn Tryd.prog gl Tryd.f68 = some k68 := by kernel_rfl
def k69 : CFn := ⟨54, [(.t 4)], (.seq (.region [
 ⟨some 4,none,.p (.mov (.c (.str []))),false,[]⟩]) (.seq (.seq (.region [
 ⟨some 10,none,.p (.mov (.t 1)),false,[]⟩,
 ⟨some 11,none,.p (.bin .eql (.t 10) (.c (.int .i64 10))),false,[]⟩]) (.cond (.t 11) (.seq (.seq (.region [
 ⟨some 12,none,.p (.mov (.t 0)),false,[]⟩,
 ⟨some 13,none,.p (.bin .leq (.c (.int .i64 0)) (.t 12)),false,[]⟩,
 ⟨some 14,none,.p (.mov (.t 13)),false,[]⟩,
 ⟨some 15,(some (14, true)),.p (.mov (.t 0)),false,[]⟩,
 ⟨some 16,(some (14, true)),.p (.bin .lss (.t 15) (.c (.int .i64 100))),false,[]⟩,
 ⟨some 17,none,.p (.pick (.t 14) (.t 16) (.c (.bool false))),false,[]⟩]) (.cond (.t 17) (.seq (.region [
 ⟨some 18,none,.p (.mov (.t 0)),false,[]⟩,
 ⟨some 19,none,.h (.call 76 [(.t 18)]),false,[]⟩,
 ⟨some 4,none,.p (.mov (.t 19)),false,[]⟩]) .ret) .skip)) (.seq (.region [
 ⟨some 5,none,.h (.alloc [(.int .u8 0), (.int .u8 0), (.int .u8 0), (.int .u8 0), (.int .u8 0), (.int .u8 0), (.int .u8 0), (.int .u8 0), (.int .u8 0), (.int .u8 0), (.int .u8 0), (.int .u8 0), (.int .u8 0), (.int .u8 0), (.int .u8 0), (.int .u8 0), (.int .u8 0), (.int .u8 0), (.int .u8 0), (.int .u8 0), (.int .u8 0), (.int .u8 0), (.int .u8 0), (.int .u8 0)]),false,[]⟩]) (.seq (.region [
 ⟨some 20,none,.p (.mov (.t 0)),false,[]⟩,
 ⟨some 21,none,.p (.cvi .u64 (.t 20)),false,[]⟩,
 ⟨some 6,none,.p (.mov (.t 21)),false,[]⟩]) (.seq (.seq (.region [
 ⟨some 22,none,.p (.mov (.t 0)),false,[]⟩,
 ⟨some 23,none,.p (.bin .lss (.t 22) (.c (.int .i64 0))),false,[]⟩]) (.cond (.t 23) (.region [
 ⟨some 24,none,.p (.mov (.t 6)),false,[]⟩,
 ⟨some 25,none,.p (.neg (.t 24)),false,[]⟩,
 ⟨some 6,none,.p (.mov (.t 25)),false,[]⟩]) .skip)) (.seq (.region [
 ⟨some 26,none,.p (.mov (.t 6)),false,[]⟩,
 ⟨some 27,none,.h (.call 77 [(.t 26)]),false,[]⟩,
 ⟨some 7,none,.p (.mov (.t 27)),false,[]⟩]) (.seq (.region [
 ⟨some 28,none,.p (.mov (.t 7)),false,[]⟩,
 ⟨some 29,none,.p (.bin .add (.c (.int .i64 1)) (.t 28)),false,[]⟩,
 ⟨some 30,none,.h (.slA 24 1 (.t 5) (some (.c (.int .i64 1))) (some (.t 29)) none),false,[]⟩,
 ⟨some 31,none,.p (.mov (.t 6)),false,[]⟩,
 ⟨some 32,none,.h (.call 78 [(.t 30), (.t 31)]),false,[]⟩]) (.seq (.seq (.region [
 ⟨some 33,none,.p (.mov (.t 0)),false,[]⟩,
 ⟨some 34,none,.p (.bin .lss (.t 33) (.c (.int .i64 0))),false,[]⟩]) (.cond (.t 34) (.seq (.region [
 ⟨some 35,none,.p (.iadA 24 1 (.t 5) (.c (.int .i64 0))),false,[]⟩,
 ⟨none,none,.h (.store 1 (.t 35) (.c (.int .u8 45))),false,[]⟩]) (.seq (.region [
 ⟨some 36,none,.p (.mov (.t 7)),false,[]⟩,
 ⟨some 37,none,.p (.bin .add (.c (.int .i64 1)) (.t 36)),false,[]⟩,
 ⟨some 38,none,.h (.slA 24 1 (.t 5) none (some (.t 37)) none),false,[]⟩,
 ⟨some 39,none,.h (.b2s (.t 38)),false,[]⟩,
 ⟨some 4,none,.p (.mov (.t 39)),false,[]⟩]) .ret)) .skip)) (.seq (.region [
 ⟨some 40,none,.p (.mov (.t 7)),false,[]⟩,
 ⟨some 41,none,.p (.bin .add (.c (.int .i64 1)) (.t 40)),false,[]⟩,
 ⟨some 42,none,.h (.slA 24 1 (.t 5) (some (.c (.int .i64 1))) (some (.t 41)) none),false,[]⟩,
 ⟨some 43,none,.h (.b2s (.t 42)),false,[]⟩,
 ⟨some 4,none,.p (.mov (.t 43)),false,[]⟩]) .ret)))))))) .skip)) (.seq (.region [
 ⟨some 45,none,.p (.mov (.t 0)),false,[]⟩,
 ⟨some 46,none,.p (.cvi .u64 (.t 45)),false,[]⟩,
 ⟨some 47,none,.p (.mov (.t 1)),false,[]⟩,
 ⟨some 48,none,.p (.mov (.t 0)),false,[]⟩,
 ⟨some 49,none,.p (.bin .lss (.t 48) (.c (.int .i64 0))),false,[]⟩,
 ⟨some 50,none,.h (.call 79 [(.c .nils), (.t 46), (.t 47), (.t 49), (.c (.bool false))]),false,[]⟩,
 ⟨some 44,none,.p (.mov (.t 50)),false,[]⟩,
 ⟨some 51,none,.p (.ext 0 (.t 44)),false,[]⟩,
 ⟨some 52,none,.p (.ext 1 (.t 44)),false,[]⟩,
 ⟨some 8,none,.p (.mov (.t 51)),false,[]⟩,
 ⟨some 9,none,.p (.mov (.t 52)),false,[]⟩]) (.seq (.region [
 ⟨some 53,none,.p (.mov (.t 9)),false,[]⟩,
 ⟨some 4,none,.p (.mov (.t 53)),false,[]⟩]) .ret))))⟩
theorem k69_ok : cfn Tryd.prog gl Tryd.f69 = some k69 := by kernel_rfl
def k70 : CFn := ⟨10, [(.t 2)], (.seq (.region [
 ⟨some 2,none,.p (.mov (.c (.int .i64 0))),false,[]⟩]) (.seq (.seq (.region [
 ⟨some 3,none,.p (.mov (.t 0)),false,[]⟩,
 ⟨some 4,none,.h (.range (.t 3)),false,[]⟩]) (.block 0 (.loop (.seq (.region [
 ⟨some 5,none,.h (.next (.t 4)),false,[]⟩,
 ⟨some 6,none,.p (.ext 0 (.t 5)),false,[]⟩]) (.seq (.cond (.t 6) .skip (.exit 0)) (.block 1 (.region [
 ⟨some 7,none,.p (.mov (.t 2)),false,[]⟩,
 ⟨some 8,none,.p (.bin .add (.t 7) (.c (.int .i64 1))),false,[]⟩,
 ⟨some 2,none,.p (.mov (.t 8)),false,[]⟩]))))))) (.seq (.region [
 ⟨some 9,none,.p (.mov (.t 2)),false,[]⟩,
 ⟨some 2,none,.p (.mov (.t 9)),false,[]⟩]) .ret)))⟩
theorem k70_ok : cfn Tryd.prog gl Tryd.f70 = some k70 := by kernel_rfl
def k71 : CFn := ⟨19, [(.t 2), (.t 3)], (.seq (.region [
 ⟨some 2,none,.p (.mov (.c (.int .i32 0))),false,[]⟩,
 ⟨some 3,none,.p (.mov (.c (.int .i64 0))),false,[]⟩]) (.seq (.seq (.region [
 ⟨some 4,none,.p (.mov (.t 0)),false,[]⟩,
 ⟨some 5,none,.p (.bin .neq (.t 4) (.c (.str []))),false,[]⟩,
 ⟨some 6,none,.p (.mov (.t 5)),false,[]⟩,
 ⟨some 7,(some (6, true)),.p (.mov (.t 0)),false,[]⟩,
 ⟨some 8,(some (6, true)),.p (.idxS (.t 7) (.c (.int .i64 0))),false,[]⟩,
 ⟨some 9,(some (6, true)),.p (.bin .lss (.t 8) (.c (.int .u8 128))),false,[]⟩,
 ⟨some 10,none,.p (.pick (.t 6) (.t 9) (.c (.bool false))),false,[]⟩]) (.cond (.t 10) (.seq (.region [
 ⟨some 11,none,.p (.mov (.t 0)),false,[]⟩,
 ⟨some 12,none,.p (.idxS (.t 11) (.c (.int .i64 0))),false,[]⟩,
 ⟨some 13,none,.p (.cvi .i32 (.t 12)),false,[]⟩,
 ⟨some 2,none,.p (.mov (.t 13)),false,[]⟩,
 ⟨some 3,none,.p (.mov (.c (.int .i64 1))),false,[]⟩]) .ret) (.region [
 ⟨some 15,none,.p (.mov (.t 0)),false,[]⟩,
 ⟨some 16,none,.h (.call 80 [(.t 15)]),false,[]⟩,
 ⟨some 14,none,.p (.mov (.t 16)),false,[]⟩,
 ⟨some 17,none,.p (.ext 0 (.t 14)),false,[]⟩,
 ⟨some 18,none,.p (.ext 1 (.t 14)),false,[]⟩,
 ⟨some 2,none,.p (.mov (.t 17)),false,[]⟩,
 ⟨some 3,none,.p (.mov (.t 18)),false,[]⟩]))) .ret))⟩
theorem k71_ok : cfn Tryd.prog gl Tryd.f71 = some k71 := by kernel_rfl
def k73 : CFn := ⟨143, [(.t 4)], (.seq (.region [
 ⟨some 4,none,.p (.mov (.c (.int .i64 0))),false,[]⟩]) (.seq (.region [
 ⟨some 14,none,.p (.mov (.t 1)),false,[]⟩,
 ⟨some 15,none,.p (.lenS (.t 14)),false,[]⟩,
 ⟨some 5,none,.p (.mov (.t 15)),false,[]⟩]) (.seq (.block 0 (.seq (.region [
 ⟨some 17,none,.p (.mov (.t 5)),false,[]⟩,
 ⟨some 18,none,.p (.bin .eql (.t 17) (.c (.int .i64 0))),false,[]⟩,
 ⟨some 19,none,.p (.mov (.t 18)),false,[]⟩,
 ⟨some 20,(some (19, false)),.p (.mov (.t 1)),false,[]⟩,
 ⟨some 21,(some (19, false)),.p (.mov (.t 0)),false,[]⟩,
 ⟨some 22,(some (19, false)),.p (.bin .eql (.t 20) (.t 21)),false,[]⟩,
 ⟨some 23,none,.p (.pick (.t 19) (.c (.bool true)) (.t 22)),false,[]⟩,
 ⟨some 16,none,.p (.mov (.t 23)),false,[]⟩]) (.cond (.t 16) (.seq (.region [
 ⟨some 4,none,.p (.mov (.c (.int .i64 0))),false,[]⟩]) .ret) (.seq (.region [
 ⟨some 25,none,.p (.mov (.t 5)),false,[]⟩,
 ⟨some 26,none,.p (.bin .eql (.t 25) (.c (.int .i64 1))),false,[]⟩,
 ⟨some 24,none,.p (.mov (.t 26)),false,[]⟩]) (.cond (.t 24) (.seq (.region [
 ⟨some 27,none,.p (.mov (.t 0)),false,[]⟩,
 ⟨some 28,none,.p (.mov (.t 1)),false,[]⟩,
 ⟨some 29,none,.p (.idxS (.t 28) (.c (.int .i64 0))),false,[]⟩,
 ⟨some 30,none,.h (.call 81 [(.t 27), (.t 29)]),false,[]⟩,
 ⟨some 4,none,.p (.mov (.t 30)),false,[]⟩]) .ret) (.seq (.region [
 ⟨some 32,none,.p (.mov (.t 5)),false,[]⟩,
 ⟨some 33,none,.p (.mov (.t 0)),false,[]⟩,
 ⟨some 34,none,.p (.lenS (.t 33)),false,[]⟩,
 ⟨some 35,none,.p (.bin .geq (.t 32) (.t 34)),false,[]⟩,
 ⟨some 31,none,.p (.mov (.t 35)),false,[]⟩]) (.cond (.t 31) (.seq (.region [
 ⟨some 4,none,.p (.mov (.c (.int .i64 (-1)))),false,[]⟩]) .ret) (.seq (.region [
 ⟨some 37,none,.p (.mov (.t 5)),false,[]⟩,
 ⟨some 38,none,.h (.load false 1 (.c (.ptr 3 0))),false,[]⟩,
 ⟨some 39,none,.p (.bin .leq (.t 37) (.t 38)),false,[]⟩,
 ⟨some 40,none,.p (.mov (.t 39)),false,[]⟩,
 ⟨some 41,(some (40, true)),.p (.mov (.t 0)),false,[]⟩,
 ⟨some 42,(some (40, true)),.p (.lenS (.t 41)),false,[]⟩,
 ⟨some 43,(some (40, true)),.p (.bin .leq (.t 42) (.c (.int .i64 64))),false,[]⟩,
 ⟨some 44,none,.p (.pick (.t 40) (.t 43) (.c (.bool false))),false,[]⟩,
 ⟨some 36,none,.p (.mov (.t 44)),false,[]⟩]) (.cond (.t 36) (.seq (.region [
 ⟨some 45,none,.p (.mov (.t 0)),false,[]⟩,
 ⟨some 46,none,.p (.mov (.t 1)),false,[]⟩,
 ⟨some 47, none, (.h .bad),false,[]⟩,
 ⟨some 4,none,.p (.mov (.t 47)),false,[]⟩]) .ret) .skip))))))))) (.seq (.region [
 ⟨some 48,none,.p (.mov (.t 1)),false,[]⟩,
 ⟨some 49,none,.p (.idxS (.t 48) (.c (.int .i64 0))),false,[]⟩,
 ⟨some 6,none,.p (.mov (.t 49)),false,[]⟩]) (.seq (.region [
 ⟨some 50,none,.p (.mov (.t 1)),false,[]⟩,
 ⟨some 51,none,.p (.idxS (.t 50) (.c (.int .i64 1))),false,[]⟩,
 ⟨some 7,none,.p (.mov (.t 51)),false,[]⟩]) (.seq (.region [
 ⟨some 8,none,.p (.mov (.c (.int .i64 0))),false,[]⟩]) (.seq (.region [
 ⟨some 52,none,.p (.mov (.t 0)),false,[]⟩,
 ⟨some 53,none,.p (.lenS (.t 52)),false,[]⟩,
 ⟨some 54,none,.p (.mov (.t 5)),false,[]⟩,
 ⟨some 55,none,.p (.bin .sub (.t 53) (.t 54)),false,[]⟩,
 ⟨some 56,none,.p (.bin .add (.t 55) (.c (.int .i64 1))),false,[]⟩,
 ⟨some 9,none,.p (.mov (.t 56)),false,[]⟩]) (.seq (.region [
 ⟨some 10,none,.p (.mov (.c (.int .i64 0))),false,[]⟩]) (.seq (.block 1 (.loop (.seq (.seq (.region [
 ⟨some 57,none,.p (.mov (.t 8)),false,[]⟩,
 ⟨some 58,none,.p (.mov (.t 9)),false,[]⟩,
 ⟨some 59,none,.p (.bin .lss (.t 57) (.t 58)),false,[]⟩]) (.cond (.t 59) .skip (.exit 1))) (.block 2 (.seq (.seq (.region [
 ⟨some 60,none,.p (.mov (.t 0)),false,[]⟩,
 ⟨some 61,none,.p (.mov (.t 8)),false,[]⟩,
 ⟨some 62,none,.p (.idxS (.t 60) (.t 61)),false,[]⟩,
 ⟨some 63,none,.p (.mov (.t 6)),false,[]⟩,
 ⟨some 64,none,.p (.bin .neq (.t 62) (.t 63)),false,[]⟩]) (.cond (.t 64) (.seq (.region [
 ⟨some 65,none,.p (.mov (.t 0)),false,[]⟩,
 ⟨some 66,none,.p (.mov (.t 8)),false,[]⟩,
 ⟨some 67,none,.p (.bin .add (.t 66) (.c (.int .i64 1))),false,[]⟩,
 ⟨some 68,none,.p (.mov (.t 9)),false,[]⟩,
 ⟨some 69,none,.p (.slT (.t 65) (some (.t 67)) (some (.t 68))),false,[]⟩,
 ⟨some 70,none,.p (.mov (.t 6)),false,[]⟩,
 ⟨some 71,none,.h (.call 81 [(.t 69), (.t 70)]),false,[]⟩,
 ⟨some 11,none,.p (.mov (.t 71)),false,[]⟩]) (.seq (.seq (.region [
 ⟨some 72,none,.p (.mov (.t 11)),false,[]⟩,
 ⟨some 73,none,.p (.bin .lss (.t 72) (.c (.int .i64 0))),false,[]⟩]) (.cond (.t 73) (.seq (.region [
 ⟨some 4,none,.p (.mov (.c (.int .i64 (-1)))),false,[]⟩]) .ret) .skip)) (.region [
 ⟨some 74,none,.p (.mov (.t 8)),false,[]⟩,
 ⟨some 75,none,.p (.mov (.t 11)),false,[]⟩,
 ⟨some 76,none,.p (.bin .add (.t 75) (.c (.int .i64 1))),false,[]⟩,
 ⟨some 77,none,.p (.bin .add (.t 74) (.t 76)),false,[]⟩,
 ⟨some 8,none,.p (.mov (.t 77)),false,[]⟩]))) .skip)) (.seq (.seq (.region [
 ⟨some 78,none,.p (.mov (.t 0)),false,[]⟩,
 ⟨some 79,none,.p (.mov (.t 8)),false,[]⟩,
 ⟨some 80,none,.p (.bin .add (.t 79) (.c (.int .i64 1))),false,[]⟩,
 ⟨some 81,none,.p (.idxS (.t 78) (.t 80)),false,[]⟩,
 ⟨some 82,none,.p (.mov (.t 7)),false,[]⟩,
 ⟨some 83,none,.p (.bin .eql (.t 81) (.t 82)),false,[]⟩,
 ⟨some 84,none,.p (.mov (.t 83)),false,[]⟩,
 ⟨some 85,(some (84, true)),.p (.mov (.t 0)),false,[]⟩,
 ⟨some 86,(some (84, true)),.p (.mov (.t 8)),false,[]⟩,
 ⟨some 87,(some (84, true)),.p (.mov (.t 8)),false,[]⟩,
 ⟨some 88,(some (84, true)),.p (.mov (.t 5)),false,[]⟩,
 ⟨some 89,(some (84, true)),.p (.bin .add (.t 87) (.t 88)),false,[]⟩,
 ⟨some 90,(some (84, true)),.p (.slT (.t 85) (some (.t 86)) (some (.t 89))),false,[]⟩,
 ⟨some 91,(some (84, true)),.p (.mov (.t 1)),false,[]⟩,
 ⟨some 92,(some (84, true)),.p (.bin .eql (.t 90) (.t 91)),false,[]⟩,
 ⟨some 93,none,.p (.pick (.t 84) (.t 92) (.c (.bool false))),false,[]⟩]) (.cond (.t 93) (.seq (.region [
 ⟨some 94,none,.p (.mov (.t 8)),false,[]⟩,
 ⟨some 4,none,.p (.mov (.t 94)),false,[]⟩]) .ret) .skip)) (.seq (.region [
 ⟨some 95,none,.p (.mov (.t 8)),false,[]⟩,
 ⟨some 96,none,.p (.bin .add (.t 95) (.c (.int .i64 1))),false,[]⟩,
 ⟨some 8,none,.p (.mov (.t 96)),false,[]⟩]) (.seq (.region [
 ⟨some 97,none,.p (.mov (.t 10)),false,[]⟩,
 ⟨some 98,none,.p (.bin .add (.t 97) (.c (.int .i64 1))),false,[]⟩,
 ⟨some 10,none,.p (.mov (.t 98)),false,[]⟩]) (.seq (.region [
 ⟨some 99,none,.p (.mov (.t 5)),false,[]⟩,
 ⟨some 100,none,.h (.load false 1 (.c (.ptr 3 0))),false,[]⟩,
 ⟨some 101,none,.p (.bin .leq (.t 99) (.t 100)),false,[]⟩,
 ⟨some 102,none,.p (.mov (.t 101)),false,[]⟩,
 ⟨some 103,(some (102, true)),.p (.mov (.t 10)),false,[]⟩,
 ⟨some 104,(some (102, true)),.p (.mov (.t 8)),false,[]⟩,
 ⟨some 105,(some (102, true)),.h (.call 83 [(.t 104)]),false,[]⟩,
 ⟨some 106,(some (102, true)),.p (.bin .gtr (.t 103) (.t 105)),false,[]⟩,
 ⟨some 107,none,.p (.pick (.t 102) (.t 106) (.c (.bool false))),false,[]⟩]) (.cond (.t 107) (.seq (.region [
 ⟨some 108,none,.p (.mov (.t 0)),false,[]⟩,
 ⟨some 109,none,.p (.mov (.t 8)),false,[]⟩,
 ⟨some 110,none,.p (.slT (.t 108) (some (.t 109)) none),false,[]⟩,
 ⟨some 111,none,.p (.mov (.t 1)),false,[]⟩,
 ⟨some 112, none, (.h .bad),false,[]⟩,
 ⟨some 12,none,.p (.mov (.t 112)),false,[]⟩]) (.seq (.seq (.region [
 ⟨some 113,none,.p (.mov (.t 12)),false,[]⟩,
 ⟨some 114,none,.p (.bin .geq (.t 113) (.c (.int .i64 0))),false,[]⟩]) (.cond (.t 114) (.seq (.region [
 ⟨some 115,none,.p (.mov (.t 12)),false,[]⟩,
 ⟨some 116,none,.p (.mov (.t 8)),false,[]⟩,
 ⟨some 117,none,.p (.bin .add (.t 115) (.t 116)),false,[]⟩,
 ⟨some 4,none,.p (.mov (.t 117)),false,[]⟩]) .ret) .skip)) (.seq (.region [
 ⟨some 4,none,.p (.mov (.c (.int .i64 (-1)))),false,[]⟩]) .ret))) (.seq (.region [
 ⟨some 118,none,.p (.mov (.t 5)),false,[]⟩,
 ⟨some 119,none,.h (.load false 1 (.c (.ptr 3 0))),false,[]⟩,
 ⟨some 120,none,.p (.bin .gtr (.t 118) (.t 119)),false,[]⟩,
 ⟨some 121,none,.p (.mov (.t 120)),false,[]⟩,
 ⟨some 122,(some (121, true)),.p (.mov (.t 10)),false,[]⟩,
 ⟨some 123,(some (121, true)),.p (.mov (.t 8)),false,[]⟩,
 ⟨some 124,(some (121, true)),.p (.bin .shr (.t 123) (.c (.int .u64 4))),false,[]⟩,
 ⟨some 125,(some (121, true)),.p (.bin .add (.c (.int .i64 4)) (.t 124)),false,[]⟩,
 ⟨some 126,(some (121, true)),.p (.bin .geq (.t 122) (.t 125)),false,[]⟩,
 ⟨some 127,none,.p (.pick (.t 121) (.t 126) (.c (.bool false))),false,[]⟩,
 ⟨some 128,none,.p (.mov (.t 127)),false,[]⟩,
 ⟨some 129,(some (128, true)),.p (.mov (.t 8)),false,[]⟩,
 ⟨some 130,(some (128, true)),.p (.mov (.t 9)),false,[]⟩,
 ⟨some 131,(some (128, true)),.p (.bin .lss (.t 129) (.t 130)),false,[]⟩,
 ⟨some 132,none,.p (.pick (.t 128) (.t 131) (.c (.bool false))),false,[]⟩]) (.cond (.t 132) (.seq (.region [
 ⟨some 133,none,.p (.mov (.t 0)),false,[]⟩,
 ⟨some 134,none,.p (.mov (.t 8)),false,[]⟩,
 ⟨some 135,none,.p (.slT (.t 133) (some (.t 134)) none),false,[]⟩,
 ⟨some 136,none,.p (.mov (.t 1)),false,[]⟩,
 ⟨some 137,none,.h (.call 84 [(.t 135), (.t 136)]),false,[]⟩,
 ⟨some 13,none,.p (.mov (.t 137)),false,[]⟩]) (.seq (.seq (.region [
 ⟨some 138,none,.p (.mov (.t 13)),false,[]⟩,
 ⟨some 139,none,.p (.bin .lss (.t 138) (.c (.int .i64 0))),false,[]⟩]) (.cond (.t 139) (.seq (.region [
 ⟨some 4,none,.p (.mov (.c (.int .i64 (-1)))),false,[]⟩]) .ret) .skip)) (.seq (.region [
 ⟨some 140,none,.p (.mov (.t 8)),false,[]⟩,
 ⟨some 141,none,.p (.mov (.t 13)),false,[]⟩,
 ⟨some 142,none,.p (.bin .add (.t 140) (.t 141)),false,[]⟩,
 ⟨some 4,none,.p (.mov (.t 142)),false,[]⟩]) .ret))) .skip)))))))))))) (.seq (.region [
 ⟨some 4,none,.p (.mov (.c (.int .i64 (-1)))),false,[]⟩]) .ret))))))))))⟩
theorem k73_ok : cfn Tryd.prog gl Tryd.f73 = some k73 := by kernel_rfl
def k74 : CFn := ⟨18, [(.t 2)], (.seq (.region [
 ⟨some 2,none,.p (.mov (.c (.str []))),false,[]⟩]) (.seq (.seq (.region [
 ⟨some 4,none,.p (.mov (.t 0)),false,[]⟩,
 ⟨some 5,none,.p (.lenS (.t 4)),false,[]⟩,
 ⟨some 6,none,.p (.bin .eql (.t 5) (.c (.int .i64 0))),false,[]⟩]) (.cond (.t 6) (.seq (.region [
 ⟨some 2,none,.p (.mov (.c (.str []))),false,[]⟩]) .ret) .skip)) (.seq (.region [
 ⟨some 7,none,.p (.mov (.t 0)),false,[]⟩,
 ⟨some 8,none,.p (.lenS (.t 7)),false,[]⟩,
 ⟨some 9,none,.h (.mksl 1 1 [(.int .u8 0)] (.t 8) (.t 8)),false,[]⟩,
 ⟨some 3,none,.p (.mov (.t 9)),false,[]⟩]) (.seq (.region [
 ⟨some 10,none,.p (.mov (.t 3)),false,[]⟩,
 ⟨some 11,none,.p (.mov (.t 0)),false,[]⟩,
 ⟨some 12,none,.h (.copy 1 (.t 10) (.t 11)),false,[]⟩]) (.seq (.region [
 ⟨some 13,none,.p (.mov (.t 3)),false,[]⟩,
 ⟨some 14,none,.p (.iadS 1 (.t 13) (.c (.int .i64 0))),false,[]⟩,
 ⟨some 15,none,.p (.mov (.t 3)),false,[]⟩,
 ⟨some 16,none,.p (.len (.t 15)),false,[]⟩,
 ⟨some 17, none, (.h .bad),false,[]⟩,
 ⟨some 2,none,.p (.mov (.t 17)),false,[]⟩]) .ret)))))⟩
theorem k74_ok : cfn Tryd.prog gl Tryd.f74 = some k74 := by kernel_rfl
def k75 : CFn := ⟨7, [(.t 2)], (.seq (.region [
 ⟨some 2,none,.p (.mov (.c .nili)),false,[]⟩]) (.seq (.region [
 ⟨some 3,none,.p (.mov (.t 0)),false,[]⟩,
 ⟨some 4,none,.p (.build [(.str [])] [(0, 1, (.t 3))]),false,[]⟩,
 ⟨some 5,none,.h (.box (.t 4)),false,[]⟩,
 ⟨some 6,none,.p (.mkif 130 (.t 5)),false,[]⟩,
 ⟨some 2,none,.p (.mov (.t 6)),false,[]⟩]) .ret))⟩
theorem k75_ok : cfn Tryd.prog gl Tryd.f75 = some k75 := by kernel_rfl
def k76 : CFn := ⟨15, [(.t 2)], (.seq (.region [
 ⟨some 2,none,.p (.mov (.c (.str []))),false,[]⟩]) (.seq (.seq (.region [
 ⟨some 3,none,.p (.mov (.t 0)),false,[]⟩,
 ⟨some 4,none,.p (.bin .lss (.t 3) (.c (.int .i64 10))),false,[]⟩]) (.cond (.t 4) (.seq (.region [
 ⟨some 5,none,.p (.mov (.t 0)),false,[]⟩,
 ⟨some 6,none,.p (.mov (.t 0)),false,[]⟩,
 ⟨some 7,none,.p (.bin .add (.t 6) (.c (.int .i64 1))),false,[]⟩,
 ⟨some 8,none,.p (.slT (.c (.str [48, 49, 50, 51, 52, 53, 54, 55, 56, 57, 97, 98, 99, 100, 101, 102, 103, 104, 105, 106, 107, 108, 109, 110, 111, 112, 113, 114, 115, 116, 117, 118, 119, 120, 121, 122])) (some (.t 5)) (some (.t 7))),false,[]⟩,
 ⟨some 2,none,.p (.mov (.t 8)),false,[]⟩]) .ret) .skip)) (.seq (.region [
 ⟨some 9,none,.p (.mov (.t 0)),false,[]⟩,
 ⟨some 10,none,.p (.bin .mul (.t 9) (.c (.int .i64 2))),false,[]⟩,
 ⟨some 11,none,.p (.mov (.t 0)),false,[]⟩,
 ⟨some 12,none,.p (.bin .mul (.t 11) (.c (.int .i64 2))),false,[]⟩,
 ⟨some 13,none,.p (.bin .add (.t 12) (.c (.int .i64 2))),false,[]⟩,
 ⟨some 14,none,.p (.slT (.c (.str [48, 48, 48, 49, 48, 50, 48, 51, 48, 52, 48, 53, 48, 54, 48, 55, 48, 56, 48, 57, 49, 48, 49, 49, 49, 50, 49, 51, 49, 52, 49, 53, 49, 54, 49, 55, 49, 56, 49, 57, 50, 48, 50, 49, 50, 50, 50, 51, 50, 52, 50, 53, 50, 54, 50, 55, 50, 56, 50, 57, 51, 48, 51, 49, 51, 50, 51, 51, 51, 52, 51, 53, 51, 54, 51, 55, 51, 56, 51, 57, 52, 48, 52, 49, 52, 50, 52, 51, 52, 52, 52, 53, 52, 54, 52, 55, 52, 56, 52, 57, 53, 48, 53, 49, 53, 50, 53, 51, 53, 52, 53, 53, 53, 54, 53, 55, 53, 56, 53, 57, 54, 48, 54, 49, 54, 50, 54, 51, 54, 52, 54, 53, 54, 54, 54, 55, 54, 56, 54, 57, 55, 48, 55, 49, 55, 50, 55, 51, 55, 52, 55, 53, 55, 54, 55, 55, 55, 56, 55, 57, 56, 48, 56, 49, 56, 50, 56, 51, 56, 52, 56, 53, 56, 54, 56, 55, 56, 56, 56, 57, 57, 48, 57, 49, 57, 50, 57, 51, 57, 52, 57, 53, 57, 54, 57, 55, 57, 56, 57, 57])) (some (.t 10)) (some (.t 13))),false,[]⟩,
 ⟨some 2,none,.p (.mov (.t 14)),false,[]⟩]) .ret)))⟩
theorem k76_ok : cfn Tryd.prog gl Tryd.f76 = some k76 := by kernel_rfl
def k77 : CFn := ⟨15, [(.t 2)], (.seq (.region [
 ⟨some 2,none,.p (.mov (.c (.int .i64 0))),false,[]⟩]) (.seq (.region [
 ⟨some 4,none,.p (.mov (.t 0)),false,[]⟩,
 ⟨some 5,none,.h (.call 86 [(.t 4)]),false,[]⟩,
 ⟨some 6,none,.h (.call 85 [(.t 5)]),false,[]⟩,
 ⟨some 3,none,.p (.mov (.t 6)),false,[]⟩]) (.seq (.region [
 ⟨some 7,none,.p (.mov (.t 3)),false,[]⟩,
 ⟨some 8,none,.p (.mov (.t 0)),false,[]⟩,
 ⟨some 9,none,.p (.mov (.t 3)),false,[]⟩,
 ⟨some 10,none,.p (.iadA 20 1 (.c (.ptr 4 0)) (.t 9)),false,[]⟩,
 ⟨some 11,none,.h (.load false 1 (.t 10)),false,[]⟩,
 ⟨some 12,none,.p (.bin .geq (.t 8) (.t 11)),false,[]⟩,
 ⟨some 13,none,.h (.call 87 [(.t 12)]),false,[]⟩,
 ⟨some 14,none,.p (.bin .add (.t 7) (.t 13)),false,[]⟩,
 ⟨some 2,none,.p (.mov (.t 14)),false,[]⟩]) .ret)))⟩
theorem k77_ok : cfn Tryd.prog gl Tryd.f77 = some k77 := by kernel_rfl

end
end Vm
end Go.Proofs.YtgncjbodicabnaaDoor

