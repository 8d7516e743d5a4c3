/-
  The program's text for the machine. (Printed by a program.)
-/
import Derived.Test.YtppgnpodkmacoaaDoorVmH
import Derived.KernelRfl
set_option linter.unusedSimpArgs false
set_option linter.unusedVariables false

namespace Go.Proofs.YtppgnpodkmacoaaDoor
namespace Vm
open Go Go.Vm Go.Vm.W
noncomputable section
set_option maxRecDepth 100000
def k3 : CFn := ⟨103, [(.t 4)], (.seq (.region [
 ⟨(some 2), none, (.h (.box (.t 0))), false, []⟩,
 ⟨(some 4), none, (.p (.mov (.c (.bool false)))), false, []⟩]) (.seq (.seq (.region [
 ⟨(some 12), none, (.p (.mov (.t 1))), false, []⟩,
 ⟨(some 13), none, (.p (.lenS (.t 12))), false, []⟩,
 ⟨(some 14), none, (.p (.bin .gtr (.t 13) (.c (.int .i64 60)))), false, []⟩]) (.cond (.t 14) (.seq (.region [
 ⟨(some 15), none, (.h (.call 8 [])), false, []⟩,
 ⟨(some 4), none, (.p (.mov (.t 15))), false, []⟩]) .ret) .skip)) (.seq (.region [
 ⟨(some 16), none, (.h (.load true 2 (.t 2))), false, []⟩,
 ⟨(some 17), none, (.h (.call 9 [(.t 16)])), false, []⟩,
 ⟨(some 5), none, (.h (.alloc [.nils, .nils])), false, []⟩,
 ⟨none, none, (.h (.store 2 (.t 5) (.t 17))), false, []⟩]) (.seq (.region [
 ⟨(some 18), none, (.p (.fad 0 (.t 5))), false, []⟩,
 ⟨(some 19), none, (.h (.load false 1 (.t 18))), false, []⟩,
 ⟨(some 20), none, (.p (.iadS 1 (.t 19) (.c (.int .i64 0)))), false, []⟩,
 ⟨(some 21), none, (.h (.load false 1 (.t 20))), false, []⟩,
 ⟨(some 22), none, (.h (.call 10 [(.t 21)])), false, []⟩,
 ⟨(some 6), none, (.p (.mov (.t 22))), false, []⟩]) (.seq (.seq (.region [
 ⟨(some 7), none, (.p (.mov (.c (.int .i64 0)))), false, []⟩]) (.block 0 (.loop (.seq (.seq (.region [
 ⟨(some 23), none, (.p (.mov (.t 7))), false, []⟩,
 ⟨(some 24), none, (.p (.fad 1 (.t 5))), false, []⟩,
 ⟨(some 25), none, (.h (.load false 1 (.t 24))), false, []⟩,
 ⟨(some 26), none, (.p (.len (.t 25))), false, []⟩,
 ⟨(some 27), none, (.p (.bin .lss (.t 23) (.t 26))), false, []⟩]) (.cond (.t 27) .skip (.exit 0))) (.seq (.block 1 (.region [
 ⟨(some 30), none, (.p (.mov (.t 6))), false, []⟩,
 ⟨(some 31), none, (.p (.bin .add (.t 30) (.c (.str [32])))), false, []⟩,
 ⟨(some 32), none, (.p (.fad 1 (.t 5))), false, []⟩,
 ⟨(some 33), none, (.h (.load false 1 (.t 32))), true, []⟩,
 ⟨(some 34), none, (.p (.mov (.t 7))), false, []⟩,
 ⟨(some 35), none, (.p (.iadS 1 (.t 33) (.t 34))), false, []⟩,
 ⟨(some 36), none, (.h (.load false 1 (.t 35))), true, []⟩,
 ⟨(some 37), none, (.p (.bin .sub (.t 36) (.c (.int .u8 1)))), false, []⟩,
 ⟨(some 38), none, (.p (.idxS (.c (.str [109, 118, 97])) (.t 37))), false, []⟩,
 ⟨(some 39), none, (.p (.cvs (.t 38))), false, []⟩,
 ⟨(some 40), none, (.p (.bin .add (.t 31) (.t 39))), false, []⟩,
 ⟨(some 41), none, (.p (.bin .add (.t 40) (.c (.str [32])))), false, []⟩,
 ⟨(some 42), none, (.p (.fad 0 (.t 5))), false, []⟩,
 ⟨(some 43), none, (.h (.load false 1 (.t 42))), true, []⟩,
 ⟨(some 44), none, (.p (.mov (.t 7))), false, []⟩,
 ⟨(some 45), none, (.p (.bin .add (.t 44) (.c (.int .i64 1)))), false, []⟩,
 ⟨(some 46), none, (.p (.iadS 1 (.t 43) (.t 45))), false, []⟩,
 ⟨(some 47), none, (.h (.load false 1 (.t 46))), true, []⟩,
 ⟨(some 48), none, (.h (.call 10 [(.t 47)])), true, []⟩,
 ⟨(some 49), none, (.p (.bin .add (.t 41) (.t 48))), false, []⟩,
 ⟨(some 6), none, (.p (.mov (.t 49))), false, []⟩])) (.region [
 ⟨(some 28), none, (.p (.mov (.t 7))), false, []⟩,
 ⟨(some 29), none, (.p (.bin .add (.t 28) (.c (.int .i64 1)))), false, []⟩,
 ⟨(some 7), none, (.p (.mov (.t 29))), false, []⟩])))))) (.seq (.region [
 ⟨(some 51), none, (.p (.mov (.t 6))), false, []⟩,
 ⟨(some 52), none, (.h (.call 11 [(.t 51)])), false, []⟩,
 ⟨(some 50), none, (.p (.mov (.t 52))), false, []⟩,
 ⟨(some 53), none, (.p (.ext 0 (.t 50))), false, []⟩,
 ⟨(some 54), none, (.p (.ext 1 (.t 50))), false, []⟩,
 ⟨(some 8), none, (.h (.alloc [.nils, .nils])), false, []⟩,
 ⟨none, none, (.h (.store 2 (.t 8) (.t 53))), false, []⟩,
 ⟨(some 9), none, (.p (.mov (.t 54))), false, []⟩]) (.seq (.seq (.region [
 ⟨(some 55), none, (.h (.load true 2 (.t 5))), false, []⟩,
 ⟨(some 56), none, (.h (.call 12 [(.t 55)])), false, []⟩,
 ⟨(some 57), none, (.p (.mov (.t 6))), false, []⟩,
 ⟨(some 58), none, (.p (.bin .neq (.t 56) (.t 57))), false, []⟩,
 ⟨(some 59), none, (.p (.mov (.t 58))), false, []⟩,
 ⟨(some 60), (some (59, false)), (.p (.mov (.t 9))), false, []⟩,
 ⟨(some 61), (some (59, false)), (.p (.bin .neq (.t 60) (.c (.int .i64 0)))), false, []⟩,
 ⟨(some 62), none, (.p (.pick (.t 59) (.c (.bool true)) (.t 61))), false, []⟩,
 ⟨(some 63), none, (.p (.mov (.t 62))), false, []⟩,
 ⟨(some 64), (some (63, false)), (.h (.load true 2 (.t 8))), false, []⟩,
 ⟨(some 65), (some (63, false)), (.h (.load true 2 (.t 5))), false, []⟩,
 ⟨(some 66), (some (63, false)), (.h (.call 13 [(.t 64), (.t 65)])), false, []⟩,
 ⟨(some 67), (some (63, false)), (.p (.not (.t 66))), false, []⟩,
 ⟨(some 68), none, (.p (.pick (.t 63) (.c (.bool true)) (.t 67))), false, []⟩]) (.cond (.t 68) (.seq (.region [
 ⟨(some 4), none, (.p (.mov (.c (.bool false)))), false, []⟩]) .ret) .skip)) (.seq (.region [
 ⟨(some 70), none, (.p (.mov (.t 1))), false, []⟩,
 ⟨(some 71), none, (.h (.call 11 [(.t 70)])), false, []⟩,
 ⟨(some 69), none, (.p (.mov (.t 71))), false, []⟩,
 ⟨(some 72), none, (.p (.ext 0 (.t 69))), false, []⟩,
 ⟨(some 73), none, (.p (.ext 1 (.t 69))), false, []⟩,
 ⟨(some 10), none, (.h (.alloc [.nils, .nils])), false, []⟩,
 ⟨none, none, (.h (.store 2 (.t 10) (.t 72))), false, []⟩,
 ⟨(some 11), none, (.p (.mov (.t 73))), false, []⟩]) (.seq (.seq (.region [
 ⟨(some 74), none, (.p (.mov (.t 11))), false, []⟩,
 ⟨(some 75), none, (.p (.bin .neq (.t 74) (.c (.int .i64 0)))), false, []⟩]) (.cond (.t 75) (.seq (.region [
 ⟨(some 76), none, (.p (.mov (.t 11))), false, []⟩,
 ⟨(some 77), none, (.p (.bin .eql (.t 76) (.c (.int .i64 4)))), false, []⟩,
 ⟨(some 78), none, (.p (.mov (.t 77))), false, []⟩,
 ⟨(some 79), (some (78, true)), (.p (.fad 0 (.t 10))), false, []⟩,
 ⟨(some 80), (some (78, true)), (.h (.load false 1 (.t 79))), false, []⟩,
 ⟨(some 81), (some (78, true)), (.p (.len (.t 80))), false, []⟩,
 ⟨(some 82), (some (78, true)), (.p (.fad 1 (.t 10))), false, []⟩,
 ⟨(some 83), (some (78, true)), (.h (.load false 1 (.t 82))), false, []⟩,
 ⟨(some 84), (some (78, true)), (.p (.len (.t 83))), false, []⟩,
 ⟨(some 85), (some (78, true)), (.p (.bin .add (.t 81) (.t 84))), false, []⟩,
 ⟨(some 86), (some (78, true)), (.p (.bin .eql (.t 85) (.c (.int .i64 0)))), false, []⟩,
 ⟨(some 87), none, (.p (.pick (.t 78) (.t 86) (.c (.bool false)))), false, []⟩,
 ⟨(some 88), none, (.p (.mov (.t 87))), false, []⟩,
 ⟨(some 89), (some (88, true)), (.h (.call 8 [])), false, []⟩,
 ⟨(some 90), none, (.p (.pick (.t 88) (.t 89) (.c (.bool false)))), false, []⟩,
 ⟨(some 4), none, (.p (.mov (.t 90))), false, []⟩]) .ret) .skip)) (.seq (.region [
 ⟨(some 91), none, (.h (.load true 2 (.t 10))), false, []⟩,
 ⟨(some 92), none, (.h (.call 14 [(.t 91)])), false, []⟩,
 ⟨(some 93), none, (.p (.bin .eql (.t 92) (.c (.int .i64 0)))), false, []⟩,
 ⟨(some 94), none, (.p (.mov (.t 93))), false, []⟩,
 ⟨(some 95), (some (94, true)), (.h (.load true 2 (.t 10))), false, []⟩,
 ⟨(some 96), (some (94, true)), (.h (.call 12 [(.t 95)])), false, []⟩,
 ⟨(some 97), (some (94, true)), (.p (.mov (.t 1))), false, []⟩,
 ⟨(some 98), (some (94, true)), (.p (.bin .eql (.t 96) (.t 97))), false, []⟩,
 ⟨(some 99), none, (.p (.pick (.t 94) (.t 98) (.c (.bool false)))), false, []⟩,
 ⟨(some 100), none, (.p (.mov (.t 99))), false, []⟩,
 ⟨(some 101), (some (100, true)), (.h (.call 8 [])), false, []⟩,
 ⟨(some 102), none, (.p (.pick (.t 100) (.t 101) (.c (.bool false)))), false, []⟩,
 ⟨(some 4), none, (.p (.mov (.t 102))), false, []⟩]) .ret))))))))))⟩
theorem k3_ok : cfn Tryd.prog gl Tryd.f3 = some k3 := by kernel_rfl
def k8 : CFn := ⟨100, [(.t 0)], (.seq (.region [
 ⟨(some 0), none, (.p (.mov (.c (.bool false)))), false, []⟩]) (.seq (.region [
 ⟨(some 10), none, (.h (.call 23 [])), false, []⟩,
 ⟨(some 1), none, (.h (.alloc [.nils, .nils])), false, []⟩,
 ⟨none, none, (.h (.store 2 (.t 1) (.t 10))), false, []⟩]) (.seq (.region [
 ⟨(some 12), none, (.h (.load true 2 (.t 1))), false, []⟩,
 ⟨(some 13), none, (.h (.call 15 [(.t 12)])), false, []⟩,
 ⟨(some 11), none, (.p (.mov (.t 13))), false, []⟩,
 ⟨(some 14), none, (.p (.ext 0 (.t 11))), false, []⟩,
 ⟨(some 15), none, (.p (.ext 1 (.t 11))), false, []⟩,
 ⟨(some 2), none, (.p (.mov (.t 14))), false, []⟩,
 ⟨(some 3), none, (.p (.mov (.t 15))), false, []⟩]) (.seq (.region [
 ⟨(some 17), none, (.h (.call 11 [(.c (.str [49, 32, 97, 32, 49, 32, 97, 32, 49]))])), false, []⟩,
 ⟨(some 16), none, (.p (.mov (.t 17))), false, []⟩,
 ⟨(some 18), none, (.p (.ext 0 (.t 16))), false, []⟩,
 ⟨(some 19), none, (.p (.ext 1 (.t 16))), false, []⟩,
 ⟨(some 4), none, (.h (.alloc [.nils, .nils])), false, []⟩,
 ⟨none, none, (.h (.store 2 (.t 4) (.t 18))), false, []⟩,
 ⟨(some 5), none, (.p (.mov (.t 19))), false, []⟩]) (.seq (.region [
 ⟨(some 21), none, (.h (.load true 2 (.t 4))), false, []⟩,
 ⟨(some 22), none, (.h (.call 15 [(.t 21)])), false, []⟩,
 ⟨(some 20), none, (.p (.mov (.t 22))), false, []⟩,
 ⟨(some 23), none, (.p (.ext 0 (.t 20))), false, []⟩,
 ⟨(some 24), none, (.p (.ext 1 (.t 20))), false, []⟩,
 ⟨(some 6), none, (.p (.mov (.t 23))), false, []⟩,
 ⟨(some 7), none, (.p (.mov (.t 24))), false, []⟩]) (.seq (.region [
 ⟨(some 26), none, (.h (.load true 2 (.t 1))), false, []⟩,
 ⟨(some 27), none, (.h (.call 17 [(.t 26)])), false, []⟩,
 ⟨(some 25), none, (.p (.mov (.t 27))), false, []⟩,
 ⟨(some 28), none, (.p (.ext 0 (.t 25))), false, []⟩,
 ⟨(some 29), none, (.p (.ext 1 (.t 25))), false, []⟩,
 ⟨(some 8), none, (.h (.alloc [(.int .i64 0), (.int .i64 0), .nils])), false, []⟩,
 ⟨none, none, (.h (.store 3 (.t 8) (.t 28))), false, []⟩,
 ⟨(some 9), none, (.p (.mov (.t 29))), false, []⟩]) (.seq (.seq (.region [
 ⟨(some 30), none, (.p (.mov (.t 3))), false, []⟩,
 ⟨(some 31), none, (.p (.bin .neq (.t 30) (.c (.int .i64 0)))), false, []⟩,
 ⟨(some 32), none, (.p (.mov (.t 31))), false, []⟩,
 ⟨(some 33), (some (32, false)), (.p (.mov (.t 5))), false, []⟩,
 ⟨(some 34), (some (32, false)), (.p (.bin .neq (.t 33) (.c (.int .i64 0)))), false, []⟩,
 ⟨(some 35), none, (.p (.pick (.t 32) (.c (.bool true)) (.t 34))), false, []⟩,
 ⟨(some 36), none, (.p (.mov (.t 35))), false, []⟩,
 ⟨(some 37), (some (36, false)), (.p (.mov (.t 7))), false, []⟩,
 ⟨(some 38), (some (36, false)), (.p (.bin .neq (.t 37) (.c (.int .i64 0)))), false, []⟩,
 ⟨(some 39), none, (.p (.pick (.t 36) (.c (.bool true)) (.t 38))), false, []⟩,
 ⟨(some 40), none, (.p (.mov (.t 39))), false, []⟩,
 ⟨(some 41), (some (40, false)), (.p (.mov (.t 9))), false, []⟩,
 ⟨(some 42), (some (40, false)), (.p (.bin .neq (.t 41) (.c (.int .i64 0)))), false, []⟩,
 ⟨(some 43), none, (.p (.pick (.t 40) (.c (.bool true)) (.t 42))), false, []⟩,
 ⟨(some 44), none, (.p (.mov (.t 43))), false, []⟩,
 ⟨(some 45), (some (44, false)), (.p (.mov (.t 2))), false, []⟩,
 ⟨(some 46), (some (44, false)), (.h (.bsl 1 4 [(.int .i64 0), (.int .i64 0), (.int .i64 0), (.int .i64 0)] [(0, 1, (.c (.int .i64 0))), (1, 1, (.c (.int .i64 3))), (2, 1, (.c (.int .i64 1))), (3, 1, (.c (.int .i64 5)))])), false, []⟩,
 ⟨(some 47), (some (44, false)), (.h (.call 24 [(.t 45), (.t 46)])), false, []⟩,
 ⟨(some 48), (some (44, false)), (.p (.not (.t 47))), false, []⟩,
 ⟨(some 49), none, (.p (.pick (.t 44) (.c (.bool true)) (.t 48))), false, []⟩,
 ⟨(some 50), none, (.p (.mov (.t 49))), false, []⟩,
 ⟨(some 51), (some (50, false)), (.p (.mov (.t 6))), false, []⟩,
 ⟨(some 52), (some (50, false)), (.h (.bsl 1 4 [(.int .i64 0), (.int .i64 0), (.int .i64 0), (.int .i64 0)] [(0, 1, (.c (.int .i64 0))), (1, 1, (.c (.int .i64 1))), (2, 1, (.c (.int .i64 0))), (3, 1, (.c (.int .i64 1)))])), false, []⟩,
 ⟨(some 53), (some (50, false)), (.h (.call 24 [(.t 51), (.t 52)])), false, []⟩,
 ⟨(some 54), (some (50, false)), (.p (.not (.t 53))), false, []⟩,
 ⟨(some 55), none, (.p (.pick (.t 50) (.c (.bool true)) (.t 54))), false, []⟩,
 ⟨(some 56), none, (.p (.mov (.t 55))), false, []⟩,
 ⟨(some 57), (some (56, false)), (.p (.fad 0 (.t 8))), false, []⟩,
 ⟨(some 58), (some (56, false)), (.p (.fad 0 (.t 57))), false, []⟩,
 ⟨(some 59), (some (56, false)), (.h (.load false 1 (.t 58))), false, []⟩,
 ⟨(some 60), (some (56, false)), (.p (.bin .neq (.t 59) (.c (.int .i64 9)))), false, []⟩,
 ⟨(some 61), none, (.p (.pick (.t 56) (.c (.bool true)) (.t 60))), false, []⟩,
 ⟨(some 62), none, (.p (.mov (.t 61))), false, []⟩,
 ⟨(some 63), (some (62, false)), (.p (.fad 0 (.t 8))), false, []⟩,
 ⟨(some 64), (some (62, false)), (.p (.fad 1 (.t 63))), false, []⟩,
 ⟨(some 65), (some (62, false)), (.h (.load false 1 (.t 64))), false, []⟩,
 ⟨(some 66), (some (62, false)), (.p (.bin .neq (.t 65) (.c (.int .i64 1)))), false, []⟩,
 ⟨(some 67), none, (.p (.pick (.t 62) (.c (.bool true)) (.t 66))), false, []⟩,
 ⟨(some 68), none, (.p (.mov (.t 67))), false, []⟩,
 ⟨(some 69), (some (68, false)), (.p (.fad 2 (.t 8))), false, []⟩,
 ⟨(some 70), (some (68, false)), (.h (.load false 1 (.t 69))), false, []⟩,
 ⟨(some 71), (some (68, false)), (.p (.len (.t 70))), false, []⟩,
 ⟨(some 72), (some (68, false)), (.p (.bin .neq (.t 71) (.c (.int .i64 2)))), false, []⟩,
 ⟨(some 73), none, (.p (.pick (.t 68) (.c (.bool true)) (.t 72))), false, []⟩]) (.cond (.t 73) (.seq (.region [
 ⟨(some 0), none, (.p (.mov (.c (.bool false)))), false, []⟩]) .ret) .skip)) (.seq (.region [
 ⟨(some 74), none, (.p (.fad 2 (.t 8))), false, []⟩,
 ⟨(some 75), none, (.h (.load false 1 (.t 74))), false, []⟩,
 ⟨(some 76), none, (.p (.iadS 3 (.t 75) (.c (.int .i64 0)))), false, []⟩,
 ⟨(some 77), none, (.h (.load true 3 (.t 76))), false, []⟩,
 ⟨(some 78), none, (.p (.build [(.int .i64 0), (.int .u8 0), (.int .u8 0)] [(0, 1, (.c (.int .i64 9))), (2, 1, (.c (.int .u8 1)))])), false, []⟩,
 ⟨(some 79), none, (.p (.eqf false true [1, 1, 1] (.t 77) (.t 78))), false, []⟩,
 ⟨(some 80), none, (.p (.mov (.t 79))), false, []⟩,
 ⟨(some 81), (some (80, true)), (.p (.fad 2 (.t 8))), false, []⟩,
 ⟨(some 82), (some (80, true)), (.h (.load false 1 (.t 81))), false, []⟩,
 ⟨(some 83), (some (80, true)), (.p (.iadS 3 (.t 82) (.c (.int .i64 1)))), false, []⟩,
 ⟨(some 84), (some (80, true)), (.h (.load true 3 (.t 83))), false, []⟩,
 ⟨(some 85), (some (80, true)), (.p (.build [(.int .i64 0), (.int .u8 0), (.int .u8 0)] [(0, 1, (.c (.int .i64 17))), (2, 1, (.c (.int .u8 2)))])), false, []⟩,
 ⟨(some 86), (some (80, true)), (.p (.eqf false true [1, 1, 1] (.t 84) (.t 85))), false, []⟩,
 ⟨(some 87), none, (.p (.pick (.t 80) (.t 86) (.c (.bool false)))), false, []⟩,
 ⟨(some 88), none, (.p (.mov (.t 87))), false, []⟩,
 ⟨(some 89), (some (88, true)), (.h (.load true 2 (.t 1))), false, []⟩,
 ⟨(some 90), (some (88, true)), (.h (.call 18 [(.t 89)])), false, []⟩,
 ⟨(some 91), (some (88, true)), (.h (.call 12 [(.t 90)])), false, []⟩,
 ⟨(some 92), (some (88, true)), (.p (.bin .eql (.t 91) (.c (.str [52, 32, 118, 32, 50, 32, 109, 32, 51])))), false, []⟩,
 ⟨(some 93), none, (.p (.pick (.t 88) (.t 92) (.c (.bool false)))), false, []⟩,
 ⟨(some 94), none, (.p (.mov (.t 93))), false, []⟩,
 ⟨(some 95), (some (94, true)), (.h (.load true 2 (.t 1))), false, []⟩,
 ⟨(some 96), (some (94, true)), (.h (.call 25 [(.t 95)])), false, []⟩,
 ⟨(some 97), (some (94, true)), (.h (.call 12 [(.t 96)])), false, []⟩,
 ⟨(some 98), (some (94, true)), (.p (.bin .eql (.t 97) (.c (.str [51, 32, 118, 32, 50, 32, 109, 32, 52])))), false, []⟩,
 ⟨(some 99), none, (.p (.pick (.t 94) (.t 98) (.c (.bool false)))), false, []⟩,
 ⟨(some 0), none, (.p (.mov (.t 99))), false, []⟩]) .ret))))))))⟩
theorem k8_ok : cfn Tryd.prog gl Tryd.f8 = some k8 := by kernel_rfl
def k9 : CFn := ⟨58, [(.cell 2 true 2)], (.seq (.region [
 ⟨(some 1), none, (.h (.box (.t 0))), false, []⟩,
 ⟨(some 2), none, (.h (.alloc [.nils, .nils])), false, []⟩]) (.seq (.region [
 ⟨(some 3), none, (.h (.alloc [.nils, .nils])), false, []⟩]) (.seq (.seq (.region [
 ⟨(some 4), none, (.p (.mov (.c (.int .i64 0)))), false, []⟩]) (.block 0 (.loop (.seq (.seq (.region [
 ⟨(some 6), none, (.p (.mov (.t 4))), false, []⟩,
 ⟨(some 7), none, (.p (.fad 0 (.t 1))), false, []⟩,
 ⟨(some 8), none, (.h (.load false 1 (.t 7))), false, []⟩,
 ⟨(some 9), none, (.p (.len (.t 8))), false, []⟩,
 ⟨(some 10), none, (.p (.bin .lss (.t 6) (.t 9))), false, []⟩,
 ⟨(some 11), none, (.p (.mov (.t 10))), false, []⟩,
 ⟨(some 12), (some (11, true)), (.p (.mov (.t 4))), false, []⟩,
 ⟨(some 13), (some (11, true)), (.p (.bin .lss (.t 12) (.c (.int .i64 12)))), false, []⟩,
 ⟨(some 14), none, (.p (.pick (.t 11) (.t 13) (.c (.bool false)))), false, []⟩]) (.cond (.t 14) .skip (.exit 0))) (.seq (.block 1 (.seq (.region [
 ⟨(some 17), none, (.p (.fad 0 (.t 3))), false, []⟩,
 ⟨(some 18), none, (.h (.load false 1 (.t 17))), true, []⟩,
 ⟨(some 19), none, (.p (.fad 0 (.t 1))), false, []⟩,
 ⟨(some 20), none, (.h (.load false 1 (.t 19))), true, []⟩,
 ⟨(some 21), none, (.p (.mov (.t 4))), false, []⟩,
 ⟨(some 22), none, (.p (.iadS 1 (.t 20) (.t 21))), false, []⟩,
 ⟨(some 23), none, (.h (.load false 1 (.t 22))), true, []⟩,
 ⟨(some 24), none, (.p (.bin .rem (.t 23) (.c (.int .u8 8)))), false, []⟩,
 ⟨(some 25), none, (.p (.cvi .i64 (.t 24))), false, []⟩,
 ⟨(some 26), none, (.p (.bin .add (.c (.int .i64 1)) (.t 25))), false, []⟩,
 ⟨(some 27), none, (.h (.bsl 1 1 [(.int .i64 0)] [(0, 1, (.t 26))])), true, []⟩,
 ⟨(some 28), none, (.h (.app 1 8 (.t 18) (.t 27))), false, []⟩,
 ⟨(some 29), none, (.p (.fad 0 (.t 3))), false, []⟩,
 ⟨none, none, (.h (.store 1 (.t 29) (.t 28))), false, []⟩]) (.seq (.region [
 ⟨(some 30), none, (.p (.mov (.t 4))), false, []⟩,
 ⟨(some 31), none, (.p (.bin .gtr (.t 30) (.c (.int .i64 0)))), false, []⟩]) (.cond (.t 31) (.seq (.region [
 ⟨(some 5), none, (.p (.mov (.c (.int .u8 1)))), false, []⟩]) (.seq (.seq (.region [
 ⟨(some 32), none, (.p (.mov (.t 4))), false, []⟩,
 ⟨(some 33), none, (.p (.fad 1 (.t 1))), false, []⟩,
 ⟨(some 34), none, (.h (.load false 1 (.t 33))), false, []⟩,
 ⟨(some 35), none, (.p (.len (.t 34))), false, []⟩,
 ⟨(some 36), none, (.p (.bin .leq (.t 32) (.t 35))), false, []⟩]) (.cond (.t 36) (.region [
 ⟨(some 37), none, (.p (.fad 1 (.t 1))), false, []⟩,
 ⟨(some 38), none, (.h (.load false 1 (.t 37))), false, []⟩,
 ⟨(some 39), none, (.p (.mov (.t 4))), false, []⟩,
 ⟨(some 40), none, (.p (.bin .sub (.t 39) (.c (.int .i64 1)))), false, []⟩,
 ⟨(some 41), none, (.p (.iadS 1 (.t 38) (.t 40))), false, []⟩,
 ⟨(some 42), none, (.h (.load false 1 (.t 41))), false, []⟩,
 ⟨(some 43), none, (.p (.bin .rem (.t 42) (.c (.int .u8 3)))), false, []⟩,
 ⟨(some 44), none, (.p (.bin .add (.c (.int .u8 1)) (.t 43))), false, []⟩,
 ⟨(some 5), none, (.p (.mov (.t 44))), false, []⟩]) .skip)) (.region [
 ⟨(some 45), none, (.p (.fad 1 (.t 3))), false, []⟩,
 ⟨(some 46), none, (.h (.load false 1 (.t 45))), false, []⟩,
 ⟨(some 47), none, (.p (.mov (.t 5))), false, []⟩,
 ⟨(some 48), none, (.h (.bsl 1 1 [(.int .u8 0)] [(0, 1, (.t 47))])), false, []⟩,
 ⟨(some 49), none, (.h (.app 1 1 (.t 46) (.t 48))), false, []⟩,
 ⟨(some 50), none, (.p (.fad 1 (.t 3))), false, []⟩,
 ⟨none, none, (.h (.store 1 (.t 50) (.t 49))), false, []⟩]))) .skip)))) (.region [
 ⟨(some 15), none, (.p (.mov (.t 4))), false, []⟩,
 ⟨(some 16), none, (.p (.bin .add (.t 15) (.c (.int .i64 1)))), false, []⟩,
 ⟨(some 4), none, (.p (.mov (.t 16))), false, []⟩])))))) (.seq (.seq (.region [
 ⟨(some 51), none, (.p (.fad 0 (.t 3))), false, []⟩,
 ⟨(some 52), none, (.h (.load false 1 (.t 51))), false, []⟩,
 ⟨(some 53), none, (.p (.len (.t 52))), false, []⟩,
 ⟨(some 54), none, (.p (.bin .eql (.t 53) (.c (.int .i64 0)))), false, []⟩]) (.cond (.t 54) (.region [
 ⟨(some 55), none, (.h (.bsl 1 1 [(.int .i64 0)] [(0, 1, (.c (.int .i64 1)))])), false, []⟩,
 ⟨(some 56), none, (.p (.fad 0 (.t 3))), false, []⟩,
 ⟨none, none, (.h (.store 1 (.t 56) (.t 55))), false, []⟩]) .skip)) (.seq (.region [
 ⟨(some 57), none, (.h (.load true 2 (.t 3))), false, []⟩,
 ⟨none, none, (.h (.store 2 (.t 2) (.t 57))), false, []⟩]) .ret)))))⟩
theorem k9_ok : cfn Tryd.prog gl Tryd.f9 = some k9 := by kernel_rfl
def k10 : CFn := ⟨5, [(.t 2)], (.seq (.region [
 ⟨(some 2), none, (.p (.mov (.c (.str [])))), false, []⟩]) (.seq (.region [
 ⟨(some 3), none, (.p (.mov (.t 0))), false, []⟩,
 ⟨(some 4), none, (.h (.call 26 [(.t 3)])), false, []⟩,
 ⟨(some 2), none, (.p (.mov (.t 4))), false, []⟩]) .ret))⟩
theorem k10_ok : cfn Tryd.prog gl Tryd.f10 = some k10 := by kernel_rfl
def k11 : CFn := ⟨66, [(.cell 2 true 2), (.t 3)], (.seq (.region [
 ⟨(some 2), none, (.h (.alloc [.nils, .nils])), false, []⟩,
 ⟨(some 3), none, (.p (.mov (.c (.int .i64 0)))), false, []⟩]) (.seq (.region [
 ⟨(some 4), none, (.h (.alloc [.nils, .nils])), false, []⟩]) (.seq (.seq (.region [
 ⟨(some 10), none, (.p (.mov (.t 0))), false, []⟩,
 ⟨(some 11), none, (.h (.call 27 [(.t 10), (.c (.str [32]))])), false, []⟩,
 ⟨(some 12), none, (.p (.len (.t 11))), false, []⟩,
 ⟨(some 13), none, (.p (.mov (.c (.int .i64 0)))), false, []⟩]) (.block 0 (.loop (.seq (.region [
 ⟨(some 14), none, (.p (.bin .lss (.t 13) (.t 12))), false, []⟩]) (.seq (.cond (.t 14) .skip (.exit 0)) (.seq (.block 1 (.seq (.region [
 ⟨(some 15), none, (.p (.mov (.t 13))), false, []⟩,
 ⟨(some 16), none, (.p (.iadS 1 (.t 11) (.t 13))), false, []⟩,
 ⟨(some 17), none, (.h (.load false 1 (.t 16))), false, []⟩,
 ⟨(some 5), none, (.p (.mov (.t 15))), false, []⟩,
 ⟨(some 6), none, (.p (.mov (.t 17))), false, []⟩]) (.seq (.seq (.region [
 ⟨(some 18), none, (.p (.mov (.t 5))), false, []⟩,
 ⟨(some 19), none, (.p (.bin .rem (.t 18) (.c (.int .i64 2)))), false, []⟩,
 ⟨(some 20), none, (.p (.bin .eql (.t 19) (.c (.int .i64 1)))), false, []⟩]) (.cond (.t 20) (.seq (.region [
 ⟨(some 21), none, (.h (.slA 4 1 (.c (.ptr 0 0)) none none none)), false, []⟩,
 ⟨(some 22), none, (.p (.mov (.t 6))), false, []⟩,
 ⟨(some 23), none, (.h (.call 28 [(.t 21), (.t 22)])), false, []⟩,
 ⟨(some 7), none, (.p (.mov (.t 23))), false, []⟩]) (.seq (.seq (.region [
 ⟨(some 24), none, (.p (.mov (.t 7))), false, []⟩,
 ⟨(some 25), none, (.p (.bin .lss (.t 24) (.c (.int .i64 1)))), false, []⟩]) (.cond (.t 25) (.seq (.region [
 ⟨(some 26), none, (.p (.build [.nils, .nils] [])), false, []⟩,
 ⟨none, none, (.h (.store 2 (.t 2) (.t 26))), false, []⟩,
 ⟨(some 3), none, (.p (.mov (.c (.int .i64 4)))), false, []⟩]) .ret) .skip)) (.seq (.region [
 ⟨(some 27), none, (.p (.fad 1 (.t 4))), false, []⟩,
 ⟨(some 28), none, (.h (.load false 1 (.t 27))), false, []⟩,
 ⟨(some 29), none, (.p (.mov (.t 7))), false, []⟩,
 ⟨(some 30), none, (.p (.cvi .u8 (.t 29))), false, []⟩,
 ⟨(some 31), none, (.h (.bsl 1 1 [(.int .u8 0)] [(0, 1, (.t 30))])), false, []⟩,
 ⟨(some 32), none, (.h (.app 1 1 (.t 28) (.t 31))), false, []⟩,
 ⟨(some 33), none, (.p (.fad 1 (.t 4))), false, []⟩,
 ⟨none, none, (.h (.store 1 (.t 33) (.t 32))), false, []⟩]) (.exit 1)))) .skip)) (.seq (.region [
 ⟨(some 35), none, (.p (.mov (.t 6))), false, []⟩,
 ⟨(some 36), none, (.h (.call 29 [(.t 35)])), false, []⟩,
 ⟨(some 34), none, (.p (.mov (.t 36))), false, []⟩,
 ⟨(some 37), none, (.p (.ext 0 (.t 34))), false, []⟩,
 ⟨(some 38), none, (.p (.ext 1 (.t 34))), false, []⟩,
 ⟨(some 8), none, (.p (.mov (.t 37))), false, []⟩,
 ⟨(some 9), none, (.p (.mov (.t 38))), false, []⟩]) (.seq (.seq (.region [
 ⟨(some 39), none, (.p (.mov (.t 9))), false, []⟩,
 ⟨(some 40), none, (.p (.eqn true 0 (.t 39) (.c .nili))), false, []⟩,
 ⟨(some 41), none, (.p (.mov (.t 40))), false, []⟩,
 ⟨(some 42), (some (41, false)), (.p (.mov (.t 8))), false, []⟩,
 ⟨(some 43), (some (41, false)), (.h (.call 10 [(.t 42)])), false, []⟩,
 ⟨(some 44), (some (41, false)), (.p (.mov (.t 6))), false, []⟩,
 ⟨(some 45), (some (41, false)), (.p (.bin .neq (.t 43) (.t 44))), false, []⟩,
 ⟨(some 46), none, (.p (.pick (.t 41) (.c (.bool true)) (.t 45))), false, []⟩]) (.cond (.t 46) (.seq (.region [
 ⟨(some 47), none, (.p (.build [.nils, .nils] [])), false, []⟩,
 ⟨none, none, (.h (.store 2 (.t 2) (.t 47))), false, []⟩,
 ⟨(some 3), none, (.p (.mov (.c (.int .i64 4)))), false, []⟩]) .ret) .skip)) (.region [
 ⟨(some 48), none, (.p (.fad 0 (.t 4))), false, []⟩,
 ⟨(some 49), none, (.h (.load false 1 (.t 48))), false, []⟩,
 ⟨(some 50), none, (.p (.mov (.t 8))), false, []⟩,
 ⟨(some 51), none, (.h (.bsl 1 1 [(.int .i64 0)] [(0, 1, (.t 50))])), false, []⟩,
 ⟨(some 52), none, (.h (.app 1 8 (.t 49) (.t 51))), false, []⟩,
 ⟨(some 53), none, (.p (.fad 0 (.t 4))), false, []⟩,
 ⟨none, none, (.h (.store 1 (.t 53) (.t 52))), false, []⟩])))))) (.region [
 ⟨(some 54), none, (.p (.bin .add (.t 13) (.c (.int .i64 1)))), false, []⟩,
 ⟨(some 13), none, (.p (.mov (.t 54))), false, []⟩]))))))) (.seq (.seq (.region [
 ⟨(some 55), none, (.h (.load true 2 (.t 4))), false, []⟩,
 ⟨(some 56), none, (.h (.call 14 [(.t 55)])), false, []⟩,
 ⟨(some 57), none, (.p (.bin .neq (.t 56) (.c (.int .i64 0)))), false, []⟩]) (.cond (.t 57) (.seq (.region [
 ⟨(some 58), none, (.p (.build [.nils, .nils] [])), false, []⟩,
 ⟨none, none, (.h (.store 2 (.t 2) (.t 58))), false, []⟩,
 ⟨(some 3), none, (.p (.mov (.c (.int .i64 4)))), false, []⟩]) .ret) .skip)) (.seq (.region [
 ⟨(some 59), none, (.p (.fad 0 (.t 4))), false, []⟩,
 ⟨(some 60), none, (.h (.load false 1 (.t 59))), true, []⟩,
 ⟨(some 61), none, (.h (.call 30 [(.t 60)])), true, []⟩,
 ⟨(some 62), none, (.p (.fad 1 (.t 4))), false, []⟩,
 ⟨(some 63), none, (.h (.load false 1 (.t 62))), true, []⟩,
 ⟨(some 64), none, (.h (.call 31 [(.t 63)])), false, []⟩,
 ⟨(some 65), none, (.p (.build [.nils, .nils] [(0, 1, (.t 61)), (1, 1, (.t 64))])), false, []⟩,
 ⟨none, none, (.h (.store 2 (.t 2) (.t 65))), false, []⟩,
 ⟨(some 3), none, (.p (.mov (.c (.int .i64 0)))), false, []⟩]) .ret)))))⟩
theorem k11_ok : cfn Tryd.prog gl Tryd.f11 = some k11 := by kernel_rfl
def k12 : CFn := ⟨38, [(.t 2)], (.seq (.region [
 ⟨(some 1), none, (.h (.box (.t 0))), false, []⟩,
 ⟨(some 2), none, (.p (.mov (.c (.str [])))), false, []⟩]) (.seq (.seq (.region [
 ⟨(some 6), none, (.h (.load true 2 (.t 1))), false, []⟩,
 ⟨(some 7), none, (.h (.call 14 [(.t 6)])), false, []⟩,
 ⟨(some 8), none, (.p (.bin .neq (.t 7) (.c (.int .i64 0)))), false, []⟩]) (.cond (.t 8) (.seq (.region [
 ⟨(some 2), none, (.p (.mov (.c (.str [])))), false, []⟩]) .ret) .skip)) (.seq (.region [
 ⟨(some 3), none, (.p (.mov (.c .nils))), false, []⟩]) (.seq (.seq (.region [
 ⟨(some 9), none, (.p (.fad 0 (.t 1))), false, []⟩,
 ⟨(some 10), none, (.h (.load false 1 (.t 9))), false, []⟩,
 ⟨(some 11), none, (.p (.len (.t 10))), false, []⟩,
 ⟨(some 12), none, (.p (.mov (.c (.int .i64 0)))), false, []⟩]) (.block 0 (.loop (.seq (.region [
 ⟨(some 13), none, (.p (.bin .lss (.t 12) (.t 11))), false, []⟩]) (.seq (.cond (.t 13) .skip (.exit 0)) (.seq (.block 1 (.seq (.region [
 ⟨(some 14), none, (.p (.mov (.t 12))), false, []⟩,
 ⟨(some 15), none, (.p (.iadS 1 (.t 10) (.t 12))), false, []⟩,
 ⟨(some 16), none, (.h (.load false 1 (.t 15))), false, []⟩,
 ⟨(some 4), none, (.p (.mov (.t 14))), false, []⟩,
 ⟨(some 5), none, (.p (.mov (.t 16))), false, []⟩]) (.seq (.seq (.region [
 ⟨(some 17), none, (.p (.mov (.t 4))), false, []⟩,
 ⟨(some 18), none, (.p (.bin .gtr (.t 17) (.c (.int .i64 0)))), false, []⟩]) (.cond (.t 18) (.region [
 ⟨(some 19), none, (.p (.mov (.t 3))), false, []⟩,
 ⟨(some 20), none, (.p (.fad 1 (.t 1))), false, []⟩,
 ⟨(some 21), none, (.h (.load false 1 (.t 20))), false, []⟩,
 ⟨(some 22), none, (.p (.mov (.t 4))), false, []⟩,
 ⟨(some 23), none, (.p (.bin .sub (.t 22) (.c (.int .i64 1)))), false, []⟩,
 ⟨(some 24), none, (.p (.iadS 1 (.t 21) (.t 23))), false, []⟩,
 ⟨(some 25), none, (.h (.load false 1 (.t 24))), false, []⟩,
 ⟨(some 26), none, (.p (.iadA 4 1 (.c (.ptr 0 0)) (.t 25))), false, []⟩,
 ⟨(some 27), none, (.h (.load false 1 (.t 26))), false, []⟩,
 ⟨(some 28), none, (.h (.bsl 1 1 [(.str [])] [(0, 1, (.t 27))])), false, []⟩,
 ⟨(some 29), none, (.h (.app 1 16 (.t 19) (.t 28))), false, []⟩,
 ⟨(some 3), none, (.p (.mov (.t 29))), false, []⟩]) .skip)) (.region [
 ⟨(some 30), none, (.p (.mov (.t 3))), false, []⟩,
 ⟨(some 31), none, (.p (.mov (.t 5))), false, []⟩,
 ⟨(some 32), none, (.h (.call 10 [(.t 31)])), false, []⟩,
 ⟨(some 33), none, (.h (.bsl 1 1 [(.str [])] [(0, 1, (.t 32))])), false, []⟩,
 ⟨(some 34), none, (.h (.app 1 16 (.t 30) (.t 33))), false, []⟩,
 ⟨(some 3), none, (.p (.mov (.t 34))), false, []⟩])))) (.region [
 ⟨(some 35), none, (.p (.bin .add (.t 12) (.c (.int .i64 1)))), false, []⟩,
 ⟨(some 12), none, (.p (.mov (.t 35))), false, []⟩]))))))) (.seq (.region [
 ⟨(some 36), none, (.p (.mov (.t 3))), false, []⟩,
 ⟨(some 37), none, (.h (.call 32 [(.t 36), (.c (.str [32]))])), false, []⟩,
 ⟨(some 2), none, (.p (.mov (.t 37))), false, []⟩]) .ret)))))⟩
theorem k12_ok : cfn Tryd.prog gl Tryd.f12 = some k12 := by kernel_rfl
def k13 : CFn := ⟨77, [(.t 4)], (.seq (.region [
 ⟨(some 2), none, (.h (.box (.t 0))), false, []⟩,
 ⟨(some 3), none, (.h (.box (.t 1))), false, []⟩,
 ⟨(some 4), none, (.p (.mov (.c (.bool false)))), false, []⟩]) (.seq (.seq (.region [
 ⟨(some 7), none, (.p (.fad 0 (.t 2))), false, []⟩,
 ⟨(some 8), none, (.h (.load false 1 (.t 7))), false, []⟩,
 ⟨(some 9), none, (.p (.len (.t 8))), false, []⟩,
 ⟨(some 10), none, (.p (.fad 0 (.t 3))), false, []⟩,
 ⟨(some 11), none, (.h (.load false 1 (.t 10))), false, []⟩,
 ⟨(some 12), none, (.p (.len (.t 11))), false, []⟩,
 ⟨(some 13), none, (.p (.bin .neq (.t 9) (.t 12))), false, []⟩,
 ⟨(some 14), none, (.p (.mov (.t 13))), false, []⟩,
 ⟨(some 15), (some (14, false)), (.p (.fad 1 (.t 2))), false, []⟩,
 ⟨(some 16), (some (14, false)), (.h (.load false 1 (.t 15))), false, []⟩,
 ⟨(some 17), (some (14, false)), (.p (.len (.t 16))), false, []⟩,
 ⟨(some 18), (some (14, false)), (.p (.fad 1 (.t 3))), false, []⟩,
 ⟨(some 19), (some (14, false)), (.h (.load false 1 (.t 18))), false, []⟩,
 ⟨(some 20), (some (14, false)), (.p (.len (.t 19))), false, []⟩,
 ⟨(some 21), (some (14, false)), (.p (.bin .neq (.t 17) (.t 20))), false, []⟩,
 ⟨(some 22), none, (.p (.pick (.t 14) (.c (.bool true)) (.t 21))), false, []⟩,
 ⟨(some 23), none, (.p (.mov (.t 22))), false, []⟩,
 ⟨(some 24), (some (23, false)), (.p (.fad 0 (.t 2))), false, []⟩,
 ⟨(some 25), (some (23, false)), (.h (.load false 1 (.t 24))), false, []⟩,
 ⟨(some 26), (some (23, false)), (.p (.cap (.t 25))), false, []⟩,
 ⟨(some 27), (some (23, false)), (.p (.fad 0 (.t 2))), false, []⟩,
 ⟨(some 28), (some (23, false)), (.h (.load false 1 (.t 27))), false, []⟩,
 ⟨(some 29), (some (23, false)), (.p (.len (.t 28))), false, []⟩,
 ⟨(some 30), (some (23, false)), (.p (.bin .neq (.t 26) (.t 29))), false, []⟩,
 ⟨(some 31), none, (.p (.pick (.t 23) (.c (.bool true)) (.t 30))), false, []⟩,
 ⟨(some 32), none, (.p (.mov (.t 31))), false, []⟩,
 ⟨(some 33), (some (32, false)), (.p (.fad 1 (.t 2))), false, []⟩,
 ⟨(some 34), (some (32, false)), (.h (.load false 1 (.t 33))), false, []⟩,
 ⟨(some 35), (some (32, false)), (.p (.cap (.t 34))), false, []⟩,
 ⟨(some 36), (some (32, false)), (.p (.fad 1 (.t 2))), false, []⟩,
 ⟨(some 37), (some (32, false)), (.h (.load false 1 (.t 36))), false, []⟩,
 ⟨(some 38), (some (32, false)), (.p (.len (.t 37))), false, []⟩,
 ⟨(some 39), (some (32, false)), (.p (.bin .neq (.t 35) (.t 38))), false, []⟩,
 ⟨(some 40), none, (.p (.pick (.t 32) (.c (.bool true)) (.t 39))), false, []⟩]) (.cond (.t 40) (.seq (.region [
 ⟨(some 4), none, (.p (.mov (.c (.bool false)))), false, []⟩]) .ret) .skip)) (.seq (.seq (.region [
 ⟨(some 5), none, (.p (.mov (.c (.int .i64 0)))), false, []⟩]) (.block 0 (.loop (.seq (.seq (.region [
 ⟨(some 41), none, (.p (.mov (.t 5))), false, []⟩,
 ⟨(some 42), none, (.p (.fad 0 (.t 2))), false, []⟩,
 ⟨(some 43), none, (.h (.load false 1 (.t 42))), false, []⟩,
 ⟨(some 44), none, (.p (.len (.t 43))), false, []⟩,
 ⟨(some 45), none, (.p (.bin .lss (.t 41) (.t 44))), false, []⟩]) (.cond (.t 45) .skip (.exit 0))) (.seq (.block 1 (.seq (.region [
 ⟨(some 48), none, (.p (.fad 0 (.t 2))), false, []⟩,
 ⟨(some 49), none, (.h (.load false 1 (.t 48))), true, []⟩,
 ⟨(some 50), none, (.p (.mov (.t 5))), false, []⟩,
 ⟨(some 51), none, (.p (.iadS 1 (.t 49) (.t 50))), false, []⟩,
 ⟨(some 52), none, (.h (.load false 1 (.t 51))), true, []⟩,
 ⟨(some 53), none, (.p (.fad 0 (.t 3))), false, []⟩,
 ⟨(some 54), none, (.h (.load false 1 (.t 53))), true, []⟩,
 ⟨(some 55), none, (.p (.mov (.t 5))), false, []⟩,
 ⟨(some 56), none, (.p (.iadS 1 (.t 54) (.t 55))), false, []⟩,
 ⟨(some 57), none, (.h (.load false 1 (.t 56))), true, []⟩,
 ⟨(some 58), none, (.p (.bin .neq (.t 52) (.t 57))), false, []⟩]) (.cond (.t 58) (.seq (.region [
 ⟨(some 4), none, (.p (.mov (.c (.bool false)))), false, []⟩]) .ret) .skip))) (.region [
 ⟨(some 46), none, (.p (.mov (.t 5))), false, []⟩,
 ⟨(some 47), none, (.p (.bin .add (.t 46) (.c (.int .i64 1)))), false, []⟩,
 ⟨(some 5), none, (.p (.mov (.t 47))), false, []⟩])))))) (.seq (.seq (.region [
 ⟨(some 6), none, (.p (.mov (.c (.int .i64 0)))), false, []⟩]) (.block 2 (.loop (.seq (.seq (.region [
 ⟨(some 59), none, (.p (.mov (.t 6))), false, []⟩,
 ⟨(some 60), none, (.p (.fad 1 (.t 2))), false, []⟩,
 ⟨(some 61), none, (.h (.load false 1 (.t 60))), false, []⟩,
 ⟨(some 62), none, (.p (.len (.t 61))), false, []⟩,
 ⟨(some 63), none, (.p (.bin .lss (.t 59) (.t 62))), false, []⟩]) (.cond (.t 63) .skip (.exit 2))) (.seq (.block 3 (.seq (.region [
 ⟨(some 66), none, (.p (.fad 1 (.t 2))), false, []⟩,
 ⟨(some 67), none, (.h (.load false 1 (.t 66))), true, []⟩,
 ⟨(some 68), none, (.p (.mov (.t 6))), false, []⟩,
 ⟨(some 69), none, (.p (.iadS 1 (.t 67) (.t 68))), false, []⟩,
 ⟨(some 70), none, (.h (.load false 1 (.t 69))), true, []⟩,
 ⟨(some 71), none, (.p (.fad 1 (.t 3))), false, []⟩,
 ⟨(some 72), none, (.h (.load false 1 (.t 71))), true, []⟩,
 ⟨(some 73), none, (.p (.mov (.t 6))), false, []⟩,
 ⟨(some 74), none, (.p (.iadS 1 (.t 72) (.t 73))), false, []⟩,
 ⟨(some 75), none, (.h (.load false 1 (.t 74))), true, []⟩,
 ⟨(some 76), none, (.p (.bin .neq (.t 70) (.t 75))), false, []⟩]) (.cond (.t 76) (.seq (.region [
 ⟨(some 4), none, (.p (.mov (.c (.bool false)))), false, []⟩]) .ret) .skip))) (.region [
 ⟨(some 64), none, (.p (.mov (.t 6))), false, []⟩,
 ⟨(some 65), none, (.p (.bin .add (.t 64) (.c (.int .i64 1)))), false, []⟩,
 ⟨(some 6), none, (.p (.mov (.t 65))), false, []⟩])))))) (.seq (.region [
 ⟨(some 4), none, (.p (.mov (.c (.bool true)))), false, []⟩]) .ret)))))⟩
theorem k13_ok : cfn Tryd.prog gl Tryd.f13 = some k13 := by kernel_rfl
def k14 : CFn := ⟨49, [(.t 2)], (.seq (.region [
 ⟨(some 1), none, (.h (.box (.t 0))), false, []⟩,
 ⟨(some 2), none, (.p (.mov (.c (.int .i64 0)))), false, []⟩]) (.seq (.block 0 (.seq (.region [
 ⟨(some 8), none, (.p (.fad 0 (.t 1))), false, []⟩,
 ⟨(some 9), none, (.h (.load false 1 (.t 8))), false, []⟩,
 ⟨(some 10), none, (.p (.len (.t 9))), false, []⟩,
 ⟨(some 11), none, (.p (.bin .gtr (.t 10) (.c (.int .i64 32)))), false, []⟩,
 ⟨(some 7), none, (.p (.mov (.t 11))), false, []⟩]) (.cond (.t 7) (.seq (.region [
 ⟨(some 2), none, (.p (.mov (.c (.int .i64 3)))), false, []⟩]) .ret) (.seq (.region [
 ⟨(some 13), none, (.p (.fad 0 (.t 1))), false, []⟩,
 ⟨(some 14), none, (.h (.load false 1 (.t 13))), false, []⟩,
 ⟨(some 15), none, (.p (.len (.t 14))), false, []⟩,
 ⟨(some 16), none, (.p (.fad 1 (.t 1))), false, []⟩,
 ⟨(some 17), none, (.h (.load false 1 (.t 16))), false, []⟩,
 ⟨(some 18), none, (.p (.len (.t 17))), false, []⟩,
 ⟨(some 19), none, (.p (.bin .add (.t 18) (.c (.int .i64 1)))), false, []⟩,
 ⟨(some 20), none, (.p (.bin .neq (.t 15) (.t 19))), false, []⟩,
 ⟨(some 12), none, (.p (.mov (.t 20))), false, []⟩]) (.cond (.t 12) (.seq (.region [
 ⟨(some 2), none, (.p (.mov (.c (.int .i64 5)))), false, []⟩]) .ret) .skip))))) (.seq (.seq (.region [
 ⟨(some 21), none, (.p (.fad 0 (.t 1))), false, []⟩,
 ⟨(some 22), none, (.h (.load false 1 (.t 21))), false, []⟩,
 ⟨(some 23), none, (.p (.len (.t 22))), false, []⟩,
 ⟨(some 24), none, (.p (.mov (.c (.int .i64 0)))), false, []⟩]) (.block 1 (.loop (.seq (.region [
 ⟨(some 25), none, (.p (.bin .lss (.t 24) (.t 23))), false, []⟩]) (.seq (.cond (.t 25) .skip (.exit 1)) (.seq (.block 2 (.seq (.region [
 ⟨(some 26), none, (.p (.iadS 1 (.t 22) (.t 24))), false, []⟩,
 ⟨(some 27), none, (.h (.load false 1 (.t 26))), false, []⟩,
 ⟨(some 4), none, (.p (.mov (.t 27))), false, []⟩]) (.seq (.region [
 ⟨(some 28), none, (.p (.mov (.t 4))), false, []⟩,
 ⟨(some 29), none, (.p (.bin .lss (.t 28) (.c (.int .i64 1)))), false, []⟩,
 ⟨(some 30), none, (.p (.mov (.t 29))), false, []⟩,
 ⟨(some 31), (some (30, false)), (.p (.mov (.t 4))), false, []⟩,
 ⟨(some 32), (some (30, false)), (.p (.bin .gtr (.t 31) (.c (.int .i64 64)))), false, []⟩,
 ⟨(some 33), none, (.p (.pick (.t 30) (.c (.bool true)) (.t 32))), false, []⟩]) (.cond (.t 33) (.seq (.region [
 ⟨(some 2), none, (.p (.mov (.c (.int .i64 1)))), false, []⟩]) .ret) .skip)))) (.region [
 ⟨(some 34), none, (.p (.bin .add (.t 24) (.c (.int .i64 1)))), false, []⟩,
 ⟨(some 24), none, (.p (.mov (.t 34))), false, []⟩]))))))) (.seq (.seq (.region [
 ⟨(some 35), none, (.p (.fad 1 (.t 1))), false, []⟩,
 ⟨(some 36), none, (.h (.load false 1 (.t 35))), false, []⟩,
 ⟨(some 37), none, (.p (.len (.t 36))), false, []⟩,
 ⟨(some 38), none, (.p (.mov (.c (.int .i64 0)))), false, []⟩]) (.block 3 (.loop (.seq (.region [
 ⟨(some 39), none, (.p (.bin .lss (.t 38) (.t 37))), false, []⟩]) (.seq (.cond (.t 39) .skip (.exit 3)) (.seq (.block 4 (.seq (.region [
 ⟨(some 40), none, (.p (.iadS 1 (.t 36) (.t 38))), false, []⟩,
 ⟨(some 41), none, (.h (.load false 1 (.t 40))), false, []⟩,
 ⟨(some 6), none, (.p (.mov (.t 41))), false, []⟩]) (.seq (.region [
 ⟨(some 42), none, (.p (.mov (.t 6))), false, []⟩,
 ⟨(some 43), none, (.p (.bin .lss (.t 42) (.c (.int .u8 1)))), false, []⟩,
 ⟨(some 44), none, (.p (.mov (.t 43))), false, []⟩,
 ⟨(some 45), (some (44, false)), (.p (.mov (.t 6))), false, []⟩,
 ⟨(some 46), (some (44, false)), (.p (.bin .gtr (.t 45) (.c (.int .u8 3)))), false, []⟩,
 ⟨(some 47), none, (.p (.pick (.t 44) (.c (.bool true)) (.t 46))), false, []⟩]) (.cond (.t 47) (.seq (.region [
 ⟨(some 2), none, (.p (.mov (.c (.int .i64 1)))), false, []⟩]) .ret) .skip)))) (.region [
 ⟨(some 48), none, (.p (.bin .add (.t 38) (.c (.int .i64 1)))), false, []⟩,
 ⟨(some 38), none, (.p (.mov (.t 48))), false, []⟩]))))))) (.seq (.region [
 ⟨(some 2), none, (.p (.mov (.c (.int .i64 0)))), false, []⟩]) .ret)))))⟩
theorem k14_ok : cfn Tryd.prog gl Tryd.f14 = some k14 := by kernel_rfl
def k17 : CFn := ⟨61, [(.cell 2 true 3), (.t 3)], (.seq (.region [
 ⟨(some 1), none, (.h (.box (.t 0))), false, []⟩,
 ⟨(some 2), none, (.h (.alloc [(.int .i64 0), (.int .i64 0), .nils])), false, []⟩,
 ⟨(some 3), none, (.p (.mov (.c (.int .i64 0)))), false, []⟩]) (.seq (.seq (.region [
 ⟨(some 8), none, (.h (.load true 2 (.t 1))), false, []⟩,
 ⟨(some 9), none, (.h (.call 14 [(.t 8)])), false, []⟩,
 ⟨(some 4), none, (.p (.mov (.t 9))), false, []⟩]) (.seq (.region [
 ⟨(some 10), none, (.p (.mov (.t 4))), false, []⟩,
 ⟨(some 11), none, (.p (.bin .neq (.t 10) (.c (.int .i64 0)))), false, []⟩]) (.cond (.t 11) (.seq (.region [
 ⟨(some 12), none, (.p (.build [(.int .i64 0), (.int .i64 0), .nils] [])), false, []⟩,
 ⟨(some 13), none, (.p (.mov (.t 4))), false, []⟩,
 ⟨none, none, (.h (.store 3 (.t 2) (.t 12))), false, []⟩,
 ⟨(some 3), none, (.p (.mov (.t 13))), false, []⟩]) .ret) .skip))) (.seq (.region [
 ⟨(some 14), none, (.p (.build [(.int .i64 0), (.int .i64 0)] [(1, 1, (.c (.int .i64 1)))])), false, []⟩,
 ⟨(some 15), none, (.p (.fad 1 (.t 1))), false, []⟩,
 ⟨(some 16), none, (.h (.load false 1 (.t 15))), false, []⟩,
 ⟨(some 17), none, (.p (.len (.t 16))), false, []⟩,
 ⟨(some 18), none, (.h (.mksl 3 16 [(.int .i64 0), (.int .u8 0), (.int .u8 0)] (.c (.int .i64 0)) (.t 17))), false, []⟩,
 ⟨(some 19), none, (.p (.build [(.int .i64 0), (.int .i64 0), .nils] [(0, 2, (.t 14)), (2, 1, (.t 18))])), false, []⟩,
 ⟨(some 5), none, (.h (.alloc [(.int .i64 0), (.int .i64 0), .nils])), false, []⟩,
 ⟨none, none, (.h (.store 3 (.t 5) (.t 19))), false, []⟩]) (.seq (.seq (.region [
 ⟨(some 20), none, (.p (.fad 0 (.t 1))), false, []⟩,
 ⟨(some 21), none, (.h (.load false 1 (.t 20))), false, []⟩,
 ⟨(some 22), none, (.p (.len (.t 21))), false, []⟩,
 ⟨(some 23), none, (.p (.mov (.c (.int .i64 0)))), false, []⟩]) (.block 0 (.loop (.seq (.region [
 ⟨(some 24), none, (.p (.bin .lss (.t 23) (.t 22))), false, []⟩]) (.seq (.cond (.t 24) .skip (.exit 0)) (.seq (.block 1 (.seq (.region [
 ⟨(some 25), none, (.p (.mov (.t 23))), false, []⟩,
 ⟨(some 26), none, (.p (.iadS 1 (.t 21) (.t 23))), false, []⟩,
 ⟨(some 27), none, (.h (.load false 1 (.t 26))), false, []⟩,
 ⟨(some 6), none, (.p (.mov (.t 25))), false, []⟩,
 ⟨(some 7), none, (.p (.mov (.t 27))), false, []⟩]) (.seq (.seq (.region [
 ⟨(some 28), none, (.p (.mov (.t 6))), false, []⟩,
 ⟨(some 29), none, (.p (.bin .gtr (.t 28) (.c (.int .i64 0)))), false, []⟩]) (.cond (.t 29) (.region [
 ⟨(some 30), none, (.p (.fad 2 (.t 5))), false, []⟩,
 ⟨(some 31), none, (.h (.load false 1 (.t 30))), true, []⟩,
 ⟨(some 32), none, (.p (.fad 0 (.t 5))), false, []⟩,
 ⟨(some 33), none, (.p (.fad 0 (.t 32))), false, []⟩,
 ⟨(some 34), none, (.h (.load false 1 (.t 33))), true, []⟩,
 ⟨(some 35), none, (.p (.bin .mul (.c (.int .i64 4)) (.t 34))), false, []⟩,
 ⟨(some 36), none, (.p (.bin .sub (.t 35) (.c (.int .i64 3)))), false, []⟩,
 ⟨(some 37), none, (.p (.fad 1 (.t 1))), false, []⟩,
 ⟨(some 38), none, (.h (.load false 1 (.t 37))), true, []⟩,
 ⟨(some 39), none, (.p (.mov (.t 6))), false, []⟩,
 ⟨(some 40), none, (.p (.bin .sub (.t 39) (.c (.int .i64 1)))), false, []⟩,
 ⟨(some 41), none, (.p (.iadS 1 (.t 38) (.t 40))), false, []⟩,
 ⟨(some 42), none, (.h (.load false 1 (.t 41))), true, []⟩,
 ⟨(some 43), none, (.p (.build [(.int .i64 0), (.int .u8 0), (.int .u8 0)] [(0, 1, (.t 36)), (2, 1, (.t 42))])), false, []⟩,
 ⟨(some 44), none, (.h (.bsl 3 1 [(.int .i64 0), (.int .u8 0), (.int .u8 0)] [(0, 3, (.t 43))])), true, []⟩,
 ⟨(some 45), none, (.h (.app 3 16 (.t 31) (.t 44))), false, []⟩,
 ⟨(some 46), none, (.p (.fad 2 (.t 5))), false, []⟩,
 ⟨none, none, (.h (.store 1 (.t 46) (.t 45))), false, []⟩]) .skip)) (.region [
 ⟨(some 47), none, (.p (.fad 0 (.t 5))), false, []⟩,
 ⟨(some 48), none, (.p (.fad 0 (.t 47))), false, []⟩,
 ⟨(some 49), none, (.h (.load false 1 (.t 48))), false, []⟩,
 ⟨(some 50), none, (.p (.mov (.t 7))), false, []⟩,
 ⟨(some 51), none, (.p (.bin .add (.t 49) (.t 50))), false, []⟩,
 ⟨(some 52), none, (.p (.fad 0 (.t 5))), false, []⟩,
 ⟨(some 53), none, (.p (.fad 0 (.t 52))), false, []⟩,
 ⟨none, none, (.h (.store 1 (.t 53) (.t 51))), false, []⟩])))) (.region [
 ⟨(some 54), none, (.p (.bin .add (.t 23) (.c (.int .i64 1)))), false, []⟩,
 ⟨(some 23), none, (.p (.mov (.t 54))), false, []⟩]))))))) (.seq (.seq (.region [
 ⟨(some 55), none, (.p (.fad 0 (.t 5))), false, []⟩,
 ⟨(some 56), none, (.p (.fad 0 (.t 55))), false, []⟩,
 ⟨(some 57), none, (.h (.load false 1 (.t 56))), false, []⟩,
 ⟨(some 58), none, (.p (.bin .gtr (.t 57) (.c (.int .i64 256)))), false, []⟩]) (.cond (.t 58) (.seq (.region [
 ⟨(some 59), none, (.p (.build [(.int .i64 0), (.int .i64 0), .nils] [])), false, []⟩,
 ⟨none, none, (.h (.store 3 (.t 2) (.t 59))), false, []⟩,
 ⟨(some 3), none, (.p (.mov (.c (.int .i64 3)))), false, []⟩]) .ret) .skip)) (.seq (.region [
 ⟨(some 60), none, (.h (.load true 3 (.t 5))), false, []⟩,
 ⟨none, none, (.h (.store 3 (.t 2) (.t 60))), false, []⟩,
 ⟨(some 3), none, (.p (.mov (.c (.int .i64 0)))), false, []⟩]) .ret))))))⟩
theorem k17_ok : cfn Tryd.prog gl Tryd.f17 = some k17 := by kernel_rfl
def k18 : CFn := ⟨10, [(.cell 2 true 2)], (.seq (.region [
 ⟨(some 1), none, (.h (.box (.t 0))), false, []⟩,
 ⟨(some 2), none, (.h (.alloc [.nils, .nils])), false, []⟩]) (.seq (.region [
 ⟨(some 3), none, (.p (.fad 0 (.t 1))), false, []⟩,
 ⟨(some 4), none, (.h (.load false 1 (.t 3))), true, []⟩,
 ⟨(some 5), none, (.h (.call 36 [(.t 4)])), true, []⟩,
 ⟨(some 6), none, (.p (.fad 1 (.t 1))), false, []⟩,
 ⟨(some 7), none, (.h (.load false 1 (.t 6))), true, []⟩,
 ⟨(some 8), none, (.h (.call 37 [(.t 7)])), false, []⟩,
 ⟨(some 9), none, (.p (.build [.nils, .nils] [(0, 1, (.t 5)), (1, 1, (.t 8))])), false, []⟩,
 ⟨none, none, (.h (.store 2 (.t 2) (.t 9))), false, []⟩]) .ret))⟩
theorem k18_ok : cfn Tryd.prog gl Tryd.f18 = some k18 := by kernel_rfl
def k23 : CFn := ⟨4, [(.cell 0 true 2)], (.seq (.region [
 ⟨(some 0), none, (.h (.alloc [.nils, .nils])), false, []⟩]) (.seq (.region [
 ⟨(some 1), none, (.h (.bsl 1 3 [(.int .i64 0), (.int .i64 0), (.int .i64 0)] [(0, 1, (.c (.int .i64 3))), (1, 1, (.c (.int .i64 2))), (2, 1, (.c (.int .i64 4)))])), false, []⟩,
 ⟨(some 2), none, (.h (.bsl 1 2 [(.int .u8 0), (.int .u8 0)] [(0, 1, (.c (.int .u8 1))), (1, 1, (.c (.int .u8 2)))])), false, []⟩,
 ⟨(some 3), none, (.p (.build [.nils, .nils] [(0, 1, (.t 1)), (1, 1, (.t 2))])), false, []⟩,
 ⟨none, none, (.h (.store 2 (.t 0) (.t 3))), false, []⟩]) .ret))⟩
theorem k23_ok : cfn Tryd.prog gl Tryd.f23 = some k23 := by kernel_rfl
def k24 : CFn := ⟨33, [(.t 4)], (.seq (.region [
 ⟨(some 4), none, (.p (.mov (.c (.bool false)))), false, []⟩]) (.seq (.seq (.region [
 ⟨(some 6), none, (.p (.mov (.t 0))), false, []⟩,
 ⟨(some 7), none, (.p (.len (.t 6))), false, []⟩,
 ⟨(some 8), none, (.p (.mov (.t 1))), false, []⟩,
 ⟨(some 9), none, (.p (.len (.t 8))), false, []⟩,
 ⟨(some 10), none, (.p (.bin .neq (.t 7) (.t 9))), false, []⟩,
 ⟨(some 11), none, (.p (.mov (.t 10))), false, []⟩,
 ⟨(some 12), (some (11, false)), (.p (.mov (.t 0))), false, []⟩,
 ⟨(some 13), (some (11, false)), (.p (.cap (.t 12))), false, []⟩,
 ⟨(some 14), (some (11, false)), (.p (.mov (.t 0))), false, []⟩,
 ⟨(some 15), (some (11, false)), (.p (.len (.t 14))), false, []⟩,
 ⟨(some 16), (some (11, false)), (.p (.bin .neq (.t 13) (.t 15))), false, []⟩,
 ⟨(some 17), none, (.p (.pick (.t 11) (.c (.bool true)) (.t 16))), false, []⟩]) (.cond (.t 17) (.seq (.region [
 ⟨(some 4), none, (.p (.mov (.c (.bool false)))), false, []⟩]) .ret) .skip)) (.seq (.seq (.region [
 ⟨(some 5), none, (.p (.mov (.c (.int .i64 0)))), false, []⟩]) (.block 0 (.loop (.seq (.seq (.region [
 ⟨(some 18), none, (.p (.mov (.t 5))), false, []⟩,
 ⟨(some 19), none, (.p (.mov (.t 0))), false, []⟩,
 ⟨(some 20), none, (.p (.len (.t 19))), false, []⟩,
 ⟨(some 21), none, (.p (.bin .lss (.t 18) (.t 20))), false, []⟩]) (.cond (.t 21) .skip (.exit 0))) (.seq (.block 1 (.seq (.region [
 ⟨(some 24), none, (.p (.mov (.t 0))), false, []⟩,
 ⟨(some 25), none, (.p (.mov (.t 5))), false, []⟩,
 ⟨(some 26), none, (.p (.iadS 1 (.t 24) (.t 25))), false, []⟩,
 ⟨(some 27), none, (.h (.load false 1 (.t 26))), true, []⟩,
 ⟨(some 28), none, (.p (.mov (.t 1))), false, []⟩,
 ⟨(some 29), none, (.p (.mov (.t 5))), false, []⟩,
 ⟨(some 30), none, (.p (.iadS 1 (.t 28) (.t 29))), false, []⟩,
 ⟨(some 31), none, (.h (.load false 1 (.t 30))), true, []⟩,
 ⟨(some 32), none, (.p (.bin .neq (.t 27) (.t 31))), false, []⟩]) (.cond (.t 32) (.seq (.region [
 ⟨(some 4), none, (.p (.mov (.c (.bool false)))), false, []⟩]) .ret) .skip))) (.region [
 ⟨(some 22), none, (.p (.mov (.t 5))), false, []⟩,
 ⟨(some 23), none, (.p (.bin .add (.t 22) (.c (.int .i64 1)))), false, []⟩,
 ⟨(some 5), none, (.p (.mov (.t 23))), false, []⟩])))))) (.seq (.region [
 ⟨(some 4), none, (.p (.mov (.c (.bool true)))), false, []⟩]) .ret))))⟩
theorem k24_ok : cfn Tryd.prog gl Tryd.f24 = some k24 := by kernel_rfl
def k25 : CFn := ⟨37, [(.cell 2 true 2)], (.seq (.region [
 ⟨(some 1), none, (.h (.box (.t 0))), false, []⟩,
 ⟨(some 2), none, (.h (.alloc [.nils, .nils])), false, []⟩]) (.seq (.region [
 ⟨(some 6), none, (.p (.fad 0 (.t 1))), false, []⟩,
 ⟨(some 7), none, (.h (.load false 1 (.t 6))), true, []⟩,
 ⟨(some 8), none, (.h (.call 48 [(.t 7)])), true, []⟩,
 ⟨(some 9), none, (.h (.call 30 [(.t 8)])), true, []⟩,
 ⟨(some 10), none, (.p (.fad 1 (.t 1))), false, []⟩,
 ⟨(some 11), none, (.h (.load false 1 (.t 10))), true, []⟩,
 ⟨(some 12), none, (.h (.call 49 [(.t 11)])), true, []⟩,
 ⟨(some 13), none, (.h (.call 31 [(.t 12)])), true, []⟩,
 ⟨(some 14), none, (.p (.build [.nils, .nils] [(0, 1, (.t 9)), (1, 1, (.t 13))])), false, []⟩,
 ⟨(some 3), none, (.h (.alloc [.nils, .nils])), true, []⟩,
 ⟨none, none, (.h (.store 2 (.t 3) (.t 14))), false, []⟩]) (.seq (.seq (.region [
 ⟨(some 15), none, (.p (.fad 1 (.t 3))), false, []⟩,
 ⟨(some 16), none, (.h (.load false 1 (.t 15))), false, []⟩,
 ⟨(some 17), none, (.p (.len (.t 16))), false, []⟩,
 ⟨(some 18), none, (.p (.mov (.c (.int .i64 0)))), false, []⟩]) (.block 0 (.loop (.seq (.region [
 ⟨(some 19), none, (.p (.bin .lss (.t 18) (.t 17))), false, []⟩]) (.seq (.cond (.t 19) .skip (.exit 0)) (.seq (.block 1 (.seq (.region [
 ⟨(some 20), none, (.p (.mov (.t 18))), false, []⟩,
 ⟨(some 21), none, (.p (.iadS 1 (.t 16) (.t 18))), false, []⟩,
 ⟨(some 22), none, (.h (.load false 1 (.t 21))), false, []⟩,
 ⟨(some 4), none, (.p (.mov (.t 20))), false, []⟩,
 ⟨(some 5), none, (.p (.mov (.t 22))), false, []⟩]) (.seq (.region [
 ⟨(some 23), none, (.p (.mov (.t 5))), false, []⟩,
 ⟨(some 24), none, (.p (.bin .eql (.t 23) (.c (.int .u8 1)))), false, []⟩,
 ⟨(some 25), none, (.p (.mov (.t 24))), false, []⟩,
 ⟨(some 26), (some (25, false)), (.p (.mov (.t 5))), false, []⟩,
 ⟨(some 27), (some (25, false)), (.p (.bin .eql (.t 26) (.c (.int .u8 2)))), false, []⟩,
 ⟨(some 28), none, (.p (.pick (.t 25) (.c (.bool true)) (.t 27))), false, []⟩]) (.cond (.t 28) (.region [
 ⟨(some 29), none, (.p (.fad 1 (.t 3))), false, []⟩,
 ⟨(some 30), none, (.h (.load false 1 (.t 29))), false, []⟩,
 ⟨(some 31), none, (.p (.mov (.t 4))), false, []⟩,
 ⟨(some 32), none, (.p (.mov (.t 5))), false, []⟩,
 ⟨(some 33), none, (.p (.bin .sub (.c (.int .u8 3)) (.t 32))), false, []⟩,
 ⟨(some 34), none, (.p (.iadS 1 (.t 30) (.t 31))), false, []⟩,
 ⟨none, none, (.h (.store 1 (.t 34) (.t 33))), false, []⟩]) .skip)))) (.region [
 ⟨(some 35), none, (.p (.bin .add (.t 18) (.c (.int .i64 1)))), false, []⟩,
 ⟨(some 18), none, (.p (.mov (.t 35))), false, []⟩]))))))) (.seq (.region [
 ⟨(some 36), none, (.h (.load true 2 (.t 3))), false, []⟩,
 ⟨none, none, (.h (.store 2 (.t 2) (.t 36))), false, []⟩]) .ret))))⟩
theorem k25_ok : cfn Tryd.prog gl Tryd.f25 = some k25 := by kernel_rfl
def k26 : CFn := ⟨5, [(.t 2)], (.seq (.region [
 ⟨(some 2), none, (.p (.mov (.c (.str [])))), false, []⟩]) (.seq (.region [
 ⟨(some 3), none, (.p (.mov (.t 0))), false, []⟩,
 ⟨(some 4), none, (.h (.call 50 [(.t 3), (.c (.int .i64 10))])), false, []⟩,
 ⟨(some 2), none, (.p (.mov (.t 4))), false, []⟩]) .ret))⟩
theorem k26_ok : cfn Tryd.prog gl Tryd.f26 = some k26 := by kernel_rfl
def k28 : CFn := ⟨19, [(.t 4)], (.seq (.region [
 ⟨(some 4), none, (.p (.mov (.c (.int .i64 0)))), false, []⟩]) (.seq (.seq (.region [
 ⟨(some 6), none, (.p (.mov (.t 0))), false, []⟩,
 ⟨(some 7), none, (.p (.len (.t 6))), false, []⟩,
 ⟨(some 8), none, (.p (.mov (.c (.int .i64 0)))), false, []⟩]) (.block 0 (.loop (.seq (.region [
 ⟨(some 9), none, (.p (.bin .lss (.t 8) (.t 7))), false, []⟩]) (.seq (.cond (.t 9) .skip (.exit 0)) (.seq (.block 1 (.seq (.region [
 ⟨(some 10), none, (.p (.mov (.t 8))), false, []⟩,
 ⟨(some 5), none, (.p (.mov (.t 10))), false, []⟩]) (.seq (.region [
 ⟨(some 11), none, (.p (.mov (.t 1))), false, []⟩,
 ⟨(some 12), none, (.p (.mov (.t 0))), false, []⟩,
 ⟨(some 13), none, (.p (.mov (.t 5))), false, []⟩,
 ⟨(some 14), none, (.p (.iadS 1 (.t 12) (.t 13))), false, []⟩,
 ⟨(some 15), none, (.h (.load false 1 (.t 14))), false, []⟩,
 ⟨(some 16), none, (.p (.bin .eql (.t 11) (.t 15))), false, []⟩]) (.cond (.t 16) (.seq (.region [
 ⟨(some 17), none, (.p (.mov (.t 5))), false, []⟩,
 ⟨(some 4), none, (.p (.mov (.t 17))), false, []⟩]) .ret) .skip)))) (.region [
 ⟨(some 18), none, (.p (.bin .add (.t 8) (.c (.int .i64 1)))), false, []⟩,
 ⟨(some 8), none, (.p (.mov (.t 18))), false, []⟩]))))))) (.seq (.region [
 ⟨(some 4), none, (.p (.mov (.c (.int .i64 (-1))))), false, []⟩]) .ret)))⟩
theorem k28_ok : cfn Tryd.prog gl Tryd.f28 = some k28 := by kernel_rfl
def k30 : CFn := ⟨9, [(.t 2)], (.seq (.region [
 ⟨(some 2), none, (.p (.mov (.c .nils))), false, []⟩]) (.seq (.region [
 ⟨(some 3), none, (.p (.mov (.t 0))), false, []⟩,
 ⟨(some 4), none, (.p (.mov (.t 0))), false, []⟩,
 ⟨(some 5), none, (.p (.len (.t 4))), false, []⟩,
 ⟨(some 6), none, (.p (.mov (.t 0))), false, []⟩,
 ⟨(some 7), none, (.p (.len (.t 6))), false, []⟩,
 ⟨(some 8), none, (.p (.slS 1 (.t 3) none (some (.t 5)) (some (.t 7)))), false, []⟩,
 ⟨(some 2), none, (.p (.mov (.t 8))), false, []⟩]) .ret))⟩
theorem k30_ok : cfn Tryd.prog gl Tryd.f30 = some k30 := by kernel_rfl
def k31 : CFn := ⟨9, [(.t 2)], (.seq (.region [
 ⟨(some 2), none, (.p (.mov (.c .nils))), false, []⟩]) (.seq (.region [
 ⟨(some 3), none, (.p (.mov (.t 0))), false, []⟩,
 ⟨(some 4), none, (.p (.mov (.t 0))), false, []⟩,
 ⟨(some 5), none, (.p (.len (.t 4))), false, []⟩,
 ⟨(some 6), none, (.p (.mov (.t 0))), false, []⟩,
 ⟨(some 7), none, (.p (.len (.t 6))), false, []⟩,
 ⟨(some 8), none, (.p (.slS 1 (.t 3) none (some (.t 5)) (some (.t 7)))), false, []⟩,
 ⟨(some 2), none, (.p (.mov (.t 8))), false, []⟩]) .ret))⟩
theorem k31_ok : cfn Tryd.prog gl Tryd.f31 = some k31 := by kernel_rfl
def k36 : CFn := ⟨10, [(.t 2)], (.seq (.region [
 ⟨(some 2), none, (.p (.mov (.c .nils))), false, []⟩]) (.seq (.region [
 ⟨(some 4), none, (.p (.mov (.t 0))), false, []⟩,
 ⟨(some 5), none, (.h (.call 48 [(.t 4)])), false, []⟩,
 ⟨(some 6), none, (.h (.call 30 [(.t 5)])), false, []⟩,
 ⟨(some 3), none, (.p (.mov (.t 6))), false, []⟩]) (.seq (.region [
 ⟨(some 7), none, (.p (.mov (.t 3))), false, []⟩,
 ⟨(some 8), none, (.h (.call 58 [(.t 7)])), false, []⟩]) (.seq (.region [
 ⟨(some 9), none, (.p (.mov (.t 3))), false, []⟩,
 ⟨(some 2), none, (.p (.mov (.t 9))), false, []⟩]) .ret))))⟩
theorem k36_ok : cfn Tryd.prog gl Tryd.f36 = some k36 := by kernel_rfl
def k37 : CFn := ⟨10, [(.t 2)], (.seq (.region [
 ⟨(some 2), none, (.p (.mov (.c .nils))), false, []⟩]) (.seq (.region [
 ⟨(some 4), none, (.p (.mov (.t 0))), false, []⟩,
 ⟨(some 5), none, (.h (.call 49 [(.t 4)])), false, []⟩,
 ⟨(some 6), none, (.h (.call 31 [(.t 5)])), false, []⟩,
 ⟨(some 3), none, (.p (.mov (.t 6))), false, []⟩]) (.seq (.region [
 ⟨(some 7), none, (.p (.mov (.t 3))), false, []⟩,
 ⟨(some 8), none, (.h (.call 59 [(.t 7)])), false, []⟩]) (.seq (.region [
 ⟨(some 9), none, (.p (.mov (.t 3))), false, []⟩,
 ⟨(some 2), none, (.p (.mov (.t 9))), false, []⟩]) .ret))))⟩
theorem k37_ok : cfn Tryd.prog gl Tryd.f37 = some k37 := by kernel_rfl
def k48 : CFn := ⟨8, [(.t 2)], (.seq (.region [
 ⟨(some 2), none, (.p (.mov (.c .nils))), false, []⟩]) (.seq (.seq (.region [
 ⟨(some 3), none, (.p (.mov (.t 0))), false, []⟩,
 ⟨(some 4), none, (.p (.eqn false 2 (.t 3) (.c .nils))), false, []⟩]) (.cond (.t 4) (.seq (.region [
 ⟨(some 2), none, (.p (.mov (.c .nils))), false, []⟩]) .ret) .skip)) (.seq (.region [
 ⟨(some 5), none, (.h (.bsl 1 0 [] [])), false, []⟩,
 ⟨(some 6), none, (.p (.mov (.t 0))), false, []⟩,
 ⟨(some 7), none, (.h (.app 1 8 (.t 5) (.t 6))), false, []⟩,
 ⟨(some 2), none, (.p (.mov (.t 7))), false, []⟩]) .ret)))⟩
theorem k48_ok : cfn Tryd.prog gl Tryd.f48 = some k48 := by kernel_rfl
def k49 : CFn := ⟨8, [(.t 2)], (.seq (.region [
 ⟨(some 2), none, (.p (.mov (.c .nils))), false, []⟩]) (.seq (.seq (.region [
 ⟨(some 3), none, (.p (.mov (.t 0))), false, []⟩,
 ⟨(some 4), none, (.p (.eqn false 2 (.t 3) (.c .nils))), false, []⟩]) (.cond (.t 4) (.seq (.region [
 ⟨(some 2), none, (.p (.mov (.c .nils))), false, []⟩]) .ret) .skip)) (.seq (.region [
 ⟨(some 5), none, (.h (.bsl 1 0 [] [])), false, []⟩,
 ⟨(some 6), none, (.p (.mov (.t 0))), false, []⟩,
 ⟨(some 7), none, (.h (.app 1 1 (.t 5) (.t 6))), false, []⟩,
 ⟨(some 2), none, (.p (.mov (.t 7))), false, []⟩]) .ret)))⟩
theorem k49_ok : cfn Tryd.prog gl Tryd.f49 = some k49 := by kernel_rfl
def k50 : CFn := ⟨54, [(.t 4)], (.seq (.region [
 ⟨(some 4), none, (.p (.mov (.c (.str [])))), false, []⟩]) (.seq (.seq (.region [
 ⟨(some 10), none, (.p (.mov (.t 1))), false, []⟩,
 ⟨(some 11), none, (.p (.bin .eql (.t 10) (.c (.int .i64 10)))), false, []⟩]) (.cond (.t 11) (.seq (.seq (.region [
 ⟨(some 12), none, (.p (.mov (.t 0))), false, []⟩,
 ⟨(some 13), none, (.p (.bin .leq (.c (.int .i64 0)) (.t 12))), false, []⟩,
 ⟨(some 14), none, (.p (.mov (.t 13))), false, []⟩,
 ⟨(some 15), (some (14, true)), (.p (.mov (.t 0))), false, []⟩,
 ⟨(some 16), (some (14, true)), (.p (.bin .lss (.t 15) (.c (.int .i64 100)))), false, []⟩,
 ⟨(some 17), none, (.p (.pick (.t 14) (.t 16) (.c (.bool false)))), false, []⟩]) (.cond (.t 17) (.seq (.region [
 ⟨(some 18), none, (.p (.mov (.t 0))), false, []⟩,
 ⟨(some 19), none, (.h (.call 62 [(.t 18)])), false, []⟩,
 ⟨(some 4), none, (.p (.mov (.t 19))), false, []⟩]) .ret) .skip)) (.seq (.region [
 ⟨(some 5), none, (.h (.alloc [(.int .u8 0), (.int .u8 0), (.int .u8 0), (.int .u8 0), (.int .u8 0), (.int .u8 0), (.int .u8 0), (.int .u8 0), (.int .u8 0), (.int .u8 0), (.int .u8 0), (.int .u8 0), (.int .u8 0), (.int .u8 0), (.int .u8 0), (.int .u8 0), (.int .u8 0), (.int .u8 0), (.int .u8 0), (.int .u8 0), (.int .u8 0), (.int .u8 0), (.int .u8 0), (.int .u8 0)])), false, []⟩]) (.seq (.region [
 ⟨(some 20), none, (.p (.mov (.t 0))), false, []⟩,
 ⟨(some 21), none, (.p (.cvi .u64 (.t 20))), false, []⟩,
 ⟨(some 6), none, (.p (.mov (.t 21))), false, []⟩]) (.seq (.seq (.region [
 ⟨(some 22), none, (.p (.mov (.t 0))), false, []⟩,
 ⟨(some 23), none, (.p (.bin .lss (.t 22) (.c (.int .i64 0)))), false, []⟩]) (.cond (.t 23) (.region [
 ⟨(some 24), none, (.p (.mov (.t 6))), false, []⟩,
 ⟨(some 25), none, (.p (.neg (.t 24))), false, []⟩,
 ⟨(some 6), none, (.p (.mov (.t 25))), false, []⟩]) .skip)) (.seq (.region [
 ⟨(some 26), none, (.p (.mov (.t 6))), false, []⟩,
 ⟨(some 27), none, (.h (.call 63 [(.t 26)])), false, []⟩,
 ⟨(some 7), none, (.p (.mov (.t 27))), false, []⟩]) (.seq (.region [
 ⟨(some 28), none, (.p (.mov (.t 7))), false, []⟩,
 ⟨(some 29), none, (.p (.bin .add (.c (.int .i64 1)) (.t 28))), false, []⟩,
 ⟨(some 30), none, (.h (.slA 24 1 (.t 5) (some (.c (.int .i64 1))) (some (.t 29)) none)), false, []⟩,
 ⟨(some 31), none, (.p (.mov (.t 6))), false, []⟩,
 ⟨(some 32), none, (.h (.call 64 [(.t 30), (.t 31)])), false, []⟩]) (.seq (.seq (.region [
 ⟨(some 33), none, (.p (.mov (.t 0))), false, []⟩,
 ⟨(some 34), none, (.p (.bin .lss (.t 33) (.c (.int .i64 0)))), false, []⟩]) (.cond (.t 34) (.seq (.region [
 ⟨(some 35), none, (.p (.iadA 24 1 (.t 5) (.c (.int .i64 0)))), false, []⟩,
 ⟨none, none, (.h (.store 1 (.t 35) (.c (.int .u8 45)))), false, []⟩]) (.seq (.region [
 ⟨(some 36), none, (.p (.mov (.t 7))), false, []⟩,
 ⟨(some 37), none, (.p (.bin .add (.c (.int .i64 1)) (.t 36))), false, []⟩,
 ⟨(some 38), none, (.h (.slA 24 1 (.t 5) none (some (.t 37)) none)), false, []⟩,
 ⟨(some 39), none, (.h (.b2s (.t 38))), false, []⟩,
 ⟨(some 4), none, (.p (.mov (.t 39))), false, []⟩]) .ret)) .skip)) (.seq (.region [
 ⟨(some 40), none, (.p (.mov (.t 7))), false, []⟩,
 ⟨(some 41), none, (.p (.bin .add (.c (.int .i64 1)) (.t 40))), false, []⟩,
 ⟨(some 42), none, (.h (.slA 24 1 (.t 5) (some (.c (.int .i64 1))) (some (.t 41)) none)), false, []⟩,
 ⟨(some 43), none, (.h (.b2s (.t 42))), false, []⟩,
 ⟨(some 4), none, (.p (.mov (.t 43))), false, []⟩]) .ret)))))))) .skip)) (.seq (.region [
 ⟨(some 45), none, (.p (.mov (.t 0))), false, []⟩,
 ⟨(some 46), none, (.p (.cvi .u64 (.t 45))), false, []⟩,
 ⟨(some 47), none, (.p (.mov (.t 1))), false, []⟩,
 ⟨(some 48), none, (.p (.mov (.t 0))), false, []⟩,
 ⟨(some 49), none, (.p (.bin .lss (.t 48) (.c (.int .i64 0)))), false, []⟩,
 ⟨(some 50), none, (.h (.call 65 [(.c .nils), (.t 46), (.t 47), (.t 49), (.c (.bool false))])), false, []⟩,
 ⟨(some 44), none, (.p (.mov (.t 50))), false, []⟩,
 ⟨(some 51), none, (.p (.ext 0 (.t 44))), false, []⟩,
 ⟨(some 52), none, (.p (.ext 1 (.t 44))), false, []⟩,
 ⟨(some 8), none, (.p (.mov (.t 51))), false, []⟩,
 ⟨(some 9), none, (.p (.mov (.t 52))), false, []⟩]) (.seq (.region [
 ⟨(some 53), none, (.p (.mov (.t 9))), false, []⟩,
 ⟨(some 4), none, (.p (.mov (.t 53))), false, []⟩]) .ret))))⟩
theorem k50_ok : cfn Tryd.prog gl Tryd.f50 = some k50 := by kernel_rfl
def k58 : CFn := ⟨28, [], (.seq (.region [
 ⟨(some 4), none, (.p (.mov (.t 0))), false, []⟩,
 ⟨(some 5), none, (.p (.len (.t 4))), false, []⟩,
 ⟨(some 6), none, (.p (.bin .sub (.t 5) (.c (.int .i64 1)))), false, []⟩,
 ⟨(some 2), none, (.p (.mov (.c (.int .i64 0)))), false, []⟩,
 ⟨(some 3), none, (.p (.mov (.t 6))), false, []⟩]) (.block 0 (.loop (.seq (.seq (.region [
 ⟨(some 7), none, (.p (.mov (.t 2))), false, []⟩,
 ⟨(some 8), none, (.p (.mov (.t 3))), false, []⟩,
 ⟨(some 9), none, (.p (.bin .lss (.t 7) (.t 8))), false, []⟩]) (.cond (.t 9) .skip (.exit 0))) (.seq (.block 1 (.region [
 ⟨(some 14), none, (.p (.mov (.t 0))), false, []⟩,
 ⟨(some 15), none, (.p (.mov (.t 2))), false, []⟩,
 ⟨(some 16), none, (.p (.mov (.t 0))), false, []⟩,
 ⟨(some 17), none, (.p (.mov (.t 3))), false, []⟩,
 ⟨(some 18), none, (.p (.mov (.t 0))), false, []⟩,
 ⟨(some 19), none, (.p (.mov (.t 3))), false, []⟩,
 ⟨(some 20), none, (.p (.iadS 1 (.t 18) (.t 19))), false, []⟩,
 ⟨(some 21), none, (.h (.load false 1 (.t 20))), true, []⟩,
 ⟨(some 22), none, (.p (.mov (.t 0))), false, []⟩,
 ⟨(some 23), none, (.p (.mov (.t 2))), false, []⟩,
 ⟨(some 24), none, (.p (.iadS 1 (.t 22) (.t 23))), false, []⟩,
 ⟨(some 25), none, (.h (.load false 1 (.t 24))), true, []⟩,
 ⟨(some 26), none, (.p (.iadS 1 (.t 14) (.t 15))), false, []⟩,
 ⟨none, none, (.h (.store 1 (.t 26) (.t 21))), false, []⟩,
 ⟨(some 27), none, (.p (.iadS 1 (.t 16) (.t 17))), false, []⟩,
 ⟨none, none, (.h (.store 1 (.t 27) (.t 25))), false, []⟩])) (.region [
 ⟨(some 10), none, (.p (.mov (.t 2))), false, []⟩,
 ⟨(some 11), none, (.p (.bin .add (.t 10) (.c (.int .i64 1)))), false, []⟩,
 ⟨(some 12), none, (.p (.mov (.t 3))), false, []⟩,
 ⟨(some 13), none, (.p (.bin .sub (.t 12) (.c (.int .i64 1)))), false, []⟩,
 ⟨(some 2), none, (.p (.mov (.t 11))), false, []⟩,
 ⟨(some 3), none, (.p (.mov (.t 13))), false, []⟩]))))))⟩
theorem k58_ok : cfn Tryd.prog gl Tryd.f58 = some k58 := by kernel_rfl
def k59 : CFn := ⟨28, [], (.seq (.region [
 ⟨(some 4), none, (.p (.mov (.t 0))), false, []⟩,
 ⟨(some 5), none, (.p (.len (.t 4))), false, []⟩,
 ⟨(some 6), none, (.p (.bin .sub (.t 5) (.c (.int .i64 1)))), false, []⟩,
 ⟨(some 2), none, (.p (.mov (.c (.int .i64 0)))), false, []⟩,
 ⟨(some 3), none, (.p (.mov (.t 6))), false, []⟩]) (.block 0 (.loop (.seq (.seq (.region [
 ⟨(some 7), none, (.p (.mov (.t 2))), false, []⟩,
 ⟨(some 8), none, (.p (.mov (.t 3))), false, []⟩,
 ⟨(some 9), none, (.p (.bin .lss (.t 7) (.t 8))), false, []⟩]) (.cond (.t 9) .skip (.exit 0))) (.seq (.block 1 (.region [
 ⟨(some 14), none, (.p (.mov (.t 0))), false, []⟩,
 ⟨(some 15), none, (.p (.mov (.t 2))), false, []⟩,
 ⟨(some 16), none, (.p (.mov (.t 0))), false, []⟩,
 ⟨(some 17), none, (.p (.mov (.t 3))), false, []⟩,
 ⟨(some 18), none, (.p (.mov (.t 0))), false, []⟩,
 ⟨(some 19), none, (.p (.mov (.t 3))), false, []⟩,
 ⟨(some 20), none, (.p (.iadS 1 (.t 18) (.t 19))), false, []⟩,
 ⟨(some 21), none, (.h (.load false 1 (.t 20))), true, []⟩,
 ⟨(some 22), none, (.p (.mov (.t 0))), false, []⟩,
 ⟨(some 23), none, (.p (.mov (.t 2))), false, []⟩,
 ⟨(some 24), none, (.p (.iadS 1 (.t 22) (.t 23))), false, []⟩,
 ⟨(some 25), none, (.h (.load false 1 (.t 24))), true, []⟩,
 ⟨(some 26), none, (.p (.iadS 1 (.t 14) (.t 15))), false, []⟩,
 ⟨none, none, (.h (.store 1 (.t 26) (.t 21))), false, []⟩,
 ⟨(some 27), none, (.p (.iadS 1 (.t 16) (.t 17))), false, []⟩,
 ⟨none, none, (.h (.store 1 (.t 27) (.t 25))), false, []⟩])) (.region [
 ⟨(some 10), none, (.p (.mov (.t 2))), false, []⟩,
 ⟨(some 11), none, (.p (.bin .add (.t 10) (.c (.int .i64 1)))), false, []⟩,
 ⟨(some 12), none, (.p (.mov (.t 3))), false, []⟩,
 ⟨(some 13), none, (.p (.bin .sub (.t 12) (.c (.int .i64 1)))), false, []⟩,
 ⟨(some 2), none, (.p (.mov (.t 11))), false, []⟩,
 ⟨(some 3), none, (.p (.mov (.t 13))), false, []⟩]))))))⟩
theorem k59_ok : cfn Tryd.prog gl Tryd.f59 = some k59 := by kernel_rfl
def k62 : CFn := ⟨15, [(.t 2)], (.seq (.region [
 ⟨(some 2), none, (.p (.mov (.c (.str [])))), false, []⟩]) (.seq (.seq (.region [
 ⟨(some 3), none, (.p (.mov (.t 0))), false, []⟩,
 ⟨(some 4), none, (.p (.bin .lss (.t 3) (.c (.int .i64 10)))), false, []⟩]) (.cond (.t 4) (.seq (.region [
 ⟨(some 5), none, (.p (.mov (.t 0))), false, []⟩,
 ⟨(some 6), none, (.p (.mov (.t 0))), false, []⟩,
 ⟨(some 7), none, (.p (.bin .add (.t 6) (.c (.int .i64 1)))), false, []⟩,
 ⟨(some 8), none, (.p (.slT (.c (.str [48, 49, 50, 51, 52, 53, 54, 55, 56, 57, 97, 98, 99, 100, 101, 102, 103, 104, 105, 106, 107, 108, 109, 110, 111, 112, 113, 114, 115, 116, 117, 118, 119, 120, 121, 122])) (some (.t 5)) (some (.t 7)))), false, []⟩,
 ⟨(some 2), none, (.p (.mov (.t 8))), false, []⟩]) .ret) .skip)) (.seq (.region [
 ⟨(some 9), none, (.p (.mov (.t 0))), false, []⟩,
 ⟨(some 10), none, (.p (.bin .mul (.t 9) (.c (.int .i64 2)))), false, []⟩,
 ⟨(some 11), none, (.p (.mov (.t 0))), false, []⟩,
 ⟨(some 12), none, (.p (.bin .mul (.t 11) (.c (.int .i64 2)))), false, []⟩,
 ⟨(some 13), none, (.p (.bin .add (.t 12) (.c (.int .i64 2)))), false, []⟩,
 ⟨(some 14), none, (.p (.slT (.c (.str [48, 48, 48, 49, 48, 50, 48, 51, 48, 52, 48, 53, 48, 54, 48, 55, 48, 56, 48, 57, 49, 48, 49, 49, 49, 50, 49, 51, 49, 52, 49, 53, 49, 54, 49, 55, 49, 56, 49, 57, 50, 48, 50, 49, 50, 50, 50, 51, 50, 52, 50, 53, 50, 54, 50, 55, 50, 56, 50, 57, 51, 48, 51, 49, 51, 50, 51, 51, 51, 52, 51, 53, 51, 54, 51, 55, 51, 56, 51, 57, 52, 48, 52, 49, 52, 50, 52, 51, 52, 52, 52, 53, 52, 54, 52, 55, 52, 56, 52, 57, 53, 48, 53, 49, 53, 50, 53, 51, 53, 52, 53, 53, 53, 54, 53, 55, 53, 56, 53, 57, 54, 48, 54, 49, 54, 50, 54, 51, 54, 52, 54, 53, 54, 54, 54, 55, 54, 56, 54, 57, 55, 48, 55, 49, 55, 50, 55, 51, 55, 52, 55, 53, 55, 54, 55, 55, 55, 56, 55, 57, 56, 48, 56, 49, 56, 50, 56, 51, 56, 52, 56, 53, 56, 54, 56, 55, 56, 56, 56, 57, 57, 48, 57, 49, 57, 50, 57, 51, 57, 52, 57, 53, 57, 54, 57, 55, 57, 56, 57, 57])) (some (.t 10)) (some (.t 13)))), false, []⟩,
 ⟨(some 2), none, (.p (.mov (.t 14))), false, []⟩]) .ret)))⟩
theorem k62_ok : cfn Tryd.prog gl Tryd.f62 = some k62 := by kernel_rfl
def k63 : CFn := ⟨15, [(.t 2)], (.seq (.region [
 ⟨(some 2), none, (.p (.mov (.c (.int .i64 0)))), false, []⟩]) (.seq (.region [
 ⟨(some 4), none, (.p (.mov (.t 0))), false, []⟩,
 ⟨(some 5), none, (.h (.call 80 [(.t 4)])), false, []⟩,
 ⟨(some 6), none, (.h (.call 79 [(.t 5)])), false, []⟩,
 ⟨(some 3), none, (.p (.mov (.t 6))), false, []⟩]) (.seq (.region [
 ⟨(some 7), none, (.p (.mov (.t 3))), false, []⟩,
 ⟨(some 8), none, (.p (.mov (.t 0))), false, []⟩,
 ⟨(some 9), none, (.p (.mov (.t 3))), false, []⟩,
 ⟨(some 10), none, (.p (.iadA 20 1 (.c (.ptr 1 0)) (.t 9))), false, []⟩,
 ⟨(some 11), none, (.h (.load false 1 (.t 10))), false, []⟩,
 ⟨(some 12), none, (.p (.bin .geq (.t 8) (.t 11))), false, []⟩,
 ⟨(some 13), none, (.h (.call 81 [(.t 12)])), false, []⟩,
 ⟨(some 14), none, (.p (.bin .add (.t 7) (.t 13))), false, []⟩,
 ⟨(some 2), none, (.p (.mov (.t 14))), false, []⟩]) .ret)))⟩
theorem k63_ok : cfn Tryd.prog gl Tryd.f63 = some k63 := by kernel_rfl
def k64 : CFn := ⟨167, [], (.seq (.region [
 ⟨(some 17), none, (.p (.mov (.t 0))), false, []⟩,
 ⟨(some 18), none, (.p (.len (.t 17))), false, []⟩,
 ⟨(some 4), none, (.p (.mov (.t 18))), false, []⟩]) (.seq (.block 0 (.loop (.seq (.seq (.region [
 ⟨(some 19), none, (.p (.mov (.t 4))), false, []⟩,
 ⟨(some 20), none, (.p (.bin .geq (.t 19) (.c (.int .i64 8)))), false, []⟩]) (.cond (.t 20) .skip (.exit 0))) (.block 1 (.seq (.region [
 ⟨(some 21), none, (.p (.mov (.t 1))), false, []⟩,
 ⟨(some 22), none, (.p (.bin .rem (.t 21) (.c (.int .u64 100000000)))), false, []⟩,
 ⟨(some 23), none, (.p (.cvi .u32 (.t 22))), false, []⟩,
 ⟨(some 5), none, (.p (.mov (.t 23))), false, []⟩]) (.seq (.region [
 ⟨(some 24), none, (.p (.mov (.t 1))), false, []⟩,
 ⟨(some 25), none, (.p (.bin .quo (.t 24) (.c (.int .u64 100000000)))), false, []⟩,
 ⟨(some 1), none, (.p (.mov (.t 25))), false, []⟩]) (.seq (.region [
 ⟨(some 26), none, (.p (.mov (.t 5))), false, []⟩,
 ⟨(some 27), none, (.p (.bin .quo (.t 26) (.c (.int .u32 10000)))), false, []⟩,
 ⟨(some 28), none, (.p (.mov (.t 5))), false, []⟩,
 ⟨(some 29), none, (.p (.bin .rem (.t 28) (.c (.int .u32 10000)))), false, []⟩,
 ⟨(some 6), none, (.p (.mov (.t 27))), false, []⟩,
 ⟨(some 7), none, (.p (.mov (.t 29))), false, []⟩]) (.seq (.region [
 ⟨(some 30), none, (.p (.mov (.t 7))), false, []⟩,
 ⟨(some 31), none, (.p (.bin .quo (.t 30) (.c (.int .u32 100)))), false, []⟩,
 ⟨(some 32), none, (.p (.bin .mul (.t 31) (.c (.int .u32 2)))), false, []⟩,
 ⟨(some 33), none, (.p (.mov (.t 7))), false, []⟩,
 ⟨(some 34), none, (.p (.bin .rem (.t 33) (.c (.int .u32 100)))), false, []⟩,
 ⟨(some 35), none, (.p (.bin .mul (.t 34) (.c (.int .u32 2)))), false, []⟩,
 ⟨(some 8), none, (.p (.mov (.t 32))), false, []⟩,
 ⟨(some 9), none, (.p (.mov (.t 35))), false, []⟩]) (.seq (.region [
 ⟨(some 36), none, (.p (.mov (.t 6))), false, []⟩,
 ⟨(some 37), none, (.p (.bin .quo (.t 36) (.c (.int .u32 100)))), false, []⟩,
 ⟨(some 38), none, (.p (.bin .mul (.t 37) (.c (.int .u32 2)))), false, []⟩,
 ⟨(some 39), none, (.p (.mov (.t 6))), false, []⟩,
 ⟨(some 40), none, (.p (.bin .rem (.t 39) (.c (.int .u32 100)))), false, []⟩,
 ⟨(some 41), none, (.p (.bin .mul (.t 40) (.c (.int .u32 2)))), false, []⟩,
 ⟨(some 10), none, (.p (.mov (.t 38))), false, []⟩,
 ⟨(some 11), none, (.p (.mov (.t 41))), false, []⟩]) (.seq (.region [
 ⟨(some 42), none, (.p (.mov (.t 0))), false, []⟩,
 ⟨(some 43), none, (.p (.mov (.t 4))), false, []⟩,
 ⟨(some 44), none, (.p (.bin .sub (.t 43) (.c (.int .i64 1)))), false, []⟩,
 ⟨(some 45), none, (.p (.mov (.t 0))), false, []⟩,
 ⟨(some 46), none, (.p (.mov (.t 4))), false, []⟩,
 ⟨(some 47), none, (.p (.bin .sub (.t 46) (.c (.int .i64 2)))), false, []⟩,
 ⟨(some 48), none, (.p (.mov (.t 9))), false, []⟩,
 ⟨(some 49), none, (.p (.bin .add (.t 48) (.c (.int .u32 1)))), false, []⟩,
 ⟨(some 50), none, (.p (.idxS (.c (.str [48, 48, 48, 49, 48, 50, 48, 51, 48, 52, 48, 53, 48, 54, 48, 55, 48, 56, 48, 57, 49, 48, 49, 49, 49, 50, 49, 51, 49, 52, 49, 53, 49, 54, 49, 55, 49, 56, 49, 57, 50, 48, 50, 49, 50, 50, 50, 51, 50, 52, 50, 53, 50, 54, 50, 55, 50, 56, 50, 57, 51, 48, 51, 49, 51, 50, 51, 51, 51, 52, 51, 53, 51, 54, 51, 55, 51, 56, 51, 57, 52, 48, 52, 49, 52, 50, 52, 51, 52, 52, 52, 53, 52, 54, 52, 55, 52, 56, 52, 57, 53, 48, 53, 49, 53, 50, 53, 51, 53, 52, 53, 53, 53, 54, 53, 55, 53, 56, 53, 57, 54, 48, 54, 49, 54, 50, 54, 51, 54, 52, 54, 53, 54, 54, 54, 55, 54, 56, 54, 57, 55, 48, 55, 49, 55, 50, 55, 51, 55, 52, 55, 53, 55, 54, 55, 55, 55, 56, 55, 57, 56, 48, 56, 49, 56, 50, 56, 51, 56, 52, 56, 53, 56, 54, 56, 55, 56, 56, 56, 57, 57, 48, 57, 49, 57, 50, 57, 51, 57, 52, 57, 53, 57, 54, 57, 55, 57, 56, 57, 57])) (.t 49))), false, []⟩,
 ⟨(some 51), none, (.p (.mov (.t 9))), false, []⟩,
 ⟨(some 52), none, (.p (.idxS (.c (.str [48, 48, 48, 49, 48, 50, 48, 51, 48, 52, 48, 53, 48, 54, 48, 55, 48, 56, 48, 57, 49, 48, 49, 49, 49, 50, 49, 51, 49, 52, 49, 53, 49, 54, 49, 55, 49, 56, 49, 57, 50, 48, 50, 49, 50, 50, 50, 51, 50, 52, 50, 53, 50, 54, 50, 55, 50, 56, 50, 57, 51, 48, 51, 49, 51, 50, 51, 51, 51, 52, 51, 53, 51, 54, 51, 55, 51, 56, 51, 57, 52, 48, 52, 49, 52, 50, 52, 51, 52, 52, 52, 53, 52, 54, 52, 55, 52, 56, 52, 57, 53, 48, 53, 49, 53, 50, 53, 51, 53, 52, 53, 53, 53, 54, 53, 55, 53, 56, 53, 57, 54, 48, 54, 49, 54, 50, 54, 51, 54, 52, 54, 53, 54, 54, 54, 55, 54, 56, 54, 57, 55, 48, 55, 49, 55, 50, 55, 51, 55, 52, 55, 53, 55, 54, 55, 55, 55, 56, 55, 57, 56, 48, 56, 49, 56, 50, 56, 51, 56, 52, 56, 53, 56, 54, 56, 55, 56, 56, 56, 57, 57, 48, 57, 49, 57, 50, 57, 51, 57, 52, 57, 53, 57, 54, 57, 55, 57, 56, 57, 57])) (.t 51))), false, []⟩,
 ⟨(some 53), none, (.p (.iadS 1 (.t 42) (.t 44))), false, []⟩,
 ⟨none, none, (.h (.store 1 (.t 53) (.t 50))), false, []⟩,
 ⟨(some 54), none, (.p (.iadS 1 (.t 45) (.t 47))), false, []⟩,
 ⟨none, none, (.h (.store 1 (.t 54) (.t 52))), false, []⟩]) (.seq (.region [
 ⟨(some 55), none, (.p (.mov (.t 0))), false, []⟩,
 ⟨(some 56), none, (.p (.mov (.t 4))), false, []⟩,
 ⟨(some 57), none, (.p (.bin .sub (.t 56) (.c (.int .i64 3)))), false, []⟩,
 ⟨(some 58), none, (.p (.mov (.t 0))), false, []⟩,
 ⟨(some 59), none, (.p (.mov (.t 4))), false, []⟩,
 ⟨(some 60), none, (.p (.bin .sub (.t 59) (.c (.int .i64 4)))), false, []⟩,
 ⟨(some 61), none, (.p (.mov (.t 8))), false, []⟩,
 ⟨(some 62), none, (.p (.bin .add (.t 61) (.c (.int .u32 1)))), false, []⟩,
 ⟨(some 63), none, (.p (.idxS (.c (.str [48, 48, 48, 49, 48, 50, 48, 51, 48, 52, 48, 53, 48, 54, 48, 55, 48, 56, 48, 57, 49, 48, 49, 49, 49, 50, 49, 51, 49, 52, 49, 53, 49, 54, 49, 55, 49, 56, 49, 57, 50, 48, 50, 49, 50, 50, 50, 51, 50, 52, 50, 53, 50, 54, 50, 55, 50, 56, 50, 57, 51, 48, 51, 49, 51, 50, 51, 51, 51, 52, 51, 53, 51, 54, 51, 55, 51, 56, 51, 57, 52, 48, 52, 49, 52, 50, 52, 51, 52, 52, 52, 53, 52, 54, 52, 55, 52, 56, 52, 57, 53, 48, 53, 49, 53, 50, 53, 51, 53, 52, 53, 53, 53, 54, 53, 55, 53, 56, 53, 57, 54, 48, 54, 49, 54, 50, 54, 51, 54, 52, 54, 53, 54, 54, 54, 55, 54, 56, 54, 57, 55, 48, 55, 49, 55, 50, 55, 51, 55, 52, 55, 53, 55, 54, 55, 55, 55, 56, 55, 57, 56, 48, 56, 49, 56, 50, 56, 51, 56, 52, 56, 53, 56, 54, 56, 55, 56, 56, 56, 57, 57, 48, 57, 49, 57, 50, 57, 51, 57, 52, 57, 53, 57, 54, 57, 55, 57, 56, 57, 57])) (.t 62))), false, []⟩,
 ⟨(some 64), none, (.p (.mov (.t 8))), false, []⟩,
 ⟨(some 65), none, (.p (.idxS (.c (.str [48, 48, 48, 49, 48, 50, 48, 51, 48, 52, 48, 53, 48, 54, 48, 55, 48, 56, 48, 57, 49, 48, 49, 49, 49, 50, 49, 51, 49, 52, 49, 53, 49, 54, 49, 55, 49, 56, 49, 57, 50, 48, 50, 49, 50, 50, 50, 51, 50, 52, 50, 53, 50, 54, 50, 55, 50, 56, 50, 57, 51, 48, 51, 49, 51, 50, 51, 51, 51, 52, 51, 53, 51, 54, 51, 55, 51, 56, 51, 57, 52, 48, 52, 49, 52, 50, 52, 51, 52, 52, 52, 53, 52, 54, 52, 55, 52, 56, 52, 57, 53, 48, 53, 49, 53, 50, 53, 51, 53, 52, 53, 53, 53, 54, 53, 55, 53, 56, 53, 57, 54, 48, 54, 49, 54, 50, 54, 51, 54, 52, 54, 53, 54, 54, 54, 55, 54, 56, 54, 57, 55, 48, 55, 49, 55, 50, 55, 51, 55, 52, 55, 53, 55, 54, 55, 55, 55, 56, 55, 57, 56, 48, 56, 49, 56, 50, 56, 51, 56, 52, 56, 53, 56, 54, 56, 55, 56, 56, 56, 57, 57, 48, 57, 49, 57, 50, 57, 51, 57, 52, 57, 53, 57, 54, 57, 55, 57, 56, 57, 57])) (.t 64))), false, []⟩,
 ⟨(some 66), none, (.p (.iadS 1 (.t 55) (.t 57))), false, []⟩,
 ⟨none, none, (.h (.store 1 (.t 66) (.t 63))), false, []⟩,
 ⟨(some 67), none, (.p (.iadS 1 (.t 58) (.t 60))), false, []⟩,
 ⟨none, none, (.h (.store 1 (.t 67) (.t 65))), false, []⟩]) (.seq (.region [
 ⟨(some 68), none, (.p (.mov (.t 0))), false, []⟩,
 ⟨(some 69), none, (.p (.mov (.t 4))), false, []⟩,
 ⟨(some 70), none, (.p (.bin .sub (.t 69) (.c (.int .i64 5)))), false, []⟩,
 ⟨(some 71), none, (.p (.mov (.t 0))), false, []⟩,
 ⟨(some 72), none, (.p (.mov (.t 4))), false, []⟩,
 ⟨(some 73), none, (.p (.bin .sub (.t 72) (.c (.int .i64 6)))), false, []⟩,
 ⟨(some 74), none, (.p (.mov (.t 11))), false, []⟩,
 ⟨(some 75), none, (.p (.bin .add (.t 74) (.c (.int .u32 1)))), false, []⟩,
 ⟨(some 76), none, (.p (.idxS (.c (.str [48, 48, 48, 49, 48, 50, 48, 51, 48, 52, 48, 53, 48, 54, 48, 55, 48, 56, 48, 57, 49, 48, 49, 49, 49, 50, 49, 51, 49, 52, 49, 53, 49, 54, 49, 55, 49, 56, 49, 57, 50, 48, 50, 49, 50, 50, 50, 51, 50, 52, 50, 53, 50, 54, 50, 55, 50, 56, 50, 57, 51, 48, 51, 49, 51, 50, 51, 51, 51, 52, 51, 53, 51, 54, 51, 55, 51, 56, 51, 57, 52, 48, 52, 49, 52, 50, 52, 51, 52, 52, 52, 53, 52, 54, 52, 55, 52, 56, 52, 57, 53, 48, 53, 49, 53, 50, 53, 51, 53, 52, 53, 53, 53, 54, 53, 55, 53, 56, 53, 57, 54, 48, 54, 49, 54, 50, 54, 51, 54, 52, 54, 53, 54, 54, 54, 55, 54, 56, 54, 57, 55, 48, 55, 49, 55, 50, 55, 51, 55, 52, 55, 53, 55, 54, 55, 55, 55, 56, 55, 57, 56, 48, 56, 49, 56, 50, 56, 51, 56, 52, 56, 53, 56, 54, 56, 55, 56, 56, 56, 57, 57, 48, 57, 49, 57, 50, 57, 51, 57, 52, 57, 53, 57, 54, 57, 55, 57, 56, 57, 57])) (.t 75))), false, []⟩,
 ⟨(some 77), none, (.p (.mov (.t 11))), false, []⟩,
 ⟨(some 78), none, (.p (.idxS (.c (.str [48, 48, 48, 49, 48, 50, 48, 51, 48, 52, 48, 53, 48, 54, 48, 55, 48, 56, 48, 57, 49, 48, 49, 49, 49, 50, 49, 51, 49, 52, 49, 53, 49, 54, 49, 55, 49, 56, 49, 57, 50, 48, 50, 49, 50, 50, 50, 51, 50, 52, 50, 53, 50, 54, 50, 55, 50, 56, 50, 57, 51, 48, 51, 49, 51, 50, 51, 51, 51, 52, 51, 53, 51, 54, 51, 55, 51, 56, 51, 57, 52, 48, 52, 49, 52, 50, 52, 51, 52, 52, 52, 53, 52, 54, 52, 55, 52, 56, 52, 57, 53, 48, 53, 49, 53, 50, 53, 51, 53, 52, 53, 53, 53, 54, 53, 55, 53, 56, 53, 57, 54, 48, 54, 49, 54, 50, 54, 51, 54, 52, 54, 53, 54, 54, 54, 55, 54, 56, 54, 57, 55, 48, 55, 49, 55, 50, 55, 51, 55, 52, 55, 53, 55, 54, 55, 55, 55, 56, 55, 57, 56, 48, 56, 49, 56, 50, 56, 51, 56, 52, 56, 53, 56, 54, 56, 55, 56, 56, 56, 57, 57, 48, 57, 49, 57, 50, 57, 51, 57, 52, 57, 53, 57, 54, 57, 55, 57, 56, 57, 57])) (.t 77))), false, []⟩,
 ⟨(some 79), none, (.p (.iadS 1 (.t 68) (.t 70))), false, []⟩,
 ⟨none, none, (.h (.store 1 (.t 79) (.t 76))), false, []⟩,
 ⟨(some 80), none, (.p (.iadS 1 (.t 71) (.t 73))), false, []⟩,
 ⟨none, none, (.h (.store 1 (.t 80) (.t 78))), false, []⟩]) (.seq (.region [
 ⟨(some 81), none, (.p (.mov (.t 0))), false, []⟩,
 ⟨(some 82), none, (.p (.mov (.t 4))), false, []⟩,
 ⟨(some 83), none, (.p (.bin .sub (.t 82) (.c (.int .i64 7)))), false, []⟩,
 ⟨(some 84), none, (.p (.mov (.t 0))), false, []⟩,
 ⟨(some 85), none, (.p (.mov (.t 4))), false, []⟩,
 ⟨(some 86), none, (.p (.bin .sub (.t 85) (.c (.int .i64 8)))), false, []⟩,
 ⟨(some 87), none, (.p (.mov (.t 10))), false, []⟩,
 ⟨(some 88), none, (.p (.bin .add (.t 87) (.c (.int .u32 1)))), false, []⟩,
 ⟨(some 89), none, (.p (.idxS (.c (.str [48, 48, 48, 49, 48, 50, 48, 51, 48, 52, 48, 53, 48, 54, 48, 55, 48, 56, 48, 57, 49, 48, 49, 49, 49, 50, 49, 51, 49, 52, 49, 53, 49, 54, 49, 55, 49, 56, 49, 57, 50, 48, 50, 49, 50, 50, 50, 51, 50, 52, 50, 53, 50, 54, 50, 55, 50, 56, 50, 57, 51, 48, 51, 49, 51, 50, 51, 51, 51, 52, 51, 53, 51, 54, 51, 55, 51, 56, 51, 57, 52, 48, 52, 49, 52, 50, 52, 51, 52, 52, 52, 53, 52, 54, 52, 55, 52, 56, 52, 57, 53, 48, 53, 49, 53, 50, 53, 51, 53, 52, 53, 53, 53, 54, 53, 55, 53, 56, 53, 57, 54, 48, 54, 49, 54, 50, 54, 51, 54, 52, 54, 53, 54, 54, 54, 55, 54, 56, 54, 57, 55, 48, 55, 49, 55, 50, 55, 51, 55, 52, 55, 53, 55, 54, 55, 55, 55, 56, 55, 57, 56, 48, 56, 49, 56, 50, 56, 51, 56, 52, 56, 53, 56, 54, 56, 55, 56, 56, 56, 57, 57, 48, 57, 49, 57, 50, 57, 51, 57, 52, 57, 53, 57, 54, 57, 55, 57, 56, 57, 57])) (.t 88))), false, []⟩,
 ⟨(some 90), none, (.p (.mov (.t 10))), false, []⟩,
 ⟨(some 91), none, (.p (.idxS (.c (.str [48, 48, 48, 49, 48, 50, 48, 51, 48, 52, 48, 53, 48, 54, 48, 55, 48, 56, 48, 57, 49, 48, 49, 49, 49, 50, 49, 51, 49, 52, 49, 53, 49, 54, 49, 55, 49, 56, 49, 57, 50, 48, 50, 49, 50, 50, 50, 51, 50, 52, 50, 53, 50, 54, 50, 55, 50, 56, 50, 57, 51, 48, 51, 49, 51, 50, 51, 51, 51, 52, 51, 53, 51, 54, 51, 55, 51, 56, 51, 57, 52, 48, 52, 49, 52, 50, 52, 51, 52, 52, 52, 53, 52, 54, 52, 55, 52, 56, 52, 57, 53, 48, 53, 49, 53, 50, 53, 51, 53, 52, 53, 53, 53, 54, 53, 55, 53, 56, 53, 57, 54, 48, 54, 49, 54, 50, 54, 51, 54, 52, 54, 53, 54, 54, 54, 55, 54, 56, 54, 57, 55, 48, 55, 49, 55, 50, 55, 51, 55, 52, 55, 53, 55, 54, 55, 55, 55, 56, 55, 57, 56, 48, 56, 49, 56, 50, 56, 51, 56, 52, 56, 53, 56, 54, 56, 55, 56, 56, 56, 57, 57, 48, 57, 49, 57, 50, 57, 51, 57, 52, 57, 53, 57, 54, 57, 55, 57, 56, 57, 57])) (.t 90))), false, []⟩,
 ⟨(some 92), none, (.p (.iadS 1 (.t 81) (.t 83))), false, []⟩,
 ⟨none, none, (.h (.store 1 (.t 92) (.t 89))), false, []⟩,
 ⟨(some 93), none, (.p (.iadS 1 (.t 84) (.t 86))), false, []⟩,
 ⟨none, none, (.h (.store 1 (.t 93) (.t 91))), false, []⟩]) (.region [
 ⟨(some 94), none, (.p (.mov (.t 4))), false, []⟩,
 ⟨(some 95), none, (.p (.bin .sub (.t 94) (.c (.int .i64 8)))), false, []⟩,
 ⟨(some 4), none, (.p (.mov (.t 95))), false, []⟩])))))))))))))) (.seq (.region [
 ⟨(some 96), none, (.p (.mov (.t 1))), false, []⟩,
 ⟨(some 97), none, (.p (.cvi .u32 (.t 96))), false, []⟩,
 ⟨(some 12), none, (.p (.mov (.t 97))), false, []⟩]) (.seq (.seq (.region [
 ⟨(some 98), none, (.p (.mov (.t 4))), false, []⟩,
 ⟨(some 99), none, (.p (.bin .geq (.t 98) (.c (.int .i64 4)))), false, []⟩]) (.cond (.t 99) (.seq (.region [
 ⟨(some 100), none, (.p (.mov (.t 12))), false, []⟩,
 ⟨(some 101), none, (.p (.bin .rem (.t 100) (.c (.int .u32 10000)))), false, []⟩,
 ⟨(some 13), none, (.p (.mov (.t 101))), false, []⟩]) (.seq (.region [
 ⟨(some 102), none, (.p (.mov (.t 12))), false, []⟩,
 ⟨(some 103), none, (.p (.bin .quo (.t 102) (.c (.int .u32 10000)))), false, []⟩,
 ⟨(some 12), none, (.p (.mov (.t 103))), false, []⟩]) (.seq (.region [
 ⟨(some 104), none, (.p (.mov (.t 13))), false, []⟩,
 ⟨(some 105), none, (.p (.bin .quo (.t 104) (.c (.int .u32 100)))), false, []⟩,
 ⟨(some 106), none, (.p (.bin .mul (.t 105) (.c (.int .u32 2)))), false, []⟩,
 ⟨(some 107), none, (.p (.mov (.t 13))), false, []⟩,
 ⟨(some 108), none, (.p (.bin .rem (.t 107) (.c (.int .u32 100)))), false, []⟩,
 ⟨(some 109), none, (.p (.bin .mul (.t 108) (.c (.int .u32 2)))), false, []⟩,
 ⟨(some 14), none, (.p (.mov (.t 106))), false, []⟩,
 ⟨(some 15), none, (.p (.mov (.t 109))), false, []⟩]) (.seq (.region [
 ⟨(some 110), none, (.p (.mov (.t 0))), false, []⟩,
 ⟨(some 111), none, (.p (.mov (.t 4))), false, []⟩,
 ⟨(some 112), none, (.p (.bin .sub (.t 111) (.c (.int .i64 1)))), false, []⟩,
 ⟨(some 113), none, (.p (.mov (.t 0))), false, []⟩,
 ⟨(some 114), none, (.p (.mov (.t 4))), false, []⟩,
 ⟨(some 115), none, (.p (.bin .sub (.t 114) (.c (.int .i64 2)))), false, []⟩,
 ⟨(some 116), none, (.p (.mov (.t 15))), false, []⟩,
 ⟨(some 117), none, (.p (.bin .add (.t 116) (.c (.int .u32 1)))), false, []⟩,
 ⟨(some 118), none, (.p (.idxS (.c (.str [48, 48, 48, 49, 48, 50, 48, 51, 48, 52, 48, 53, 48, 54, 48, 55, 48, 56, 48, 57, 49, 48, 49, 49, 49, 50, 49, 51, 49, 52, 49, 53, 49, 54, 49, 55, 49, 56, 49, 57, 50, 48, 50, 49, 50, 50, 50, 51, 50, 52, 50, 53, 50, 54, 50, 55, 50, 56, 50, 57, 51, 48, 51, 49, 51, 50, 51, 51, 51, 52, 51, 53, 51, 54, 51, 55, 51, 56, 51, 57, 52, 48, 52, 49, 52, 50, 52, 51, 52, 52, 52, 53, 52, 54, 52, 55, 52, 56, 52, 57, 53, 48, 53, 49, 53, 50, 53, 51, 53, 52, 53, 53, 53, 54, 53, 55, 53, 56, 53, 57, 54, 48, 54, 49, 54, 50, 54, 51, 54, 52, 54, 53, 54, 54, 54, 55, 54, 56, 54, 57, 55, 48, 55, 49, 55, 50, 55, 51, 55, 52, 55, 53, 55, 54, 55, 55, 55, 56, 55, 57, 56, 48, 56, 49, 56, 50, 56, 51, 56, 52, 56, 53, 56, 54, 56, 55, 56, 56, 56, 57, 57, 48, 57, 49, 57, 50, 57, 51, 57, 52, 57, 53, 57, 54, 57, 55, 57, 56, 57, 57])) (.t 117))), false, []⟩,
 ⟨(some 119), none, (.p (.mov (.t 15))), false, []⟩,
 ⟨(some 120), none, (.p (.idxS (.c (.str [48, 48, 48, 49, 48, 50, 48, 51, 48, 52, 48, 53, 48, 54, 48, 55, 48, 56, 48, 57, 49, 48, 49, 49, 49, 50, 49, 51, 49, 52, 49, 53, 49, 54, 49, 55, 49, 56, 49, 57, 50, 48, 50, 49, 50, 50, 50, 51, 50, 52, 50, 53, 50, 54, 50, 55, 50, 56, 50, 57, 51, 48, 51, 49, 51, 50, 51, 51, 51, 52, 51, 53, 51, 54, 51, 55, 51, 56, 51, 57, 52, 48, 52, 49, 52, 50, 52, 51, 52, 52, 52, 53, 52, 54, 52, 55, 52, 56, 52, 57, 53, 48, 53, 49, 53, 50, 53, 51, 53, 52, 53, 53, 53, 54, 53, 55, 53, 56, 53, 57, 54, 48, 54, 49, 54, 50, 54, 51, 54, 52, 54, 53, 54, 54, 54, 55, 54, 56, 54, 57, 55, 48, 55, 49, 55, 50, 55, 51, 55, 52, 55, 53, 55, 54, 55, 55, 55, 56, 55, 57, 56, 48, 56, 49, 56, 50, 56, 51, 56, 52, 56, 53, 56, 54, 56, 55, 56, 56, 56, 57, 57, 48, 57, 49, 57, 50, 57, 51, 57, 52, 57, 53, 57, 54, 57, 55, 57, 56, 57, 57])) (.t 119))), false, []⟩,
 ⟨(some 121), none, (.p (.iadS 1 (.t 110) (.t 112))), false, []⟩,
 ⟨none, none, (.h (.store 1 (.t 121) (.t 118))), false, []⟩,
 ⟨(some 122), none, (.p (.iadS 1 (.t 113) (.t 115))), false, []⟩,
 ⟨none, none, (.h (.store 1 (.t 122) (.t 120))), false, []⟩]) (.seq (.region [
 ⟨(some 123), none, (.p (.mov (.t 0))), false, []⟩,
 ⟨(some 124), none, (.p (.mov (.t 4))), false, []⟩,
 ⟨(some 125), none, (.p (.bin .sub (.t 124) (.c (.int .i64 3)))), false, []⟩,
 ⟨(some 126), none, (.p (.mov (.t 0))), false, []⟩,
 ⟨(some 127), none, (.p (.mov (.t 4))), false, []⟩,
 ⟨(some 128), none, (.p (.bin .sub (.t 127) (.c (.int .i64 4)))), false, []⟩,
 ⟨(some 129), none, (.p (.mov (.t 14))), false, []⟩,
 ⟨(some 130), none, (.p (.bin .add (.t 129) (.c (.int .u32 1)))), false, []⟩,
 ⟨(some 131), none, (.p (.idxS (.c (.str [48, 48, 48, 49, 48, 50, 48, 51, 48, 52, 48, 53, 48, 54, 48, 55, 48, 56, 48, 57, 49, 48, 49, 49, 49, 50, 49, 51, 49, 52, 49, 53, 49, 54, 49, 55, 49, 56, 49, 57, 50, 48, 50, 49, 50, 50, 50, 51, 50, 52, 50, 53, 50, 54, 50, 55, 50, 56, 50, 57, 51, 48, 51, 49, 51, 50, 51, 51, 51, 52, 51, 53, 51, 54, 51, 55, 51, 56, 51, 57, 52, 48, 52, 49, 52, 50, 52, 51, 52, 52, 52, 53, 52, 54, 52, 55, 52, 56, 52, 57, 53, 48, 53, 49, 53, 50, 53, 51, 53, 52, 53, 53, 53, 54, 53, 55, 53, 56, 53, 57, 54, 48, 54, 49, 54, 50, 54, 51, 54, 52, 54, 53, 54, 54, 54, 55, 54, 56, 54, 57, 55, 48, 55, 49, 55, 50, 55, 51, 55, 52, 55, 53, 55, 54, 55, 55, 55, 56, 55, 57, 56, 48, 56, 49, 56, 50, 56, 51, 56, 52, 56, 53, 56, 54, 56, 55, 56, 56, 56, 57, 57, 48, 57, 49, 57, 50, 57, 51, 57, 52, 57, 53, 57, 54, 57, 55, 57, 56, 57, 57])) (.t 130))), false, []⟩,
 ⟨(some 132), none, (.p (.mov (.t 14))), false, []⟩,
 ⟨(some 133), none, (.p (.idxS (.c (.str [48, 48, 48, 49, 48, 50, 48, 51, 48, 52, 48, 53, 48, 54, 48, 55, 48, 56, 48, 57, 49, 48, 49, 49, 49, 50, 49, 51, 49, 52, 49, 53, 49, 54, 49, 55, 49, 56, 49, 57, 50, 48, 50, 49, 50, 50, 50, 51, 50, 52, 50, 53, 50, 54, 50, 55, 50, 56, 50, 57, 51, 48, 51, 49, 51, 50, 51, 51, 51, 52, 51, 53, 51, 54, 51, 55, 51, 56, 51, 57, 52, 48, 52, 49, 52, 50, 52, 51, 52, 52, 52, 53, 52, 54, 52, 55, 52, 56, 52, 57, 53, 48, 53, 49, 53, 50, 53, 51, 53, 52, 53, 53, 53, 54, 53, 55, 53, 56, 53, 57, 54, 48, 54, 49, 54, 50, 54, 51, 54, 52, 54, 53, 54, 54, 54, 55, 54, 56, 54, 57, 55, 48, 55, 49, 55, 50, 55, 51, 55, 52, 55, 53, 55, 54, 55, 55, 55, 56, 55, 57, 56, 48, 56, 49, 56, 50, 56, 51, 56, 52, 56, 53, 56, 54, 56, 55, 56, 56, 56, 57, 57, 48, 57, 49, 57, 50, 57, 51, 57, 52, 57, 53, 57, 54, 57, 55, 57, 56, 57, 57])) (.t 132))), false, []⟩,
 ⟨(some 134), none, (.p (.iadS 1 (.t 123) (.t 125))), false, []⟩,
 ⟨none, none, (.h (.store 1 (.t 134) (.t 131))), false, []⟩,
 ⟨(some 135), none, (.p (.iadS 1 (.t 126) (.t 128))), false, []⟩,
 ⟨none, none, (.h (.store 1 (.t 135) (.t 133))), false, []⟩]) (.region [
 ⟨(some 136), none, (.p (.mov (.t 4))), false, []⟩,
 ⟨(some 137), none, (.p (.bin .sub (.t 136) (.c (.int .i64 4)))), false, []⟩,
 ⟨(some 4), none, (.p (.mov (.t 137))), false, []⟩])))))) .skip)) (.seq (.seq (.region [
 ⟨(some 138), none, (.p (.mov (.t 4))), false, []⟩,
 ⟨(some 139), none, (.p (.bin .geq (.t 138) (.c (.int .i64 2)))), false, []⟩]) (.cond (.t 139) (.seq (.region [
 ⟨(some 140), none, (.p (.mov (.t 12))), false, []⟩,
 ⟨(some 141), none, (.p (.bin .rem (.t 140) (.c (.int .u32 100)))), false, []⟩,
 ⟨(some 142), none, (.p (.bin .mul (.t 141) (.c (.int .u32 2)))), false, []⟩,
 ⟨(some 16), none, (.p (.mov (.t 142))), false, []⟩]) (.seq (.region [
 ⟨(some 143), none, (.p (.mov (.t 12))), false, []⟩,
 ⟨(some 144), none, (.p (.bin .quo (.t 143) (.c (.int .u32 100)))), false, []⟩,
 ⟨(some 12), none, (.p (.mov (.t 144))), false, []⟩]) (.seq (.region [
 ⟨(some 145), none, (.p (.mov (.t 0))), false, []⟩,
 ⟨(some 146), none, (.p (.mov (.t 4))), false, []⟩,
 ⟨(some 147), none, (.p (.bin .sub (.t 146) (.c (.int .i64 1)))), false, []⟩,
 ⟨(some 148), none, (.p (.mov (.t 0))), false, []⟩,
 ⟨(some 149), none, (.p (.mov (.t 4))), false, []⟩,
 ⟨(some 150), none, (.p (.bin .sub (.t 149) (.c (.int .i64 2)))), false, []⟩,
 ⟨(some 151), none, (.p (.mov (.t 16))), false, []⟩,
 ⟨(some 152), none, (.p (.bin .add (.t 151) (.c (.int .u32 1)))), false, []⟩,
 ⟨(some 153), none, (.p (.idxS (.c (.str [48, 48, 48, 49, 48, 50, 48, 51, 48, 52, 48, 53, 48, 54, 48, 55, 48, 56, 48, 57, 49, 48, 49, 49, 49, 50, 49, 51, 49, 52, 49, 53, 49, 54, 49, 55, 49, 56, 49, 57, 50, 48, 50, 49, 50, 50, 50, 51, 50, 52, 50, 53, 50, 54, 50, 55, 50, 56, 50, 57, 51, 48, 51, 49, 51, 50, 51, 51, 51, 52, 51, 53, 51, 54, 51, 55, 51, 56, 51, 57, 52, 48, 52, 49, 52, 50, 52, 51, 52, 52, 52, 53, 52, 54, 52, 55, 52, 56, 52, 57, 53, 48, 53, 49, 53, 50, 53, 51, 53, 52, 53, 53, 53, 54, 53, 55, 53, 56, 53, 57, 54, 48, 54, 49, 54, 50, 54, 51, 54, 52, 54, 53, 54, 54, 54, 55, 54, 56, 54, 57, 55, 48, 55, 49, 55, 50, 55, 51, 55, 52, 55, 53, 55, 54, 55, 55, 55, 56, 55, 57, 56, 48, 56, 49, 56, 50, 56, 51, 56, 52, 56, 53, 56, 54, 56, 55, 56, 56, 56, 57, 57, 48, 57, 49, 57, 50, 57, 51, 57, 52, 57, 53, 57, 54, 57, 55, 57, 56, 57, 57])) (.t 152))), false, []⟩,
 ⟨(some 154), none, (.p (.mov (.t 16))), false, []⟩,
 ⟨(some 155), none, (.p (.idxS (.c (.str [48, 48, 48, 49, 48, 50, 48, 51, 48, 52, 48, 53, 48, 54, 48, 55, 48, 56, 48, 57, 49, 48, 49, 49, 49, 50, 49, 51, 49, 52, 49, 53, 49, 54, 49, 55, 49, 56, 49, 57, 50, 48, 50, 49, 50, 50, 50, 51, 50, 52, 50, 53, 50, 54, 50, 55, 50, 56, 50, 57, 51, 48, 51, 49, 51, 50, 51, 51, 51, 52, 51, 53, 51, 54, 51, 55, 51, 56, 51, 57, 52, 48, 52, 49, 52, 50, 52, 51, 52, 52, 52, 53, 52, 54, 52, 55, 52, 56, 52, 57, 53, 48, 53, 49, 53, 50, 53, 51, 53, 52, 53, 53, 53, 54, 53, 55, 53, 56, 53, 57, 54, 48, 54, 49, 54, 50, 54, 51, 54, 52, 54, 53, 54, 54, 54, 55, 54, 56, 54, 57, 55, 48, 55, 49, 55, 50, 55, 51, 55, 52, 55, 53, 55, 54, 55, 55, 55, 56, 55, 57, 56, 48, 56, 49, 56, 50, 56, 51, 56, 52, 56, 53, 56, 54, 56, 55, 56, 56, 56, 57, 57, 48, 57, 49, 57, 50, 57, 51, 57, 52, 57, 53, 57, 54, 57, 55, 57, 56, 57, 57])) (.t 154))), false, []⟩,
 ⟨(some 156), none, (.p (.iadS 1 (.t 145) (.t 147))), false, []⟩,
 ⟨none, none, (.h (.store 1 (.t 156) (.t 153))), false, []⟩,
 ⟨(some 157), none, (.p (.iadS 1 (.t 148) (.t 150))), false, []⟩,
 ⟨none, none, (.h (.store 1 (.t 157) (.t 155))), false, []⟩]) (.region [
 ⟨(some 158), none, (.p (.mov (.t 4))), false, []⟩,
 ⟨(some 159), none, (.p (.bin .sub (.t 158) (.c (.int .i64 2)))), false, []⟩,
 ⟨(some 4), none, (.p (.mov (.t 159))), false, []⟩])))) .skip)) (.seq (.region [
 ⟨(some 160), none, (.p (.mov (.t 4))), false, []⟩,
 ⟨(some 161), none, (.p (.bin .gtr (.t 160) (.c (.int .i64 0)))), false, []⟩]) (.cond (.t 161) (.region [
 ⟨(some 162), none, (.p (.mov (.t 0))), false, []⟩,
 ⟨(some 163), none, (.p (.mov (.t 12))), false, []⟩,
 ⟨(some 164), none, (.p (.bin .add (.c (.int .u32 48)) (.t 163))), false, []⟩,
 ⟨(some 165), none, (.p (.cvi .u8 (.t 164))), false, []⟩,
 ⟨(some 166), none, (.p (.iadS 1 (.t 162) (.c (.int .i64 0)))), false, []⟩,
 ⟨none, none, (.h (.store 1 (.t 166) (.t 165))), false, []⟩]) .skip)))))))⟩
theorem k64_ok : cfn Tryd.prog gl Tryd.f64 = some k64 := by kernel_rfl
def k65 : CFn := ⟨102, [(.t 10), (.t 11)], (.seq (.region [
 ⟨(some 10), none, (.p (.mov (.c .nils))), false, []⟩,
 ⟨(some 11), none, (.p (.mov (.c (.str [])))), false, []⟩]) (.seq (.seq (.region [
 ⟨(some 19), none, (.p (.mov (.t 2))), false, []⟩,
 ⟨(some 20), none, (.p (.bin .lss (.t 19) (.c (.int .i64 2)))), false, []⟩,
 ⟨(some 21), none, (.p (.mov (.t 20))), false, []⟩,
 ⟨(some 22), (some (21, false)), (.p (.mov (.t 2))), false, []⟩,
 ⟨(some 23), (some (21, false)), (.p (.bin .eql (.t 22) (.c (.int .i64 10)))), false, []⟩,
 ⟨(some 24), none, (.p (.pick (.t 21) (.c (.bool true)) (.t 23))), false, []⟩,
 ⟨(some 25), none, (.p (.mov (.t 24))), false, []⟩,
 ⟨(some 26), (some (25, false)), (.p (.mov (.t 2))), false, []⟩,
 ⟨(some 27), (some (25, false)), (.p (.bin .gtr (.t 26) (.c (.int .i64 36)))), false, []⟩,
 ⟨(some 28), none, (.p (.pick (.t 25) (.c (.bool true)) (.t 27))), false, []⟩]) (.cond (.t 28) (.region [
 ⟨(some 29), none, (.p (.mkif 9 (.c (.str [115, 116, 114, 99, 111, 110, 118, 58, 32, 105, 108, 108, 101, 103, 97, 108, 32, 65, 112, 112, 101, 110, 100, 73, 110, 116, 47, 70, 111, 114, 109, 97, 116, 73, 110, 116, 32, 98, 97, 115, 101])))), false, []⟩,
 ⟨none, none, (.h .bad), false, []⟩]) .skip)) (.seq (.region [
 ⟨(some 12), none, (.h (.alloc [(.int .u8 0), (.int .u8 0), (.int .u8 0), (.int .u8 0), (.int .u8 0), (.int .u8 0), (.int .u8 0), (.int .u8 0), (.int .u8 0), (.int .u8 0), (.int .u8 0), (.int .u8 0), (.int .u8 0), (.int .u8 0), (.int .u8 0), (.int .u8 0), (.int .u8 0), (.int .u8 0), (.int .u8 0), (.int .u8 0), (.int .u8 0), (.int .u8 0), (.int .u8 0), (.int .u8 0), (.int .u8 0), (.int .u8 0), (.int .u8 0), (.int .u8 0), (.int .u8 0), (.int .u8 0), (.int .u8 0), (.int .u8 0), (.int .u8 0), (.int .u8 0), (.int .u8 0), (.int .u8 0), (.int .u8 0), (.int .u8 0), (.int .u8 0), (.int .u8 0), (.int .u8 0), (.int .u8 0), (.int .u8 0), (.int .u8 0), (.int .u8 0), (.int .u8 0), (.int .u8 0), (.int .u8 0), (.int .u8 0), (.int .u8 0), (.int .u8 0), (.int .u8 0), (.int .u8 0), (.int .u8 0), (.int .u8 0), (.int .u8 0), (.int .u8 0), (.int .u8 0), (.int .u8 0), (.int .u8 0), (.int .u8 0), (.int .u8 0), (.int .u8 0), (.int .u8 0), (.int .u8 0)])), false, []⟩]) (.seq (.region [
 ⟨(some 13), none, (.p (.mov (.c (.int .i64 65)))), false, []⟩]) (.seq (.seq (.region [
 ⟨(some 30), none, (.p (.mov (.t 3))), false, []⟩]) (.cond (.t 30) (.region [
 ⟨(some 31), none, (.p (.mov (.t 1))), false, []⟩,
 ⟨(some 32), none, (.p (.neg (.t 31))), false, []⟩,
 ⟨(some 1), none, (.p (.mov (.t 32))), false, []⟩]) .skip)) (.seq (.seq (.region [
 ⟨(some 33), none, (.p (.mov (.t 2))), false, []⟩,
 ⟨(some 34), none, (.h (.call 82 [(.t 33)])), false, []⟩]) (.cond (.t 34) (.seq (.region [
 ⟨(some 35), none, (.p (.mov (.t 2))), false, []⟩,
 ⟨(some 36), none, (.p (.cvi .u64 (.t 35))), false, []⟩,
 ⟨(some 37), none, (.h (.call 83 [(.t 36)])), false, []⟩,
 ⟨(some 38), none, (.p (.cvi .u64 (.t 37))), false, []⟩,
 ⟨(some 14), none, (.p (.mov (.t 38))), false, []⟩]) (.seq (.region [
 ⟨(some 39), none, (.p (.mov (.t 2))), false, []⟩,
 ⟨(some 40), none, (.p (.cvi .u64 (.t 39))), false, []⟩,
 ⟨(some 15), none, (.p (.mov (.t 40))), false, []⟩]) (.seq (.region [
 ⟨(some 41), none, (.p (.mov (.t 2))), false, []⟩,
 ⟨(some 42), none, (.p (.cvi .u64 (.t 41))), false, []⟩,
 ⟨(some 43), none, (.p (.bin .sub (.t 42) (.c (.int .u64 1)))), false, []⟩,
 ⟨(some 16), none, (.p (.mov (.t 43))), false, []⟩]) (.seq (.block 0 (.loop (.seq (.seq (.region [
 ⟨(some 44), none, (.p (.mov (.t 1))), false, []⟩,
 ⟨(some 45), none, (.p (.mov (.t 15))), false, []⟩,
 ⟨(some 46), none, (.p (.bin .geq (.t 44) (.t 45))), false, []⟩]) (.cond (.t 46) .skip (.exit 0))) (.block 1 (.seq (.region [
 ⟨(some 47), none, (.p (.mov (.t 13))), false, []⟩,
 ⟨(some 48), none, (.p (.bin .sub (.t 47) (.c (.int .i64 1)))), false, []⟩,
 ⟨(some 13), none, (.p (.mov (.t 48))), false, []⟩]) (.seq (.region [
 ⟨(some 49), none, (.p (.mov (.t 13))), false, []⟩,
 ⟨(some 50), none, (.p (.mov (.t 1))), false, []⟩,
 ⟨(some 51), none, (.p (.mov (.t 16))), false, []⟩,
 ⟨(some 52), none, (.p (.bin .and (.t 50) (.t 51))), false, []⟩,
 ⟨(some 53), none, (.p (.idxS (.c (.str [48, 49, 50, 51, 52, 53, 54, 55, 56, 57, 97, 98, 99, 100, 101, 102, 103, 104, 105, 106, 107, 108, 109, 110, 111, 112, 113, 114, 115, 116, 117, 118, 119, 120, 121, 122])) (.t 52))), false, []⟩,
 ⟨(some 54), none, (.p (.iadA 65 1 (.t 12) (.t 49))), false, []⟩,
 ⟨none, none, (.h (.store 1 (.t 54) (.t 53))), false, []⟩]) (.region [
 ⟨(some 55), none, (.p (.mov (.t 1))), false, []⟩,
 ⟨(some 56), none, (.p (.mov (.t 14))), false, []⟩,
 ⟨(some 57), none, (.p (.bin .shr (.t 55) (.t 56))), false, []⟩,
 ⟨(some 1), none, (.p (.mov (.t 57))), false, []⟩]))))))) (.seq (.region [
 ⟨(some 58), none, (.p (.mov (.t 13))), false, []⟩,
 ⟨(some 59), none, (.p (.bin .sub (.t 58) (.c (.int .i64 1)))), false, []⟩,
 ⟨(some 13), none, (.p (.mov (.t 59))), false, []⟩]) (.region [
 ⟨(some 60), none, (.p (.mov (.t 13))), false, []⟩,
 ⟨(some 61), none, (.p (.mov (.t 1))), false, []⟩,
 ⟨(some 62), none, (.p (.idxS (.c (.str [48, 49, 50, 51, 52, 53, 54, 55, 56, 57, 97, 98, 99, 100, 101, 102, 103, 104, 105, 106, 107, 108, 109, 110, 111, 112, 113, 114, 115, 116, 117, 118, 119, 120, 121, 122])) (.t 61))), false, []⟩,
 ⟨(some 63), none, (.p (.iadA 65 1 (.t 12) (.t 60))), false, []⟩,
 ⟨none, none, (.h (.store 1 (.t 63) (.t 62))), false, []⟩])))))) (.seq (.region [
 ⟨(some 64), none, (.p (.mov (.t 2))), false, []⟩,
 ⟨(some 65), none, (.p (.cvi .u64 (.t 64))), false, []⟩,
 ⟨(some 17), none, (.p (.mov (.t 65))), false, []⟩]) (.seq (.block 2 (.loop (.seq (.seq (.region [
 ⟨(some 66), none, (.p (.mov (.t 1))), false, []⟩,
 ⟨(some 67), none, (.p (.mov (.t 17))), false, []⟩,
 ⟨(some 68), none, (.p (.bin .geq (.t 66) (.t 67))), false, []⟩]) (.cond (.t 68) .skip (.exit 2))) (.block 3 (.seq (.region [
 ⟨(some 69), none, (.p (.mov (.t 13))), false, []⟩,
 ⟨(some 70), none, (.p (.bin .sub (.t 69) (.c (.int .i64 1)))), false, []⟩,
 ⟨(some 13), none, (.p (.mov (.t 70))), false, []⟩]) (.seq (.region [
 ⟨(some 71), none, (.p (.mov (.t 1))), false, []⟩,
 ⟨(some 72), none, (.p (.mov (.t 17))), false, []⟩,
 ⟨(some 73), none, (.p (.bin .quo (.t 71) (.t 72))), false, []⟩,
 ⟨(some 18), none, (.p (.mov (.t 73))), false, []⟩]) (.seq (.region [
 ⟨(some 74), none, (.p (.mov (.t 13))), false, []⟩,
 ⟨(some 75), none, (.p (.mov (.t 1))), false, []⟩,
 ⟨(some 76), none, (.p (.mov (.t 18))), false, []⟩,
 ⟨(some 77), none, (.p (.mov (.t 17))), false, []⟩,
 ⟨(some 78), none, (.p (.bin .mul (.t 76) (.t 77))), false, []⟩,
 ⟨(some 79), none, (.p (.bin .sub (.t 75) (.t 78))), false, []⟩,
 ⟨(some 80), none, (.p (.idxS (.c (.str [48, 49, 50, 51, 52, 53, 54, 55, 56, 57, 97, 98, 99, 100, 101, 102, 103, 104, 105, 106, 107, 108, 109, 110, 111, 112, 113, 114, 115, 116, 117, 118, 119, 120, 121, 122])) (.t 79))), false, []⟩,
 ⟨(some 81), none, (.p (.iadA 65 1 (.t 12) (.t 74))), false, []⟩,
 ⟨none, none, (.h (.store 1 (.t 81) (.t 80))), false, []⟩]) (.region [
 ⟨(some 82), none, (.p (.mov (.t 18))), false, []⟩,
 ⟨(some 1), none, (.p (.mov (.t 82))), false, []⟩])))))))) (.seq (.region [
 ⟨(some 83), none, (.p (.mov (.t 13))), false, []⟩,
 ⟨(some 84), none, (.p (.bin .sub (.t 83) (.c (.int .i64 1)))), false, []⟩,
 ⟨(some 13), none, (.p (.mov (.t 84))), false, []⟩]) (.region [
 ⟨(some 85), none, (.p (.mov (.t 13))), false, []⟩,
 ⟨(some 86), none, (.p (.mov (.t 1))), false, []⟩,
 ⟨(some 87), none, (.p (.idxS (.c (.str [48, 49, 50, 51, 52, 53, 54, 55, 56, 57, 97, 98, 99, 100, 101, 102, 103, 104, 105, 106, 107, 108, 109, 110, 111, 112, 113, 114, 115, 116, 117, 118, 119, 120, 121, 122])) (.t 86))), false, []⟩,
 ⟨(some 88), none, (.p (.iadA 65 1 (.t 12) (.t 85))), false, []⟩,
 ⟨none, none, (.h (.store 1 (.t 88) (.t 87))), false, []⟩])))))) (.seq (.seq (.region [
 ⟨(some 89), none, (.p (.mov (.t 3))), false, []⟩]) (.cond (.t 89) (.seq (.region [
 ⟨(some 90), none, (.p (.mov (.t 13))), false, []⟩,
 ⟨(some 91), none, (.p (.bin .sub (.t 90) (.c (.int .i64 1)))), false, []⟩,
 ⟨(some 13), none, (.p (.mov (.t 91))), false, []⟩]) (.region [
 ⟨(some 92), none, (.p (.mov (.t 13))), false, []⟩,
 ⟨(some 93), none, (.p (.iadA 65 1 (.t 12) (.t 92))), false, []⟩,
 ⟨none, none, (.h (.store 1 (.t 93) (.c (.int .u8 45)))), false, []⟩])) .skip)) (.seq (.seq (.region [
 ⟨(some 94), none, (.p (.mov (.t 4))), false, []⟩]) (.cond (.t 94) (.seq (.region [
 ⟨(some 95), none, (.p (.mov (.t 0))), false, []⟩,
 ⟨(some 96), none, (.p (.mov (.t 13))), false, []⟩,
 ⟨(some 97), none, (.h (.slA 65 1 (.t 12) (some (.t 96)) none none)), false, []⟩,
 ⟨(some 98), none, (.h (.app 1 1 (.t 95) (.t 97))), false, []⟩,
 ⟨(some 10), none, (.p (.mov (.t 98))), false, []⟩]) .ret) .skip)) (.seq (.region [
 ⟨(some 99), none, (.p (.mov (.t 13))), false, []⟩,
 ⟨(some 100), none, (.h (.slA 65 1 (.t 12) (some (.t 99)) none none)), false, []⟩,
 ⟨(some 101), none, (.h (.b2s (.t 100))), false, []⟩,
 ⟨(some 11), none, (.p (.mov (.t 101))), false, []⟩]) .ret)))))))))⟩
theorem k65_ok : cfn Tryd.prog gl Tryd.f65 = some k65 := by kernel_rfl
def k81 : CFn := ⟨4, [(.t 2)], (.seq (.region [
 ⟨(some 2), none, (.p (.mov (.c (.int .i64 0)))), false, []⟩]) (.seq (.seq (.region [
 ⟨(some 3), none, (.p (.mov (.t 0))), false, []⟩]) (.cond (.t 3) (.seq (.region [
 ⟨(some 2), none, (.p (.mov (.c (.int .i64 1)))), false, []⟩]) .ret) .skip)) (.seq (.region [
 ⟨(some 2), none, (.p (.mov (.c (.int .i64 0)))), false, []⟩]) .ret)))⟩
theorem k81_ok : cfn Tryd.prog gl Tryd.f81 = some k81 := by kernel_rfl
def k82 : CFn := ⟨8, [(.t 2)], (.seq (.region [
 ⟨(some 2), none, (.p (.mov (.c (.bool false)))), false, []⟩]) (.seq (.region [
 ⟨(some 3), none, (.p (.mov (.t 0))), false, []⟩,
 ⟨(some 4), none, (.p (.mov (.t 0))), false, []⟩,
 ⟨(some 5), none, (.p (.bin .sub (.t 4) (.c (.int .i64 1)))), false, []⟩,
 ⟨(some 6), none, (.p (.bin .and (.t 3) (.t 5))), false, []⟩,
 ⟨(some 7), none, (.p (.bin .eql (.t 6) (.c (.int .i64 0)))), false, []⟩,
 ⟨(some 2), none, (.p (.mov (.t 7))), false, []⟩]) .ret))⟩
theorem k82_ok : cfn Tryd.prog gl Tryd.f82 = some k82 := by kernel_rfl
def k83 : CFn := ⟨8, [(.t 2)], (.seq (.region [
 ⟨(some 2), none, (.p (.mov (.c (.int .i64 0)))), false, []⟩]) (.seq (.cond (.c (.bool false)) (.seq (.region [
 ⟨(some 3), none, (.p (.mov (.t 0))), false, []⟩,
 ⟨(some 4), none, (.p (.cvi .u32 (.t 3))), false, []⟩,
 ⟨(some 5), none, (.h (.call 96 [(.t 4)])), false, []⟩,
 ⟨(some 2), none, (.p (.mov (.t 5))), false, []⟩]) .ret) .skip) (.seq (.region [
 ⟨(some 6), none, (.p (.mov (.t 0))), false, []⟩,
 ⟨(some 7), none, (.h (.call 97 [(.t 6)])), false, []⟩,
 ⟨(some 2), none, (.p (.mov (.t 7))), false, []⟩]) .ret)))⟩
theorem k83_ok : cfn Tryd.prog gl Tryd.f83 = some k83 := by kernel_rfl
def k96 : CFn := ⟨14, [(.t 2)], (.seq (.region [
 ⟨(some 2), none, (.p (.mov (.c (.int .i64 0)))), false, []⟩]) (.seq (.seq (.region [
 ⟨(some 3), none, (.p (.mov (.t 0))), false, []⟩,
 ⟨(some 4), none, (.p (.bin .eql (.t 3) (.c (.int .u32 0)))), false, []⟩]) (.cond (.t 4) (.seq (.region [
 ⟨(some 2), none, (.p (.mov (.c (.int .i64 32)))), false, []⟩]) .ret) .skip)) (.seq (.region [
 ⟨(some 5), none, (.p (.mov (.t 0))), false, []⟩,
 ⟨(some 6), none, (.p (.mov (.t 0))), false, []⟩,
 ⟨(some 7), none, (.p (.neg (.t 6))), false, []⟩,
 ⟨(some 8), none, (.p (.bin .and (.t 5) (.t 7))), false, []⟩,
 ⟨(some 9), none, (.p (.bin .mul (.t 8) (.c (.int .u32 125613361)))), false, []⟩,
 ⟨(some 10), none, (.p (.bin .shr (.t 9) (.c (.int .u64 27)))), false, []⟩,
 ⟨(some 11), none, (.p (.iadA 32 1 (.c (.ptr 6 0)) (.t 10))), false, []⟩,
 ⟨(some 12), none, (.h (.load false 1 (.t 11))), false, []⟩,
 ⟨(some 13), none, (.p (.cvi .i64 (.t 12))), false, []⟩,
 ⟨(some 2), none, (.p (.mov (.t 13))), false, []⟩]) .ret)))⟩
theorem k96_ok : cfn Tryd.prog gl Tryd.f96 = some k96 := by kernel_rfl
def k97 : CFn := ⟨14, [(.t 2)], (.seq (.region [
 ⟨(some 2), none, (.p (.mov (.c (.int .i64 0)))), false, []⟩]) (.seq (.seq (.region [
 ⟨(some 3), none, (.p (.mov (.t 0))), false, []⟩,
 ⟨(some 4), none, (.p (.bin .eql (.t 3) (.c (.int .u64 0)))), false, []⟩]) (.cond (.t 4) (.seq (.region [
 ⟨(some 2), none, (.p (.mov (.c (.int .i64 64)))), false, []⟩]) .ret) .skip)) (.seq (.region [
 ⟨(some 5), none, (.p (.mov (.t 0))), false, []⟩,
 ⟨(some 6), none, (.p (.mov (.t 0))), false, []⟩,
 ⟨(some 7), none, (.p (.neg (.t 6))), false, []⟩,
 ⟨(some 8), none, (.p (.bin .and (.t 5) (.t 7))), false, []⟩,
 ⟨(some 9), none, (.p (.bin .mul (.t 8) (.c (.int .u64 285870213051353865)))), false, []⟩,
 ⟨(some 10), none, (.p (.bin .shr (.t 9) (.c (.int .u64 58)))), false, []⟩,
 ⟨(some 11), none, (.p (.iadA 64 1 (.c (.ptr 7 0)) (.t 10))), false, []⟩,
 ⟨(some 12), none, (.h (.load false 1 (.t 11))), false, []⟩,
 ⟨(some 13), none, (.p (.cvi .i64 (.t 12))), false, []⟩,
 ⟨(some 2), none, (.p (.mov (.t 13))), false, []⟩]) .ret)))⟩
theorem k97_ok : cfn Tryd.prog gl Tryd.f97 = some k97 := by kernel_rfl
end
end Vm
end Go.Proofs.YtppgnpodkmacoaaDoor
