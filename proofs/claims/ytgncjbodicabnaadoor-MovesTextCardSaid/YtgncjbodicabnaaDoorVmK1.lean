/-
  The program's text for the machine. (Printed by a program.)
-/
import Derived.Test.YtgncjbodicabnaaDoorVmH
import Derived.KernelRfl
set_option linter.unusedSimpArgs false
set_option linter.unusedVariables false

namespace Go.Proofs.YtgncjbodicabnaaDoor
namespace Vm
open Go Go.Vm Go.Vm.W
noncomputable section
set_option maxRecDepth 100000
def k3 : CFn := ⟨68, [(.t 2)], (sg ([
 ch 1 (.box (.t 0)),
 cp 2 (.mov (.c (.bool false)))]) (sg ([
 ch 10 (.load true 3 (.t 1)),
 ch 11 (.call 12 [(.t 10)]),
 cp 9 (.mov (.t 11)),
 cp 12 (.ext 0 (.t 9)),
 cp 13 (.ext 1 (.t 9)),
 ch 3 (.alloc [(.int .u8 0), (.int .i64 0), (.int .i64 0)]),
 cs 3 (.t 3) (.t 12),
 cp 4 (.mov (.t 13))]) (sq (sg ([
 ch 14 (.load true 3 (.t 1)),
 ch 15 (.call 13 [(.t 14)]),
 cp 16 (.bin .eql (.t 15) (z 0))]) (.cond (.t 16) (sg ([
 cp 17 (.mov (.t 4)),
 cp 18 (.bin .eql (.t 17) (z 1)),
 cp 19 (.mov (.t 18)),
 gh 20 19 true (.load true 3 (.t 3)),
 gp 21 19 true (.build [(.int .u8 0), (.int .i64 0), (.int .i64 0)] []),
 gp 22 19 true (.eqf false true [1, 1, 1] (.t 20) (.t 21)),
 cp 23 (.pick (.t 19) (.t 22) (.c (.bool false))),
 cp 24 (.mov (.t 23)),
 gh 25 24 true (.call 14 []),
 cp 26 (.pick (.t 24) (.t 25) (.c (.bool false))),
 cp 2 (.mov (.t 26))]) .ret) .skip)) (sg ([
 ch 28 (.load true 3 (.t 1)),
 ch 29 (.load true 3 (.t 3)),
 ch 30 (.call 15 [(.t 28), (.t 29)]),
 cp 27 (.mov (.t 30)),
 cp 31 (.ext 0 (.t 27)),
 cp 32 (.ext 1 (.t 27)),
 ch 5 (.alloc [(.int .u8 0), (.int .i64 0), (.int .i64 0)]),
 cs 3 (.t 5) (.t 31),
 cp 6 (.mov (.t 32))]) (sg ([
 ch 34 (.load true 3 (.t 3)),
 ch 35 (.load true 3 (.t 1)),
 ch 36 (.call 15 [(.t 34), (.t 35)]),
 cp 33 (.mov (.t 36)),
 cp 37 (.ext 0 (.t 33)),
 cp 38 (.ext 1 (.t 33)),
 ch 7 (.alloc [(.int .u8 0), (.int .i64 0), (.int .i64 0)]),
 cs 3 (.t 7) (.t 37),
 cp 8 (.mov (.t 38))]) (sg ([
 cp 39 (.mov (.t 4)),
 cp 40 (.bin .eql (.t 39) (z 0)),
 cp 41 (.mov (.t 40)),
 ⟨some 42,(some (41, true)),.h (.load true 3 (.t 3)),true,[]⟩,
 ⟨some 43,(some (41, true)),.h (.load true 3 (.t 1)),true,[]⟩,
 ⟨some 44,(some (41, true)),.h (.call 16 [(.t 43)]),true,[]⟩,
 gp 45 41 true (.eqf false true [1, 1, 1] (.t 42) (.t 44)),
 cp 46 (.pick (.t 41) (.t 45) (.c (.bool false))),
 cp 47 (.mov (.t 46)),
 gp 48 47 true (.mov (.t 6)),
 gp 49 47 true (.bin .eql (.t 48) (z 0)),
 cp 50 (.pick (.t 47) (.t 49) (.c (.bool false))),
 cp 51 (.mov (.t 50)),
 gp 52 51 true (.mov (.t 8)),
 gp 53 51 true (.bin .eql (.t 52) (z 0)),
 cp 54 (.pick (.t 51) (.t 53) (.c (.bool false))),
 cp 55 (.mov (.t 54)),
 ⟨some 56,(some (55, true)),.h (.load true 3 (.t 5)),true,[]⟩,
 ⟨some 57,(some (55, true)),.h (.call 17 []),true,[]⟩,
 gp 58 55 true (.eqf false true [1, 1, 1] (.t 56) (.t 57)),
 cp 59 (.pick (.t 55) (.t 58) (.c (.bool false))),
 cp 60 (.mov (.t 59)),
 ⟨some 61,(some (60, true)),.h (.load true 3 (.t 7)),true,[]⟩,
 ⟨some 62,(some (60, true)),.h (.call 17 []),true,[]⟩,
 gp 63 60 true (.eqf false true [1, 1, 1] (.t 61) (.t 62)),
 cp 64 (.pick (.t 60) (.t 63) (.c (.bool false))),
 cp 65 (.mov (.t 64)),
 gh 66 65 true (.call 14 []),
 cp 67 (.pick (.t 65) (.t 66) (.c (.bool false))),
 cp 2 (.mov (.t 67))]) .ret))))))⟩
theorem k3_ok : cfn Tryd.prog gl Tryd.f3 = some k3 := by kernel_rfl
def k4 : CFn := ⟨110, [(.t 4)], (sg ([
 ch 2 (.box (.t 0)),
 ch 3 (.box (.t 1)),
 cp 4 (.mov (.c (.bool false)))]) (sg ([
 ch 12 (.load true 3 (.t 2)),
 ch 13 (.load true 2 (.t 3)),
 ch 14 (.call 18 [(.t 12), (.t 13)]),
 cp 11 (.mov (.t 14)),
 cp 15 (.ext 0 (.t 11)),
 cp 16 (.ext 1 (.t 11)),
 ch 5 (.alloc [(.int .i64 0), (.int .i64 0)]),
 cs 2 (.t 5) (.t 15),
 cp 6 (.mov (.t 16))]) (sq (sg ([
 ch 17 (.load true 3 (.t 2)),
 ch 18 (.call 13 [(.t 17)]),
 cp 19 (.bin .eql (.t 18) (z 0)),
 cp 20 (.mov (.t 19)),
 gh 21 20 false (.load true 2 (.t 3)),
 gh 22 20 false (.call 19 [(.t 21)]),
 gp 23 20 false (.bin .eql (.t 22) (z 0)),
 cp 24 (.pick (.t 20) (.c (.bool true)) (.t 23))]) (.cond (.t 24) (sg ([
 cp 25 (.mov (.t 6)),
 cp 26 (.bin .eql (.t 25) (z 1)),
 cp 27 (.mov (.t 26)),
 gh 28 27 true (.load true 2 (.t 5)),
 gp 29 27 true (.build [(.int .i64 0), (.int .i64 0)] []),
 gp 30 27 true (.eqf false true [1, 1] (.t 28) (.t 29)),
 cp 31 (.pick (.t 27) (.t 30) (.c (.bool false))),
 cp 32 (.mov (.t 31)),
 gh 33 32 true (.call 14 []),
 cp 34 (.pick (.t 32) (.t 33) (.c (.bool false))),
 cp 4 (.mov (.t 34))]) .ret) .skip)) (sg ([
 ch 35 (.load true 3 (.t 2)),
 ch 36 (.load true 2 (.t 3)),
 ch 37 (.call 20 [(.t 35), (.t 36)]),
 ch 7 (.alloc [(.int .i64 0), (.int .i64 0)]),
 cs 2 (.t 7) (.t 37)]) (sq (sg ([
 ch 38 (.load true 2 (.t 7)),
 ch 39 (.call 19 [(.t 38)]),
 cp 40 (.bin .eql (.t 39) (z 0))]) (.cond (.t 40) (sg ([
 cp 41 (.mov (.t 6)),
 cp 42 (.bin .eql (.t 41) (z 3)),
 cp 43 (.mov (.t 42)),
 gh 44 43 true (.load true 2 (.t 5)),
 gp 45 43 true (.build [(.int .i64 0), (.int .i64 0)] []),
 gp 46 43 true (.eqf false true [1, 1] (.t 44) (.t 45)),
 cp 47 (.pick (.t 43) (.t 46) (.c (.bool false))),
 cp 48 (.mov (.t 47)),
 gh 49 48 true (.call 14 []),
 cp 50 (.pick (.t 48) (.t 49) (.c (.bool false))),
 cp 4 (.mov (.t 50))]) .ret) .skip)) (sg ([
 ch 51 (.load true 3 (.t 2)),
 cp 52 (.build [(.int .i64 0), (.int .i64 0)] []),
 ch 53 (.call 20 [(.t 51), (.t 52)]),
 ch 8 (.alloc [(.int .i64 0), (.int .i64 0)]),
 cs 2 (.t 8) (.t 53)]) (sg ([
 cp 54 (.fad 0 (.t 5)),
 ⟨some 55,none,.h (.load false 1 (.t 54)),true,[]⟩,
 cp 56 (.fad 0 (.t 8)),
 ⟨some 57,none,.h (.load false 1 (.t 56)),true,[]⟩,
 cp 58 (.bin .sub (.t 55) (.t 57)),
 cp 59 (.fad 1 (.t 5)),
 ⟨some 60,none,.h (.load false 1 (.t 59)),true,[]⟩,
 cp 61 (.fad 1 (.t 8)),
 ⟨some 62,none,.h (.load false 1 (.t 61)),true,[]⟩,
 cp 63 (.bin .sub (.t 60) (.t 62)),
 cp 9 (.mov (.t 58)),
 cp 10 (.mov (.t 63))]) (sg ([
 cp 64 (.mov (.t 6)),
 cp 65 (.bin .eql (.t 64) (z 0)),
 cp 66 (.mov (.t 65)),
 gh 67 66 true (.load true 2 (.t 5)),
 gh 68 66 true (.load true 2 (.t 7)),
 gp 69 66 true (.eqf false true [1, 1] (.t 67) (.t 68)),
 cp 70 (.pick (.t 66) (.t 69) (.c (.bool false))),
 cp 71 (.mov (.t 70)),
 gp 72 71 true (.mov (.t 9)),
 gp 73 71 true (.mov (.t 9)),
 gp 74 71 true (.bin .mul (.t 72) (.t 73)),
 gp 75 71 true (.mov (.t 10)),
 gp 76 71 true (.mov (.t 10)),
 gp 77 71 true (.bin .mul (.t 75) (.t 76)),
 gp 78 71 true (.bin .add (.t 74) (.t 77)),
 gp 79 71 true (.fad 0 (.t 3)),
 gh 80 71 true (.load false 1 (.t 79)),
 gp 81 71 true (.fad 0 (.t 3)),
 gh 82 71 true (.load false 1 (.t 81)),
 gp 83 71 true (.bin .mul (.t 80) (.t 82)),
 gp 84 71 true (.fad 1 (.t 3)),
 gh 85 71 true (.load false 1 (.t 84)),
 gp 86 71 true (.fad 1 (.t 3)),
 gh 87 71 true (.load false 1 (.t 86)),
 gp 88 71 true (.bin .mul (.t 85) (.t 87)),
 gp 89 71 true (.bin .add (.t 83) (.t 88)),
 gp 90 71 true (.bin .eql (.t 78) (.t 89)),
 cp 91 (.pick (.t 71) (.t 90) (.c (.bool false))),
 cp 92 (.mov (.t 91)),
 gp 93 92 true (.fad 0 (.t 5)),
 gh 94 92 true (.load false 1 (.t 93)),
 gp 95 92 true (.fad 1 (.t 5)),
 gh 96 92 true (.load false 1 (.t 95)),
 gp 97 92 true (.bin .add (.t 94) (.t 96)),
 gp 98 92 true (.fad 0 (.t 3)),
 gh 99 92 true (.load false 1 (.t 98)),
 gp 100 92 true (.bin .sub (.t 97) (.t 99)),
 gp 101 92 true (.fad 1 (.t 3)),
 gh 102 92 true (.load false 1 (.t 101)),
 gp 103 92 true (.bin .sub (.t 100) (.t 102)),
 gp 104 92 true (.bin .rem (.t 103) (z 2)),
 gp 105 92 true (.bin .eql (.t 104) (z 0)),
 cp 106 (.pick (.t 92) (.t 105) (.c (.bool false))),
 cp 107 (.mov (.t 106)),
 gh 108 107 true (.call 14 []),
 cp 109 (.pick (.t 107) (.t 108) (.c (.bool false))),
 cp 4 (.mov (.t 109))]) .ret))))))))⟩
theorem k4_ok : cfn Tryd.prog gl Tryd.f4 = some k4 := by kernel_rfl
def k5 : CFn := ⟨82, [(.t 4)], (sg ([
 ch 2 (.box (.t 0)),
 ch 3 (.box (.t 1)),
 cp 4 (.mov (.c (.bool false)))]) (sg ([
 ch 12 (.load true 3 (.t 2)),
 ch 13 (.load true 2 (.t 3)),
 ch 14 (.call 21 [(.t 12), (.t 13)]),
 cp 11 (.mov (.t 14)),
 cp 15 (.ext 0 (.t 11)),
 cp 16 (.ext 1 (.t 11)),
 ch 5 (.alloc [(.int .u8 0), (.int .i64 0)]),
 cs 2 (.t 5) (.t 15),
 cp 6 (.mov (.t 16))]) (sq (sg ([
 ch 17 (.load true 3 (.t 2)),
 ch 18 (.call 13 [(.t 17)]),
 cp 19 (.bin .eql (.t 18) (z 0)),
 cp 20 (.mov (.t 19)),
 gh 21 20 false (.load true 2 (.t 3)),
 gh 22 20 false (.call 22 [(.t 21)]),
 gp 23 20 false (.bin .eql (.t 22) (z 0)),
 cp 24 (.pick (.t 20) (.c (.bool true)) (.t 23))]) (.cond (.t 24) (sg ([
 cp 25 (.mov (.t 6)),
 cp 26 (.bin .eql (.t 25) (z 1)),
 cp 27 (.mov (.t 26)),
 gh 28 27 true (.load true 2 (.t 5)),
 gp 29 27 true (.build [(.int .u8 0), (.int .i64 0)] []),
 gp 30 27 true (.eqf false true [1, 1] (.t 28) (.t 29)),
 cp 31 (.pick (.t 27) (.t 30) (.c (.bool false))),
 cp 32 (.mov (.t 31)),
 gh 33 32 true (.call 14 []),
 cp 34 (.pick (.t 32) (.t 33) (.c (.bool false))),
 cp 4 (.mov (.t 34))]) .ret) .skip)) (sg ([
 ch 35 (.load true 3 (.t 2)),
 ch 36 (.load true 2 (.t 3)),
 ch 37 (.call 23 [(.t 35), (.t 36)]),
 ch 7 (.alloc [(.int .u8 0), (.int .i64 0)]),
 cs 2 (.t 7) (.t 37)]) (sq (sg ([
 ch 38 (.load true 2 (.t 7)),
 ch 39 (.call 22 [(.t 38)]),
 cp 40 (.bin .eql (.t 39) (z 0))]) (.cond (.t 40) (sg ([
 cp 41 (.mov (.t 6)),
 cp 42 (.bin .eql (.t 41) (z 3)),
 cp 43 (.mov (.t 42)),
 gh 44 43 true (.load true 2 (.t 5)),
 gp 45 43 true (.build [(.int .u8 0), (.int .i64 0)] []),
 gp 46 43 true (.eqf false true [1, 1] (.t 44) (.t 45)),
 cp 47 (.pick (.t 43) (.t 46) (.c (.bool false))),
 cp 48 (.mov (.t 47)),
 gh 49 48 true (.call 14 []),
 cp 50 (.pick (.t 48) (.t 49) (.c (.bool false))),
 cp 4 (.mov (.t 50))]) .ret) .skip)) (sg ([
 ⟨some 51,none,.h (.load true 3 (.t 2)),true,[]⟩,
 ⟨some 52,none,.h (.call 16 [(.t 51)]),true,[]⟩,
 ⟨some 53,none,.h (.load true 2 (.t 3)),true,[]⟩,
 ⟨some 54,none,.h (.call 25 [(.t 53)]),true,[]⟩,
 ⟨some 55,none,.h (.call 24 [(.t 52), (.t 54)]),true,[]⟩,
 ⟨some 56,none,.h (.load true 3 (.t 2)),true,[]⟩,
 ⟨some 57,none,.h (.call 24 [(.t 55), (.t 56)]),true,[]⟩,
 ⟨some 8,none,.h (.alloc [(.int .u8 0), (.int .i64 0), (.int .i64 0)]),true,[]⟩,
 cs 3 (.t 8) (.t 57)]) (sg ([
 ch 59 (.load true 2 (.t 5)),
 ch 60 (.call 26 [(.t 59)]),
 cp 58 (.mov (.t 60)),
 cp 61 (.ext 0 (.t 58)),
 cp 62 (.ext 1 (.t 58)),
 ch 9 (.alloc [(.int .u8 0), (.int .i64 0), (.int .i64 0)]),
 cs 3 (.t 9) (.t 61),
 cp 10 (.mov (.t 62))]) (sg ([
 cp 63 (.mov (.t 6)),
 cp 64 (.bin .eql (.t 63) (z 0)),
 cp 65 (.mov (.t 64)),
 gh 66 65 true (.load true 2 (.t 5)),
 gh 67 65 true (.load true 2 (.t 7)),
 gp 68 65 true (.eqf false true [1, 1] (.t 66) (.t 67)),
 cp 69 (.pick (.t 65) (.t 68) (.c (.bool false))),
 cp 70 (.mov (.t 69)),
 gp 71 70 true (.mov (.t 10)),
 gp 72 70 true (.bin .eql (.t 71) (z 0)),
 cp 73 (.pick (.t 70) (.t 72) (.c (.bool false))),
 cp 74 (.mov (.t 73)),
 gh 75 74 true (.load true 3 (.t 9)),
 gh 76 74 true (.load true 3 (.t 8)),
 gp 77 74 true (.eqf false true [1, 1, 1] (.t 75) (.t 76)),
 cp 78 (.pick (.t 74) (.t 77) (.c (.bool false))),
 cp 79 (.mov (.t 78)),
 gh 80 79 true (.call 14 []),
 cp 81 (.pick (.t 79) (.t 80) (.c (.bool false))),
 cp 4 (.mov (.t 81))]) .ret))))))))⟩
theorem k5_ok : cfn Tryd.prog gl Tryd.f5 = some k5 := by kernel_rfl
def k6 : CFn := ⟨108, [(.t 4)], (sg ([
 ch 2 (.box (.t 0)),
 ch 3 (.box (.t 1)),
 cp 4 (.mov (.c (.bool false)))]) (sg ([
 cp 20 (.iadA 3 3 (.t 2) (z 0)),
 ⟨some 21,none,.h (.load true 3 (.t 20)),true,[]⟩,
 ⟨some 22,none,.h (.call 27 [(.t 21)]),true,[]⟩,
 cp 23 (.iadA 3 3 (.t 2) (z 1)),
 ⟨some 24,none,.h (.load true 3 (.t 23)),true,[]⟩,
 ⟨some 25,none,.h (.call 27 [(.t 24)]),true,[]⟩,
 cp 26 (.iadA 3 3 (.t 2) (z 2)),
 ⟨some 27,none,.h (.load true 3 (.t 26)),true,[]⟩,
 ⟨some 28,none,.h (.call 27 [(.t 27)]),true,[]⟩,
 ⟨some 5,none,.h (.alloc [(.int .u8 0), (.int .i64 0), (.int .i64 0)]),true,[]⟩,
 ⟨some 6,none,.h (.alloc [(.int .u8 0), (.int .i64 0), (.int .i64 0)]),true,[]⟩,
 ⟨some 7,none,.h (.alloc [(.int .u8 0), (.int .i64 0), (.int .i64 0)]),true,[]⟩,
 cs 3 (.t 5) (.t 22),
 cs 3 (.t 6) (.t 25),
 cs 3 (.t 7) (.t 28)]) (sg ([
 ch 30 (.load true 3 (.t 5)),
 ch 31 (.load true 3 (.t 6)),
 ch 32 (.call 15 [(.t 30), (.t 31)]),
 cp 29 (.mov (.t 32)),
 cp 33 (.ext 0 (.t 29)),
 cp 34 (.ext 1 (.t 29)),
 ch 8 (.alloc [(.int .u8 0), (.int .i64 0), (.int .i64 0)]),
 cs 3 (.t 8) (.t 33),
 cp 9 (.mov (.t 34))]) (sg ([
 ch 36 (.load true 3 (.t 6)),
 ch 37 (.load true 3 (.t 7)),
 ch 38 (.call 15 [(.t 36), (.t 37)]),
 cp 35 (.mov (.t 38)),
 cp 39 (.ext 0 (.t 35)),
 cp 40 (.ext 1 (.t 35)),
 ch 10 (.alloc [(.int .u8 0), (.int .i64 0), (.int .i64 0)]),
 cs 3 (.t 10) (.t 39),
 cp 11 (.mov (.t 40))]) (sg ([
 ch 42 (.load true 3 (.t 8)),
 ch 43 (.load true 3 (.t 7)),
 ch 44 (.call 15 [(.t 42), (.t 43)]),
 cp 41 (.mov (.t 44)),
 cp 45 (.ext 0 (.t 41)),
 cp 46 (.ext 1 (.t 41)),
 ch 12 (.alloc [(.int .u8 0), (.int .i64 0), (.int .i64 0)]),
 cs 3 (.t 12) (.t 45),
 cp 13 (.mov (.t 46))]) (sg ([
 ch 48 (.load true 3 (.t 5)),
 ch 49 (.load true 3 (.t 10)),
 ch 50 (.call 15 [(.t 48), (.t 49)]),
 cp 47 (.mov (.t 50)),
 cp 51 (.ext 0 (.t 47)),
 cp 52 (.ext 1 (.t 47)),
 ch 14 (.alloc [(.int .u8 0), (.int .i64 0), (.int .i64 0)]),
 cs 3 (.t 14) (.t 51),
 cp 15 (.mov (.t 52))]) (sq (sg ([
 cp 53 (.mov (.t 9)),
 cp 54 (.bin .neq (.t 53) (z 0)),
 cp 55 (.mov (.t 54)),
 gp 56 55 false (.mov (.t 11)),
 gp 57 55 false (.bin .neq (.t 56) (z 0)),
 cp 58 (.pick (.t 55) (.c (.bool true)) (.t 57)),
 cp 59 (.mov (.t 58)),
 gp 60 59 false (.mov (.t 13)),
 gp 61 59 false (.bin .neq (.t 60) (z 0)),
 cp 62 (.pick (.t 59) (.c (.bool true)) (.t 61)),
 cp 63 (.mov (.t 62)),
 gp 64 63 false (.mov (.t 15)),
 gp 65 63 false (.bin .neq (.t 64) (z 0)),
 cp 66 (.pick (.t 63) (.c (.bool true)) (.t 65)),
 cp 67 (.mov (.t 66)),
 gh 68 67 false (.load true 3 (.t 12)),
 gh 69 67 false (.load true 3 (.t 14)),
 gp 70 67 false (.eqf true true [1, 1, 1] (.t 68) (.t 69)),
 cp 71 (.pick (.t 67) (.c (.bool true)) (.t 70))]) (.cond (.t 71) (sg ([
 cp 4 (.mov (.c (.bool false)))]) .ret) .skip)) (sg ([
 cp 72 (.iadA 2 1 (.t 3) (z 0)),
 ch 73 (.load false 1 (.t 72)),
 cp 74 (.cvi .i64 (.t 73)),
 cp 75 (.iadA 2 1 (.t 3) (z 1)),
 ch 76 (.load false 1 (.t 75)),
 cp 77 (.cvi .i64 (.t 76)),
 cp 78 (.build [(.int .i64 0), (.int .i64 0)] [(0, 1, (.t 74)), (1, 1, (.t 77))]),
 ch 16 (.alloc [(.int .i64 0), (.int .i64 0)]),
 cs 2 (.t 16) (.t 78)]) (sg ([
 ch 80 (.load true 3 (.t 12)),
 ch 81 (.load true 2 (.t 16)),
 ch 82 (.call 18 [(.t 80), (.t 81)]),
 cp 79 (.mov (.t 82)),
 cp 83 (.ext 0 (.t 79)),
 cp 84 (.ext 1 (.t 79)),
 ch 17 (.alloc [(.int .i64 0), (.int .i64 0)]),
 cs 2 (.t 17) (.t 83),
 cp 18 (.mov (.t 84))]) (sq (sg ([
 cp 19 (.mov (z 0))]) (.block 0 (.loop (sq (sg ([
 cp 85 (.mov (.t 19)),
 cp 86 (.bin .lss (.t 85) (z 3))]) (.cond (.t 86) .skip (.exit 0))) (sq (.block 1 (.region [
 cp 90 (.mov (.t 19)),
 cp 91 (.iadA 3 3 (.t 2) (.t 90)),
 ⟨some 92,none,.h (.load true 3 (.t 91)),true,[]⟩,
 ⟨some 93,none,.h (.call 27 [(.t 92)]),true,[]⟩,
 ⟨some 94,none,.h (.load true 2 (.t 16)),true,[]⟩,
 ch 95 (.call 18 [(.t 93), (.t 94)]),
 cp 89 (.mov (.t 95)),
 cp 96 (.ext 0 (.t 89)),
 cp 97 (.ext 1 (.t 89)),
 cs 2 (.t 16) (.t 96)])) (.region [
 cp 87 (.mov (.t 19)),
 cp 88 (.bin .add (.t 87) (z 1)),
 cp 19 (.mov (.t 88))])))))) (sg ([
 cp 98 (.mov (.t 18)),
 cp 99 (.bin .eql (.t 98) (z 0)),
 cp 100 (.mov (.t 99)),
 gh 101 100 true (.load true 2 (.t 17)),
 gh 102 100 true (.load true 2 (.t 16)),
 gp 103 100 true (.eqf false true [1, 1] (.t 101) (.t 102)),
 cp 104 (.pick (.t 100) (.t 103) (.c (.bool false))),
 cp 105 (.mov (.t 104)),
 gh 106 105 true (.call 14 []),
 cp 107 (.pick (.t 105) (.t 106) (.c (.bool false))),
 cp 4 (.mov (.t 107))]) .ret)))))))))))⟩
theorem k6_ok : cfn Tryd.prog gl Tryd.f6 = some k6 := by kernel_rfl
def k7 : CFn := ⟨99, [(.t 2)], (sg ([
 ch 1 (.box (.t 0)),
 cp 2 (.mov (.c (.bool false)))]) (sg ([
 ch 12 (.load true 3 (.t 1)),
 ch 13 (.call 27 [(.t 12)]),
 ch 3 (.alloc [(.int .u8 0), (.int .i64 0), (.int .i64 0)]),
 cs 3 (.t 3) (.t 13)]) (sg ([
 cp 14 (.fad 1 (.t 3)),
 ⟨some 15,none,.h (.load false 1 (.t 14)),true,[]⟩,
 cp 16 (.fad 2 (.t 3)),
 ⟨some 17,none,.h (.load false 1 (.t 16)),true,[]⟩,
 cp 18 (.bin .add (.t 15) (.t 17)),
 cp 19 (.bin .quo (.t 18) (z 2)),
 cp 20 (.fad 1 (.t 3)),
 ⟨some 21,none,.h (.load false 1 (.t 20)),true,[]⟩,
 cp 22 (.fad 2 (.t 3)),
 ⟨some 23,none,.h (.load false 1 (.t 22)),true,[]⟩,
 cp 24 (.bin .sub (.t 21) (.t 23)),
 cp 25 (.bin .quo (.t 24) (z 2)),
 cp 4 (.mov (.t 19)),
 cp 5 (.mov (.t 25))]) (sg ([
 ch 26 (.bsl 2 0 [] []),
 cp 27 (.build [(.int .u8 0), (.int .i64 0)] [(0, 1, (.c (.int .u8 1)))]),
 cp 28 (.build [(.int .u8 0), (.int .i64 0)] [(0, 1, (.c (.int .u8 3)))]),
 ch 29 (.bsl 2 2 [(.int .u8 0), (.int .i64 0), (.int .u8 0), (.int .i64 0)] [(0, 2, (.t 27)), (2, 2, (.t 28))]),
 cp 30 (.build [(.int .u8 0), (.int .i64 0)] [(0, 1, (.c (.int .u8 1)))]),
 cp 31 (.build [(.int .u8 0), (.int .i64 0)] [(0, 1, (.c (.int .u8 2)))]),
 ch 32 (.bsl 2 2 [(.int .u8 0), (.int .i64 0), (.int .u8 0), (.int .i64 0)] [(0, 2, (.t 30)), (2, 2, (.t 31))]),
 cp 33 (.build [(.int .u8 0), (.int .i64 0)] [(0, 1, (.c (.int .u8 3)))]),
 cp 34 (.build [(.int .u8 0), (.int .i64 0)] [(0, 1, (.c (.int .u8 1)))]),
 ch 35 (.bsl 2 2 [(.int .u8 0), (.int .i64 0), (.int .u8 0), (.int .i64 0)] [(0, 2, (.t 33)), (2, 2, (.t 34))]),
 cp 36 (.build [(.int .u8 0), (.int .i64 0)] [(0, 1, (.c (.int .u8 1)))]),
 ch 37 (.bsl 2 1 [(.int .u8 0), (.int .i64 0)] [(0, 2, (.t 36))]),
 cp 38 (.build [(.int .u8 0), (.int .i64 0)] [(0, 1, (.c (.int .u8 3)))]),
 ch 39 (.bsl 2 1 [(.int .u8 0), (.int .i64 0)] [(0, 2, (.t 38))]),
 cp 40 (.build [(.int .u8 0), (.int .i64 0)] [(0, 1, (.c (.int .u8 2)))]),
 ch 41 (.bsl 2 1 [(.int .u8 0), (.int .i64 0)] [(0, 2, (.t 40))]),
 cp 42 (.build [(.int .u8 0), (.int .i64 0)] [(0, 1, (.c (.int .u8 4)))]),
 ch 43 (.bsl 2 1 [(.int .u8 0), (.int .i64 0)] [(0, 2, (.t 42))]),
 ch 44 (.bsl 1 8 [.nils, .nils, .nils, .nils, .nils, .nils, .nils, .nils] [(0, 1, (.t 26)), (1, 1, (.t 29)), (2, 1, (.t 32)), (3, 1, (.t 35)), (4, 1, (.t 37)), (5, 1, (.t 39)), (6, 1, (.t 41)), (7, 1, (.t 43))]),
 cp 45 (.fad 0 (.t 3)),
 ch 46 (.load false 1 (.t 45)),
 cp 47 (.iadS 1 (.t 44) (.t 46)),
 ch 48 (.load false 1 (.t 47)),
 cp 6 (.mov (.t 48))]) (sg ([
 ch 49 (.bsl 2 0 [] []),
 cp 50 (.mov (.t 6)),
 ch 51 (.app 2 16 (.t 49) (.t 50)),
 cp 52 (.build [(.int .u8 0), (.int .i64 0)] [(0, 1, (.c (.int .u8 3)))]),
 cp 53 (.mov (.t 4)),
 cp 54 (.build [(.int .u8 0), (.int .i64 0)] [(0, 1, (.c (.int .u8 3))), (1, 1, (.t 53))]),
 cp 55 (.mov (.t 5)),
 cp 56 (.build [(.int .u8 0), (.int .i64 0)] [(0, 1, (.c (.int .u8 4))), (1, 1, (.t 55))]),
 cp 57 (.build [(.int .u8 0), (.int .i64 0)] [(0, 1, (.c (.int .u8 4)))]),
 ch 58 (.bsl 2 4 [(.int .u8 0), (.int .i64 0), (.int .u8 0), (.int .i64 0), (.int .u8 0), (.int .i64 0), (.int .u8 0), (.int .i64 0)] [(0, 2, (.t 52)), (2, 2, (.t 54)), (4, 2, (.t 56)), (6, 2, (.t 57))]),
 ch 59 (.app 2 16 (.t 51) (.t 58)),
 cp 7 (.mov (.t 59))]) (sg ([
 ch 60 (.call 17 []),
 ch 8 (.alloc [(.int .u8 0), (.int .i64 0), (.int .i64 0)]),
 cs 3 (.t 8) (.t 60)]) (sq (sg ([
 cp 9 (.mov (z 0))]) (.block 0 (.loop (sq (sg ([
 cp 61 (.mov (.t 9)),
 cp 62 (.mov (.t 7)),
 cp 63 (.len (.t 62)),
 cp 64 (.bin .lss (.t 61) (.t 63))]) (.cond (.t 64) .skip (.exit 0))) (sq (.block 1 (sg ([
 cp 68 (.mov (.t 7)),
 cp 69 (.mov (.t 9)),
 cp 70 (.iadS 2 (.t 68) (.t 69)),
 ch 71 (.load true 2 (.t 70)),
 ch 72 (.call 26 [(.t 71)]),
 cp 67 (.mov (.t 72)),
 cp 73 (.ext 0 (.t 67)),
 cp 74 (.ext 1 (.t 67)),
 ch 10 (.alloc [(.int .u8 0), (.int .i64 0), (.int .i64 0)]),
 cs 3 (.t 10) (.t 73),
 cp 11 (.mov (.t 74))]) (sq (sg ([
 cp 75 (.mov (.t 11)),
 cp 76 (.bin .neq (.t 75) (z 0))]) (.cond (.t 76) (sg ([
 cp 2 (.mov (.c (.bool false)))]) .ret) .skip)) (sg ([
 ch 78 (.load true 3 (.t 8)),
 ch 79 (.load true 3 (.t 10)),
 ch 80 (.call 15 [(.t 78), (.t 79)]),
 cp 77 (.mov (.t 80)),
 cp 81 (.ext 0 (.t 77)),
 cp 82 (.ext 1 (.t 77)),
 cs 3 (.t 8) (.t 81),
 cp 11 (.mov (.t 82))]) (sg ([
 cp 83 (.mov (.t 11)),
 cp 84 (.bin .neq (.t 83) (z 0)),
 cp 85 (.mov (.t 84)),
 gp 86 85 false (.mov (.t 7)),
 gp 87 85 false (.mov (.t 9)),
 gp 88 85 false (.iadS 2 (.t 86) (.t 87)),
 gh 89 85 false (.load true 2 (.t 88)),
 gh 90 85 false (.call 28 [(.t 89)]),
 gp 91 85 false (.bin .neq (.t 90) (z 0)),
 cp 92 (.pick (.t 85) (.c (.bool true)) (.t 91))]) (.cond (.t 92) (sg ([
 cp 2 (.mov (.c (.bool false)))]) .ret) .skip)))))) (.region [
 cp 65 (.mov (.t 9)),
 cp 66 (.bin .add (.t 65) (z 1)),
 cp 9 (.mov (.t 66))])))))) (sg ([
 ch 93 (.load true 3 (.t 8)),
 ch 94 (.load true 3 (.t 3)),
 cp 95 (.eqf false true [1, 1, 1] (.t 93) (.t 94)),
 cp 96 (.mov (.t 95)),
 gh 97 96 true (.call 14 []),
 cp 98 (.pick (.t 96) (.t 97) (.c (.bool false))),
 cp 2 (.mov (.t 98))]) .ret))))))))⟩
theorem k7_ok : cfn Tryd.prog gl Tryd.f7 = some k7 := by kernel_rfl
def k8 : CFn := ⟨63, [(.t 4)], (sg ([
 ch 2 (.box (.t 0)),
 cp 4 (.mov (.c (.bool false)))]) (sq (sg ([
 cp 10 (.mov (.t 1)),
 cp 11 (.lenS (.t 10)),
 cp 12 (.bin .gtr (.t 11) (z 30))]) (.cond (.t 12) (sg ([
 cp 4 (.mov (.c (.bool true)))]) .ret) .skip)) (sg ([
 cp 5 (.mov (.c (.str [])))]) (sq (sg ([
 ch 13 (.load true 3 (.t 2)),
 ch 14 (.call 13 [(.t 13)]),
 cp 15 (.bin .eql (.t 14) (z 1))]) (.cond (.t 15) (sg ([
 ch 16 (.load true 3 (.t 2)),
 ch 17 (.call 29 [(.t 16)]),
 cp 5 (.mov (.t 17))]) (sg ([
 cp 19 (.mov (.t 5)),
 ch 20 (.call 30 [(.t 19)]),
 cp 18 (.mov (.t 20)),
 cp 21 (.ext 0 (.t 18)),
 cp 22 (.ext 1 (.t 18)),
 ch 6 (.alloc [(.int .u8 0), (.int .i64 0), (.int .i64 0)]),
 cs 3 (.t 6) (.t 21),
 cp 7 (.mov (.t 22))]) (sg ([
 ch 23 (.load true 3 (.t 6)),
 ch 24 (.load true 3 (.t 2)),
 cp 25 (.eqf true true [1, 1, 1] (.t 23) (.t 24)),
 cp 26 (.mov (.t 25)),
 gp 27 26 false (.mov (.t 7)),
 gp 28 26 false (.bin .neq (.t 27) (z 0)),
 cp 29 (.pick (.t 26) (.c (.bool true)) (.t 28))]) (.cond (.t 29) (sg ([
 cp 4 (.mov (.c (.bool false)))]) .ret) .skip)))) .skip)) (sq (sg ([
 ch 30 (.load true 3 (.t 2)),
 ch 31 (.call 31 [(.t 30)]),
 cp 32 (.mov (.t 5)),
 cp 33 (.bin .neq (.t 31) (.t 32))]) (.cond (.t 33) (sg ([
 cp 4 (.mov (.c (.bool false)))]) .ret) .skip)) (sg ([
 cp 35 (.mov (.t 1)),
 ch 36 (.call 30 [(.t 35)]),
 cp 34 (.mov (.t 36)),
 cp 37 (.ext 0 (.t 34)),
 cp 38 (.ext 1 (.t 34)),
 ch 8 (.alloc [(.int .u8 0), (.int .i64 0), (.int .i64 0)]),
 cs 3 (.t 8) (.t 37),
 cp 9 (.mov (.t 38))]) (sq (sg ([
 cp 39 (.mov (.t 9)),
 cp 40 (.bin .neq (.t 39) (z 0))]) (.cond (.t 40) (sg ([
 cp 41 (.mov (.t 9)),
 cp 42 (.bin .eql (.t 41) (z 4)),
 cp 43 (.mov (.t 42)),
 gh 44 43 true (.load true 3 (.t 8)),
 gp 45 43 true (.build [(.int .u8 0), (.int .i64 0), (.int .i64 0)] []),
 gp 46 43 true (.eqf false true [1, 1, 1] (.t 44) (.t 45)),
 cp 47 (.pick (.t 43) (.t 46) (.c (.bool false))),
 cp 48 (.mov (.t 47)),
 gh 49 48 true (.call 14 []),
 cp 50 (.pick (.t 48) (.t 49) (.c (.bool false))),
 cp 4 (.mov (.t 50))]) .ret) .skip)) (sg ([
 ch 51 (.load true 3 (.t 8)),
 ch 52 (.call 13 [(.t 51)]),
 cp 53 (.bin .eql (.t 52) (z 1)),
 cp 54 (.mov (.t 53)),
 gh 55 54 true (.load true 3 (.t 8)),
 gh 56 54 true (.call 29 [(.t 55)]),
 gp 57 54 true (.mov (.t 1)),
 gp 58 54 true (.bin .eql (.t 56) (.t 57)),
 cp 59 (.pick (.t 54) (.t 58) (.c (.bool false))),
 cp 60 (.mov (.t 59)),
 gh 61 60 true (.call 14 []),
 cp 62 (.pick (.t 60) (.t 61) (.c (.bool false))),
 cp 4 (.mov (.t 62))]) .ret))))))))⟩
theorem k8_ok : cfn Tryd.prog gl Tryd.f8 = some k8 := by kernel_rfl
def k9 : CFn := ⟨89, [(.t 6)], (sg ([
 ch 3 (.box (.t 0)),
 cp 6 (.mov (.c (.bool false)))]) (sg ([
 ch 15 (.load true 2 (.t 3)),
 ch 16 (.call 26 [(.t 15)]),
 cp 14 (.mov (.t 16)),
 cp 17 (.ext 0 (.t 14)),
 cp 18 (.ext 1 (.t 14)),
 ch 7 (.alloc [(.int .u8 0), (.int .i64 0), (.int .i64 0)]),
 cs 3 (.t 7) (.t 17),
 cp 8 (.mov (.t 18))]) (sq (sg ([
 ch 19 (.load true 2 (.t 3)),
 ch 20 (.call 22 [(.t 19)]),
 cp 21 (.bin .eql (.t 20) (z 0))]) (.cond (.t 21) (sg ([
 cp 22 (.mov (.t 8)),
 cp 23 (.bin .eql (.t 22) (z 1)),
 cp 24 (.mov (.t 23)),
 gh 25 24 true (.load true 3 (.t 7)),
 gp 26 24 true (.build [(.int .u8 0), (.int .i64 0), (.int .i64 0)] []),
 gp 27 24 true (.eqf false true [1, 1, 1] (.t 25) (.t 26)),
 cp 28 (.pick (.t 24) (.t 27) (.c (.bool false))),
 cp 29 (.mov (.t 28)),
 gh 30 29 true (.call 14 []),
 cp 31 (.pick (.t 29) (.t 30) (.c (.bool false))),
 cp 6 (.mov (.t 31))]) .ret) .skip)) (sg ([
 cp 32 (.mov (.t 1)),
 cp 33 (.cvi .i64 (.t 32)),
 cp 34 (.mov (.t 2)),
 cp 35 (.cvi .i64 (.t 34)),
 cp 36 (.build [(.int .i64 0), (.int .i64 0)] [(0, 1, (.t 33)), (1, 1, (.t 35))]),
 ch 9 (.alloc [(.int .i64 0), (.int .i64 0)]),
 cs 2 (.t 9) (.t 36)]) (sg ([
 ch 38 (.load true 3 (.t 7)),
 ch 39 (.load true 2 (.t 9)),
 ch 40 (.call 18 [(.t 38), (.t 39)]),
 cp 37 (.mov (.t 40)),
 cp 41 (.ext 0 (.t 37)),
 cp 42 (.ext 1 (.t 37)),
 ch 10 (.alloc [(.int .i64 0), (.int .i64 0)]),
 cs 2 (.t 10) (.t 41),
 cp 11 (.mov (.t 42))]) (sg ([
 ch 44 (.load true 3 (.t 7)),
 ch 45 (.load true 3 (.t 7)),
 ch 46 (.call 15 [(.t 44), (.t 45)]),
 cp 43 (.mov (.t 46)),
 cp 47 (.ext 0 (.t 43)),
 cp 48 (.ext 1 (.t 43)),
 ch 12 (.alloc [(.int .u8 0), (.int .i64 0), (.int .i64 0)]),
 cs 3 (.t 12) (.t 47),
 cp 13 (.mov (.t 48))]) (sg ([
 cp 49 (.mov (.t 8)),
 cp 50 (.bin .eql (.t 49) (z 0)),
 cp 51 (.mov (.t 50)),
 ⟨some 52,(some (51, true)),.h (.load true 3 (.t 7)),true,[]⟩,
 ⟨some 53,(some (51, true)),.h (.load true 2 (.t 3)),true,[]⟩,
 ⟨some 54,(some (51, true)),.h (.call 25 [(.t 53)]),true,[]⟩,
 gp 55 51 true (.eqf false true [1, 1, 1] (.t 52) (.t 54)),
 cp 56 (.pick (.t 51) (.t 55) (.c (.bool false))),
 cp 57 (.mov (.t 56)),
 gp 58 57 true (.mov (.t 11)),
 gp 59 57 true (.bin .eql (.t 58) (z 0)),
 cp 60 (.pick (.t 57) (.t 59) (.c (.bool false))),
 cp 61 (.mov (.t 60)),
 ⟨some 62,(some (61, true)),.h (.load true 2 (.t 10)),true,[]⟩,
 ⟨some 63,(some (61, true)),.h (.load true 2 (.t 3)),true,[]⟩,
 ⟨some 64,(some (61, true)),.h (.load true 2 (.t 9)),true,[]⟩,
 ⟨some 65,(some (61, true)),.h (.call 32 [(.t 63), (.t 64)]),true,[]⟩,
 gp 66 61 true (.eqf false true [1, 1] (.t 62) (.t 65)),
 cp 67 (.pick (.t 61) (.t 66) (.c (.bool false))),
 cp 68 (.mov (.t 67)),
 gp 69 68 true (.mov (.t 13)),
 gp 70 68 true (.bin .eql (.t 69) (z 0)),
 cp 71 (.pick (.t 68) (.t 70) (.c (.bool false))),
 cp 72 (.mov (.t 71)),
 ⟨some 73,(some (72, true)),.h (.load true 3 (.t 12)),true,[]⟩,
 ⟨some 74,(some (72, true)),.h (.call 17 []),true,[]⟩,
 gp 75 72 true (.eqf false true [1, 1, 1] (.t 73) (.t 74)),
 cp 76 (.pick (.t 72) (.t 75) (.c (.bool false))),
 cp 77 (.mov (.t 76)),
 ⟨some 78,(some (77, true)),.h (.load true 3 (.t 7)),true,[]⟩,
 gh 79 77 true (.call 33 [(.t 78)]),
 cp 80 (.pick (.t 77) (.t 79) (.c (.bool false))),
 cp 81 (.mov (.t 80)),
 ⟨some 82,(some (81, true)),.h (.load true 3 (.t 7)),true,[]⟩,
 gh 83 81 true (.call 34 [(.t 82)]),
 gp 84 81 true (.bin .eql (.t 83) (z 0)),
 cp 85 (.pick (.t 81) (.t 84) (.c (.bool false))),
 cp 86 (.mov (.t 85)),
 gh 87 86 true (.call 14 []),
 cp 88 (.pick (.t 86) (.t 87) (.c (.bool false))),
 cp 6 (.mov (.t 88))]) .ret)))))))⟩
theorem k9_ok : cfn Tryd.prog gl Tryd.f9 = some k9 := by kernel_rfl
def k10 : CFn := ⟨97, [(.t 4)], (sg ([
 ch 2 (.box (.t 0)),
 ch 3 (.box (.t 1)),
 cp 4 (.mov (.c (.bool false)))]) (sg ([
 ch 10 (.load true 3 (.t 2)),
 ch 11 (.load true 3 (.t 3)),
 ch 12 (.call 15 [(.t 10), (.t 11)]),
 cp 9 (.mov (.t 12)),
 cp 13 (.ext 0 (.t 9)),
 cp 14 (.ext 1 (.t 9)),
 ch 5 (.alloc [(.int .u8 0), (.int .i64 0), (.int .i64 0)]),
 cs 3 (.t 5) (.t 13),
 cp 6 (.mov (.t 14))]) (sg ([
 ch 15 (.load true 3 (.t 2)),
 ch 16 (.call 13 [(.t 15)]),
 cp 17 (.bin .eql (.t 16) (z 1)),
 cp 7 (.mov (.t 17))]) (sq (sg ([
 ch 18 (.load true 3 (.t 2)),
 ch 19 (.call 34 [(.t 18)]),
 cp 20 (.bin .eql (.t 19) (z 0)),
 cp 21 (.mov (.t 7)),
 cp 22 (.eqf true false [0] (.t 20) (.t 21)),
 cp 23 (.mov (.t 22)),
 gp 24 23 false (.mov (.t 7)),
 gp 25 23 false (.not (.t 24)),
 gp 26 23 false (.mov (.t 25)),
 gh 27 26 true (.load true 3 (.t 2)),
 gh 28 26 true (.call 34 [(.t 27)]),
 gp 29 26 true (.bin .neq (.t 28) (z 1)),
 gp 30 26 true (.mov (.t 29)),
 gh 31 30 false (.load true 3 (.t 2)),
 gh 32 30 false (.call 33 [(.t 31)]),
 gp 33 26 true (.pick (.t 30) (.c (.bool true)) (.t 32)),
 gp 34 23 false (.pick (.t 26) (.t 33) (.c (.bool false))),
 cp 35 (.pick (.t 23) (.c (.bool true)) (.t 34))]) (.cond (.t 35) (sg ([
 cp 4 (.mov (.c (.bool false)))]) .ret) .skip)) (sq (sg ([
 cp 36 (.mov (.t 7)),
 cp 37 (.not (.t 36)),
 cp 38 (.mov (.t 37)),
 gh 39 38 false (.load true 3 (.t 3)),
 gh 40 38 false (.call 13 [(.t 39)]),
 gp 41 38 false (.bin .eql (.t 40) (z 0)),
 cp 42 (.pick (.t 38) (.c (.bool true)) (.t 41))]) (.cond (.t 42) (sg ([
 cp 43 (.mov (.t 6)),
 cp 44 (.bin .eql (.t 43) (z 1)),
 cp 45 (.mov (.t 44)),
 gh 46 45 true (.load true 3 (.t 5)),
 gp 47 45 true (.build [(.int .u8 0), (.int .i64 0), (.int .i64 0)] []),
 gp 48 45 true (.eqf false true [1, 1, 1] (.t 46) (.t 47)),
 cp 49 (.pick (.t 45) (.t 48) (.c (.bool false))),
 cp 50 (.mov (.t 49)),
 gh 51 50 true (.call 14 []),
 cp 52 (.pick (.t 50) (.t 51) (.c (.bool false))),
 cp 4 (.mov (.t 52))]) .ret) .skip)) (sg ([
 ch 53 (.load true 3 (.t 2)),
 ch 54 (.load true 3 (.t 3)),
 ch 55 (.call 24 [(.t 53), (.t 54)]),
 ch 8 (.alloc [(.int .u8 0), (.int .i64 0), (.int .i64 0)]),
 cs 3 (.t 8) (.t 55)]) (sq (sg ([
 ch 56 (.load true 3 (.t 8)),
 ch 57 (.call 13 [(.t 56)]),
 cp 58 (.bin .eql (.t 57) (z 0))]) (.cond (.t 58) (sg ([
 cp 59 (.mov (.t 6)),
 cp 60 (.bin .eql (.t 59) (z 3)),
 cp 61 (.mov (.t 60)),
 gh 62 61 true (.load true 3 (.t 5)),
 gp 63 61 true (.build [(.int .u8 0), (.int .i64 0), (.int .i64 0)] []),
 gp 64 61 true (.eqf false true [1, 1, 1] (.t 62) (.t 63)),
 cp 65 (.pick (.t 61) (.t 64) (.c (.bool false))),
 cp 66 (.mov (.t 65)),
 gh 67 66 true (.call 14 []),
 cp 68 (.pick (.t 66) (.t 67) (.c (.bool false))),
 cp 4 (.mov (.t 68))]) .ret) .skip)) (sg ([
 cp 69 (.mov (.t 6)),
 cp 70 (.bin .eql (.t 69) (z 0)),
 cp 71 (.mov (.t 70)),
 ⟨some 72,(some (71, true)),.h (.load true 3 (.t 5)),true,[]⟩,
 ⟨some 73,(some (71, true)),.h (.load true 3 (.t 8)),true,[]⟩,
 gp 74 71 true (.eqf false true [1, 1, 1] (.t 72) (.t 73)),
 cp 75 (.pick (.t 71) (.t 74) (.c (.bool false))),
 cp 76 (.mov (.t 75)),
 ⟨some 77,(some (76, true)),.h (.load true 3 (.t 5)),true,[]⟩,
 ⟨some 78,(some (76, true)),.h (.call 33 [(.t 77)]),true,[]⟩,
 ⟨some 79,(some (76, true)),.h (.load true 3 (.t 2)),true,[]⟩,
 ⟨some 80,(some (76, true)),.h (.call 33 [(.t 79)]),true,[]⟩,
 ⟨some 81,(some (76, true)),.h (.load true 3 (.t 3)),true,[]⟩,
 gh 82 76 true (.call 33 [(.t 81)]),
 gp 83 76 true (.eqf true false [0] (.t 80) (.t 82)),
 gp 84 76 true (.eqf false false [0] (.t 78) (.t 83)),
 cp 85 (.pick (.t 76) (.t 84) (.c (.bool false))),
 cp 86 (.mov (.t 85)),
 ⟨some 87,(some (86, true)),.h (.load true 3 (.t 2)),true,[]⟩,
 ⟨some 88,(some (86, true)),.h (.call 33 [(.t 87)]),true,[]⟩,
 gp 89 86 true (.fad 0 (.t 2)),
 ⟨some 90,(some (86, true)),.h (.load false 1 (.t 89)),true,[]⟩,
 gp 91 86 true (.bin .gtr (.t 90) (.c (.int .u8 3))),
 gp 92 86 true (.eqf false false [0] (.t 88) (.t 91)),
 cp 93 (.pick (.t 86) (.t 92) (.c (.bool false))),
 cp 94 (.mov (.t 93)),
 gh 95 94 true (.call 14 []),
 cp 96 (.pick (.t 94) (.t 95) (.c (.bool false))),
 cp 4 (.mov (.t 96))]) .ret))))))))⟩
theorem k10_ok : cfn Tryd.prog gl Tryd.f10 = some k10 := by kernel_rfl
def k11 : CFn := ⟨124, [(.t 0)], (sg ([
 cp 0 (.mov (.c (.bool false)))]) (sg ([
 cp 1 (.mov (z 1))]) (sq (sg ([
 cp 2 (.mov (z 0))]) (.block 0 (.loop (sq (sg ([
 cp 9 (.mov (.t 2)),
 cp 10 (.bin .lss (.t 9) (z 48))]) (.cond (.t 10) .skip (.exit 0))) (sq (.block 1 (sg ([
 cp 13 (.mov (.t 2)),
 cp 14 (.cvi .u8 (.t 13)),
 cp 15 (.mov (.t 1)),
 cp 16 (.bin .rem (.t 15) (z 60)),
 cp 17 (.cvi .i8 (.t 16)),
 cp 18 (.mov (.t 1)),
 cp 19 (.bin .quo (.t 18) (z 5)),
 cp 20 (.neg (.t 19)),
 cp 21 (.bin .rem (.t 20) (z 60)),
 cp 22 (.cvi .i8 (.t 21)),
 cp 23 (.build [(.int .u8 0), (.int .i8 0), (.int .i8 0)] [(0, 1, (.t 14)), (1, 1, (.t 17)), (2, 1, (.t 22))]),
 ch 3 (.alloc [(.int .u8 0), (.int .i8 0), (.int .i8 0)]),
 cs 3 (.t 3) (.t 23)]) (sg ([
 cp 24 (.mov (.t 1)),
 cp 25 (.cvi .u8 (.t 24)),
 cp 26 (.mov (.t 2)),
 cp 27 (.cvi .i8 (.t 26)),
 cp 28 (.mov (.t 1)),
 cp 29 (.bin .rem (.t 28) (z 31)),
 cp 30 (.cvi .i8 (.t 29)),
 cp 31 (.build [(.int .u8 0), (.int .i8 0), (.int .i8 0)] [(0, 1, (.t 25)), (1, 1, (.t 27)), (2, 1, (.t 30))]),
 ch 4 (.alloc [(.int .u8 0), (.int .i8 0), (.int .i8 0)]),
 cs 3 (.t 4) (.t 31)]) (sg ([
 cp 32 (.mov (.t 2)),
 cp 33 (.cvi .u8 (.t 32)),
 cp 34 (.mov (.t 1)),
 cp 35 (.bin .rem (.t 34) (z 40)),
 cp 36 (.cvi .i8 (.t 35)),
 cp 37 (.build [(.int .u8 0), (.int .i8 0)] [(0, 1, (.t 33)), (1, 1, (.t 36))]),
 ch 38 (.call 35 [(.t 37)]),
 ch 5 (.alloc [(.int .u8 0), (.int .i64 0)]),
 cs 2 (.t 5) (.t 38)]) (sg ([
 cp 39 (.mov (.t 1)),
 cp 40 (.bin .rem (.t 39) (z 300)),
 cp 41 (.mov (.t 1)),
 cp 42 (.neg (.t 41)),
 cp 43 (.bin .rem (.t 42) (z 77)),
 cp 44 (.build [(.int .i64 0), (.int .i64 0)] [(0, 1, (.t 40)), (1, 1, (.t 43))]),
 ch 6 (.alloc [(.int .i64 0), (.int .i64 0)]),
 cs 2 (.t 6) (.t 44)]) (sq (sg ([
 ⟨some 45,none,.h (.load true 2 (.t 5)),true,[]⟩,
 cp 46 (.mov (.t 2)),
 cp 47 (.cvi .i8 (.t 46)),
 cp 48 (.mov (.t 1)),
 cp 49 (.bin .rem (.t 48) (z 90)),
 cp 50 (.cvi .i8 (.t 49)),
 ch 51 (.call 9 [(.t 45), (.t 47), (.t 50)]),
 cp 52 (.not (.t 51)),
 cp 53 (.mov (.t 52)),
 ⟨some 54,(some (53, false)),.h (.load true 3 (.t 3)),true,[]⟩,
 ⟨some 55,(some (53, false)),.h (.call 27 [(.t 54)]),true,[]⟩,
 ⟨some 56,(some (53, false)),.h (.load true 3 (.t 4)),true,[]⟩,
 gh 57 53 false (.call 27 [(.t 56)]),
 gh 58 53 false (.call 10 [(.t 55), (.t 57)]),
 gp 59 53 false (.not (.t 58)),
 cp 60 (.pick (.t 53) (.c (.bool true)) (.t 59)),
 cp 61 (.mov (.t 60)),
 ⟨some 62,(some (61, false)),.h (.load true 3 (.t 3)),true,[]⟩,
 gh 63 61 false (.call 27 [(.t 62)]),
 gh 64 61 false (.call 3 [(.t 63)]),
 gp 65 61 false (.not (.t 64)),
 cp 66 (.pick (.t 61) (.c (.bool true)) (.t 65)),
 cp 67 (.mov (.t 66)),
 ⟨some 68,(some (67, false)),.h (.load true 3 (.t 4)),true,[]⟩,
 ⟨some 69,(some (67, false)),.h (.call 27 [(.t 68)]),true,[]⟩,
 ⟨some 70,(some (67, false)),.h (.load true 2 (.t 6)),true,[]⟩,
 gh 71 67 false (.call 4 [(.t 69), (.t 70)]),
 gp 72 67 false (.not (.t 71)),
 cp 73 (.pick (.t 67) (.c (.bool true)) (.t 72)),
 cp 74 (.mov (.t 73)),
 ⟨some 75,(some (74, false)),.h (.load true 3 (.t 3)),true,[]⟩,
 ⟨some 76,(some (74, false)),.h (.call 27 [(.t 75)]),true,[]⟩,
 ⟨some 77,(some (74, false)),.h (.load true 2 (.t 5)),true,[]⟩,
 gh 78 74 false (.call 5 [(.t 76), (.t 77)]),
 gp 79 74 false (.not (.t 78)),
 cp 80 (.pick (.t 74) (.c (.bool true)) (.t 79)),
 cp 81 (.mov (.t 80)),
 ⟨some 82,(some (81, false)),.h (.load true 3 (.t 3)),true,[]⟩,
 ⟨some 83,(some (81, false)),.h (.load true 3 (.t 4)),true,[]⟩,
 ⟨some 84,(some (81, false)),.h (.load true 3 (.t 3)),true,[]⟩,
 gp 85 81 false (.build [(.int .u8 0), (.int .i8 0), (.int .i8 0), (.int .u8 0), (.int .i8 0), (.int .i8 0), (.int .u8 0), (.int .i8 0), (.int .i8 0)] [(0, 3, (.t 82)), (3, 3, (.t 83)), (6, 3, (.t 84))]),
 gp 86 81 false (.mov (.t 2)),
 gp 87 81 false (.cvi .i8 (.t 86)),
 gp 88 81 false (.build [(.int .i8 0), (.int .i8 0)] [(0, 1, (.t 87)), (1, 1, (.c (.int .i8 3)))]),
 gh 89 81 false (.call 6 [(.t 85), (.t 88)]),
 gp 90 81 false (.not (.t 89)),
 cp 91 (.pick (.t 81) (.c (.bool true)) (.t 90)),
 cp 92 (.mov (.t 91)),
 ⟨some 93,(some (92, false)),.h (.load true 3 (.t 3)),true,[]⟩,
 gh 94 92 false (.call 7 [(.t 93)]),
 gp 95 92 false (.not (.t 94)),
 cp 96 (.pick (.t 92) (.c (.bool true)) (.t 95))]) (.cond (.t 96) (sg ([
 cp 0 (.mov (.c (.bool false)))]) .ret) .skip)) (.region [
 cp 97 (.mov (.t 1)),
 cp 98 (.bin .mul (.t 97) (z 31)),
 cp 99 (.mov (.t 2)),
 cp 100 (.bin .mul (z 7) (.t 99)),
 cp 101 (.bin .add (.t 98) (.t 100)),
 cp 102 (.bin .add (.t 101) (z 11)),
 cp 103 (.bin .rem (.t 102) (z 100003)),
 cp 1 (.mov (.t 103))]))))))) (.region [
 cp 11 (.mov (.t 2)),
 cp 12 (.bin .add (.t 11) (z 1)),
 cp 2 (.mov (.t 12))])))))) (sg ([
 ch 104 (.bsl 1 14 [(.str []), (.str []), (.str []), (.str []), (.str []), (.str []), (.str []), (.str []), (.str []), (.str []), (.str []), (.str []), (.str []), (.str [])] [(0, 1, (.c (.str [48, 32, 48, 32, 48]))), (1, 1, (.c (.str [55, 32, 45, 51, 32, 51]))), (2, 1, (.c (.str [56, 32, 48, 32, 48]))), (3, 1, (.c (.str [48, 32, 49, 32, 48]))), (4, 1, (.c (.str [49, 32, 50, 32, 52, 32]))), (5, 1, (.c (.str [49, 32, 32, 50, 32, 52]))), (6, 1, (.c (.str [48, 49, 32, 50, 32, 52]))), (7, 1, (.c (.str [49, 32, 50]))), (8, 1, (.c (.str [49, 32, 43, 50, 32, 52]))), (9, 1, (.c (.str [49, 32, 45, 48, 32, 48]))), (10, 1, (.c (.str []))), (11, 1, (.c (.str [48, 32, 49, 54, 51, 56, 52, 32, 49, 54, 51, 56, 52]))), (12, 1, (.c (.str [48, 32, 49, 54, 51, 56, 54, 32, 48]))), (13, 1, (.c (.str [50, 53, 54, 32, 48, 32, 48])))]),
 cp 7 (.mov (.t 104))]) (sq (sg ([
 cp 8 (.mov (z 0))]) (.block 2 (.loop (sq (sg ([
 cp 105 (.mov (.t 8)),
 cp 106 (.mov (.t 7)),
 cp 107 (.len (.t 106)),
 cp 108 (.bin .lss (.t 105) (.t 107))]) (.cond (.t 108) .skip (.exit 2))) (sq (.block 3 (sg ([
 cp 111 (.mov (.t 8)),
 cp 112 (.cvi .u8 (.t 111)),
 cp 113 (.mov (.t 8)),
 cp 114 (.bin .sub (z 16390) (.t 113)),
 cp 115 (.mov (.t 8)),
 ⟨some 116,none,.h (.call 36 [(.t 112), (.t 114), (.t 115)]),true,[]⟩,
 cp 117 (.mov (.t 7)),
 cp 118 (.mov (.t 8)),
 cp 119 (.iadS 1 (.t 117) (.t 118)),
 ⟨some 120,none,.h (.load false 1 (.t 119)),true,[]⟩,
 ch 121 (.call 8 [(.t 116), (.t 120)]),
 cp 122 (.not (.t 121))]) (.cond (.t 122) (sg ([
 cp 0 (.mov (.c (.bool false)))]) .ret) .skip))) (.region [
 cp 109 (.mov (.t 8)),
 cp 110 (.bin .add (.t 109) (z 1)),
 cp 8 (.mov (.t 110))])))))) (sg ([
 ch 123 (.call 14 []),
 cp 0 (.mov (.t 123))]) .ret))))))⟩
theorem k11_ok : cfn Tryd.prog gl Tryd.f11 = some k11 := by kernel_rfl
def k12 : CFn := ⟨44, [(.cell 2 true 3), (.t 3)], (sg ([
 ch 1 (.box (.t 0)),
 ch 2 (.alloc [(.int .u8 0), (.int .i64 0), (.int .i64 0)]),
 cp 3 (.mov (z 0))]) (sq (sg ([
 ch 8 (.load true 3 (.t 1)),
 ch 9 (.call 34 [(.t 8)]),
 cp 10 (.bin .neq (.t 9) (z 0))]) (.cond (.t 10) (sg ([
 cp 11 (.build [(.int .u8 0), (.int .i64 0), (.int .i64 0)] []),
 cs 3 (.t 2) (.t 11),
 cp 3 (.mov (z 1))]) .ret) .skip)) (sg ([
 cp 12 (.fad 0 (.t 1)),
 ch 13 (.load false 1 (.t 12)),
 cp 14 (.iadA 8 4 (.c (.ptr 0 0)) (.t 13)),
 ch 15 (.load true 4 (.t 14)),
 ch 4 (.alloc [(.int .i64 0), (.int .i64 0), (.int .i64 0), (.int .i64 0)]),
 cs 4 (.t 4) (.t 15)]) (sg ([
 cp 16 (.fad 0 (.t 4)),
 ch 17 (.load false 1 (.t 16)),
 cp 18 (.fad 2 (.t 4)),
 ch 19 (.load false 1 (.t 18)),
 cp 20 (.fad 1 (.t 4)),
 ch 21 (.load false 1 (.t 20)),
 cp 22 (.fad 3 (.t 4)),
 ch 23 (.load false 1 (.t 22)),
 cp 24 (.build [(.int .i64 0), (.int .i64 0), (.int .i64 0), (.int .i64 0)] [(0, 1, (.t 17)), (1, 1, (.t 19)), (2, 1, (.t 21)), (3, 1, (.t 23))]),
 ch 5 (.alloc [(.int .i64 0), (.int .i64 0), (.int .i64 0), (.int .i64 0)]),
 cs 4 (.t 5) (.t 24)]) (sg ([
 ch 26 (.load true 4 (.t 5)),
 cp 27 (.fad 1 (.t 1)),
 ch 28 (.load false 1 (.t 27)),
 cp 29 (.neg (.t 28)),
 cp 30 (.fad 2 (.t 1)),
 ch 31 (.load false 1 (.t 30)),
 cp 32 (.neg (.t 31)),
 ch 33 (.call 37 [(.t 26), (.t 29), (.t 32)]),
 cp 25 (.mov (.t 33)),
 cp 34 (.ext 0 (.t 25)),
 cp 35 (.ext 1 (.t 25)),
 cp 6 (.mov (.t 34)),
 cp 7 (.mov (.t 35))]) (sg ([
 ch 36 (.load true 4 (.t 5)),
 ch 37 (.call 39 [(.t 36)]),
 cp 38 (.mov (.t 6)),
 cp 39 (.mov (.t 7)),
 cp 40 (.build [(.int .u8 0), (.int .i64 0), (.int .i64 0)] [(0, 1, (.t 37)), (1, 1, (.t 38)), (2, 1, (.t 39))]),
 ch 41 (.call 38 [(.t 40)]),
 cp 42 (.ext 0 (.t 41)),
 cp 43 (.ext 1 (.t 41)),
 cs 3 (.t 2) (.t 42),
 cp 3 (.mov (.t 43))]) .ret))))))⟩
theorem k12_ok : cfn Tryd.prog gl Tryd.f12 = some k12 := by kernel_rfl
def k13 : CFn := ⟨35, [(.t 2)], (sg ([
 ch 1 (.box (.t 0)),
 cp 2 (.mov (z 0))]) (sq (sg ([
 cp 3 (.fad 0 (.t 1)),
 ch 4 (.load false 1 (.t 3)),
 cp 5 (.bin .gtr (.t 4) (.c (.int .u8 7))),
 cp 6 (.mov (.t 5)),
 gp 7 6 false (.fad 1 (.t 1)),
 gh 8 6 false (.load false 1 (.t 7)),
 gp 9 6 false (.bin .lss (.t 8) (.c (.int .i64 (-16384)))),
 cp 10 (.pick (.t 6) (.c (.bool true)) (.t 9)),
 cp 11 (.mov (.t 10)),
 gp 12 11 false (.fad 1 (.t 1)),
 gh 13 11 false (.load false 1 (.t 12)),
 gp 14 11 false (.bin .gtr (.t 13) (z 16384)),
 cp 15 (.pick (.t 11) (.c (.bool true)) (.t 14)),
 cp 16 (.mov (.t 15)),
 gp 17 16 false (.fad 2 (.t 1)),
 gh 18 16 false (.load false 1 (.t 17)),
 gp 19 16 false (.bin .lss (.t 18) (.c (.int .i64 (-16384)))),
 cp 20 (.pick (.t 16) (.c (.bool true)) (.t 19)),
 cp 21 (.mov (.t 20)),
 gp 22 21 false (.fad 2 (.t 1)),
 gh 23 21 false (.load false 1 (.t 22)),
 gp 24 21 false (.bin .gtr (.t 23) (z 16384)),
 cp 25 (.pick (.t 21) (.c (.bool true)) (.t 24)),
 cp 26 (.mov (.t 25)),
 gp 27 26 false (.fad 1 (.t 1)),
 gh 28 26 false (.load false 1 (.t 27)),
 gp 29 26 false (.fad 2 (.t 1)),
 gh 30 26 false (.load false 1 (.t 29)),
 gp 31 26 false (.bin .sub (.t 28) (.t 30)),
 gp 32 26 false (.bin .rem (.t 31) (z 2)),
 gp 33 26 false (.bin .neq (.t 32) (z 0)),
 cp 34 (.pick (.t 26) (.c (.bool true)) (.t 33))]) (.cond (.t 34) (sg ([
 cp 2 (.mov (z 0))]) .ret) .skip)) (sg ([
 cp 2 (.mov (z 1))]) .ret)))⟩
theorem k13_ok : cfn Tryd.prog gl Tryd.f13 = some k13 := by kernel_rfl
def k14 : CFn := ⟨151, [(.t 0)], (sg ([
 cp 0 (.mov (.c (.bool false)))]) (sq (sg ([
 ch 19 (.call 40 [(.c (.int .u8 1)), (z 3)]),
 ch 20 (.call 36 [(.c (.int .u8 4)), (z 6), (z 0)]),
 cp 21 (.eqf true true [1, 1, 1] (.t 19) (.t 20)),
 cp 22 (.mov (.t 21)),
 gh 23 22 false (.call 40 [(.c (.int .u8 2)), (z 3)]),
 gh 24 22 false (.call 36 [(.c (.int .u8 6)), (z 0), (z 6)]),
 gp 25 22 false (.eqf true true [1, 1, 1] (.t 23) (.t 24)),
 cp 26 (.pick (.t 22) (.c (.bool true)) (.t 25)),
 cp 27 (.mov (.t 26)),
 gh 28 27 false (.call 40 [(.c (.int .u8 3)), (z 3)]),
 gh 29 27 false (.call 36 [(.c (.int .u8 5)), (z 3), (z 3)]),
 gp 30 27 false (.eqf true true [1, 1, 1] (.t 28) (.t 29)),
 cp 31 (.pick (.t 27) (.c (.bool true)) (.t 30)),
 cp 32 (.mov (.t 31)),
 gh 33 32 false (.call 40 [(.c (.int .u8 4)), (z 3)]),
 gh 34 32 false (.call 36 [(.c (.int .u8 7)), (.c (.int .i64 (-3))), (z 3)]),
 gp 35 32 false (.eqf true true [1, 1, 1] (.t 33) (.t 34)),
 cp 36 (.pick (.t 32) (.c (.bool true)) (.t 35))]) (.cond (.t 36) (sg ([
 cp 0 (.mov (.c (.bool false)))]) .ret) .skip)) (sg ([
 ch 38 (.call 40 [(.c (.int .u8 1)), (z 0)]),
 ch 39 (.call 40 [(.c (.int .u8 1)), (z 2)]),
 ch 40 (.call 15 [(.t 38), (.t 39)]),
 cp 37 (.mov (.t 40)),
 cp 41 (.ext 0 (.t 37)),
 cp 42 (.ext 1 (.t 37)),
 ch 1 (.alloc [(.int .u8 0), (.int .i64 0), (.int .i64 0)]),
 cs 3 (.t 1) (.t 41),
 cp 2 (.mov (.t 42))]) (sg ([
 ch 44 (.call 40 [(.c (.int .u8 1)), (z 0)]),
 ch 45 (.call 40 [(.c (.int .u8 2)), (z 0)]),
 ch 46 (.call 15 [(.t 44), (.t 45)]),
 cp 43 (.mov (.t 46)),
 cp 47 (.ext 0 (.t 43)),
 cp 48 (.ext 1 (.t 43)),
 ch 3 (.alloc [(.int .u8 0), (.int .i64 0), (.int .i64 0)]),
 cs 3 (.t 3) (.t 47),
 cp 4 (.mov (.t 48))]) (sg ([
 ch 50 (.call 40 [(.c (.int .u8 1)), (z 0)]),
 ch 51 (.call 40 [(.c (.int .u8 3)), (z 0)]),
 ch 52 (.call 15 [(.t 50), (.t 51)]),
 cp 49 (.mov (.t 52)),
 cp 53 (.ext 0 (.t 49)),
 cp 54 (.ext 1 (.t 49)),
 ch 5 (.alloc [(.int .u8 0), (.int .i64 0), (.int .i64 0)]),
 cs 3 (.t 5) (.t 53),
 cp 6 (.mov (.t 54))]) (sg ([
 ch 56 (.call 36 [(.c (.int .u8 1)), (z 2), (z 4)]),
 ch 57 (.call 12 [(.t 56)]),
 cp 55 (.mov (.t 57)),
 cp 58 (.ext 0 (.t 55)),
 cp 59 (.ext 1 (.t 55)),
 ch 7 (.alloc [(.int .u8 0), (.int .i64 0), (.int .i64 0)]),
 cs 3 (.t 7) (.t 58),
 cp 8 (.mov (.t 59))]) (sg ([
 ch 61 (.call 36 [(.c (.int .u8 1)), (z 2), (z 4)]),
 cp 62 (.build [(.int .i64 0), (.int .i64 0)] [(0, 1, (z 3)), (1, 1, (z 1))]),
 ch 63 (.call 18 [(.t 61), (.t 62)]),
 cp 60 (.mov (.t 63)),
 cp 64 (.ext 0 (.t 60)),
 cp 65 (.ext 1 (.t 60)),
 ch 9 (.alloc [(.int .i64 0), (.int .i64 0)]),
 cs 2 (.t 9) (.t 64),
 cp 10 (.mov (.t 65))]) (sg ([
 ch 67 (.call 36 [(.c (.int .u8 1)), (z 2), (z 4)]),
 cp 68 (.build [(.int .u8 0), (.int .i64 0)] [(0, 1, (.c (.int .u8 1))), (1, 1, (z 1))]),
 ch 69 (.call 21 [(.t 67), (.t 68)]),
 cp 66 (.mov (.t 69)),
 cp 70 (.ext 0 (.t 66)),
 cp 71 (.ext 1 (.t 66)),
 ch 11 (.alloc [(.int .u8 0), (.int .i64 0)]),
 cs 2 (.t 11) (.t 70),
 cp 12 (.mov (.t 71))]) (sg ([
 ch 73 (.call 36 [(.c (.int .u8 1)), (z 2), (z 4)]),
 cp 74 (.build [(.int .u8 0), (.int .i64 0)] [(0, 1, (.c (.int .u8 3))), (1, 1, (z 1))]),
 ch 75 (.call 21 [(.t 73), (.t 74)]),
 cp 72 (.mov (.t 75)),
 cp 76 (.ext 0 (.t 72)),
 cp 77 (.ext 1 (.t 72)),
 ch 13 (.alloc [(.int .u8 0), (.int .i64 0)]),
 cs 2 (.t 13) (.t 76),
 cp 14 (.mov (.t 77))]) (sg ([
 ch 79 (.call 30 [(.c (.str [48, 32, 49, 32, 48]))]),
 cp 78 (.mov (.t 79)),
 cp 80 (.ext 0 (.t 78)),
 cp 81 (.ext 1 (.t 78)),
 ch 15 (.alloc [(.int .u8 0), (.int .i64 0), (.int .i64 0)]),
 cs 3 (.t 15) (.t 80),
 cp 16 (.mov (.t 81))]) (sg ([
 ch 83 (.call 36 [(.c (.int .u8 0)), (z 16384), (z 0)]),
 ch 84 (.call 36 [(.c (.int .u8 0)), (z 2), (z 0)]),
 ch 85 (.call 15 [(.t 83), (.t 84)]),
 cp 82 (.mov (.t 85)),
 cp 86 (.ext 0 (.t 82)),
 cp 87 (.ext 1 (.t 82)),
 ch 17 (.alloc [(.int .u8 0), (.int .i64 0), (.int .i64 0)]),
 cs 3 (.t 17) (.t 86),
 cp 18 (.mov (.t 87))]) (sg ([
 ⟨some 88,none,.h (.load true 3 (.t 1)),true,[]⟩,
 ⟨some 89,none,.h (.call 36 [(.c (.int .u8 0)), (z 4), (z 0)]),true,[]⟩,
 cp 90 (.eqf false true [1, 1, 1] (.t 88) (.t 89)),
 cp 91 (.mov (.t 90)),
 ⟨some 92,(some (91, true)),.h (.load true 3 (.t 3)),true,[]⟩,
 ⟨some 93,(some (91, true)),.h (.call 36 [(.c (.int .u8 2)), (z 0), (z 0)]),true,[]⟩,
 gp 94 91 true (.eqf false true [1, 1, 1] (.t 92) (.t 93)),
 cp 95 (.pick (.t 91) (.t 94) (.c (.bool false))),
 cp 96 (.mov (.t 95)),
 ⟨some 97,(some (96, true)),.h (.load true 3 (.t 5)),true,[]⟩,
 ⟨some 98,(some (96, true)),.h (.call 36 [(.c (.int .u8 1)), (z 0), (z 0)]),true,[]⟩,
 gp 99 96 true (.eqf false true [1, 1, 1] (.t 97) (.t 98)),
 cp 100 (.pick (.t 96) (.t 99) (.c (.bool false))),
 cp 101 (.mov (.t 100)),
 ⟨some 102,(some (101, true)),.h (.load true 3 (.t 7)),true,[]⟩,
 ⟨some 103,(some (101, true)),.h (.call 36 [(.c (.int .u8 3)), (.c (.int .i64 (-4))), (z 2)]),true,[]⟩,
 gp 104 101 true (.eqf false true [1, 1, 1] (.t 102) (.t 103)),
 cp 105 (.pick (.t 101) (.t 104) (.c (.bool false))),
 cp 106 (.mov (.t 105)),
 ⟨some 107,(some (106, true)),.h (.load true 2 (.t 9)),true,[]⟩,
 gp 108 106 true (.build [(.int .i64 0), (.int .i64 0)] [(0, 1, (z 3)), (1, 1, (z 11))]),
 gp 109 106 true (.eqf false true [1, 1] (.t 107) (.t 108)),
 cp 110 (.pick (.t 106) (.t 109) (.c (.bool false))),
 cp 111 (.mov (.t 110)),
 gp 112 111 true (.mov (.t 10)),
 gp 113 111 true (.bin .eql (.t 112) (z 0)),
 cp 114 (.pick (.t 111) (.t 113) (.c (.bool false))),
 cp 115 (.mov (.t 114)),
 ⟨some 116,(some (115, true)),.h (.load true 2 (.t 11)),true,[]⟩,
 gp 117 115 true (.build [(.int .u8 0), (.int .i64 0)] [(0, 1, (.c (.int .u8 2))), (1, 1, (z 5))]),
 gp 118 115 true (.eqf false true [1, 1] (.t 116) (.t 117)),
 cp 119 (.pick (.t 115) (.t 118) (.c (.bool false))),
 cp 120 (.mov (.t 119)),
 gp 121 120 true (.mov (.t 12)),
 gp 122 120 true (.bin .eql (.t 121) (z 0)),
 cp 123 (.pick (.t 120) (.t 122) (.c (.bool false))),
 cp 124 (.mov (.t 123)),
 ⟨some 125,(some (124, true)),.h (.load true 2 (.t 13)),true,[]⟩,
 gp 126 124 true (.build [(.int .u8 0), (.int .i64 0)] [(0, 1, (.c (.int .u8 4))), (1, 1, (z 3))]),
 gp 127 124 true (.eqf false true [1, 1] (.t 125) (.t 126)),
 cp 128 (.pick (.t 124) (.t 127) (.c (.bool false))),
 cp 129 (.mov (.t 128)),
 gp 130 129 true (.mov (.t 14)),
 gp 131 129 true (.bin .eql (.t 130) (z 0)),
 cp 132 (.pick (.t 129) (.t 131) (.c (.bool false))),
 cp 133 (.mov (.t 132)),
 gh 134 133 true (.call 36 [(.c (.int .u8 0)), (z 1), (z 0)]),
 gh 135 133 true (.call 34 [(.t 134)]),
 gp 136 133 true (.bin .eql (.t 135) (z 1)),
 cp 137 (.pick (.t 133) (.t 136) (.c (.bool false))),
 cp 138 (.mov (.t 137)),
 gp 139 138 true (.mov (.t 16)),
 gp 140 138 true (.bin .eql (.t 139) (z 4)),
 cp 141 (.pick (.t 138) (.t 140) (.c (.bool false))),
 cp 142 (.mov (.t 141)),
 gp 143 142 true (.mov (.t 18)),
 gp 144 142 true (.bin .eql (.t 143) (z 3)),
 cp 145 (.pick (.t 142) (.t 144) (.c (.bool false))),
 cp 146 (.mov (.t 145)),
 gh 147 146 true (.call 17 []),
 gh 148 146 true (.call 36 [(.c (.int .u8 0)), (z 0), (z 0)]),
 gp 149 146 true (.eqf false true [1, 1, 1] (.t 147) (.t 148)),
 cp 150 (.pick (.t 146) (.t 149) (.c (.bool false))),
 cp 0 (.mov (.t 150))]) .ret))))))))))))⟩
theorem k14_ok : cfn Tryd.prog gl Tryd.f14 = some k14 := by kernel_rfl
def k15 : CFn := ⟨51, [(.cell 4 true 3), (.t 5)], (sg ([
 ch 2 (.box (.t 0)),
 ch 3 (.box (.t 1)),
 ch 4 (.alloc [(.int .u8 0), (.int .i64 0), (.int .i64 0)]),
 cp 5 (.mov (z 0))]) (sq (sg ([
 ch 8 (.load true 3 (.t 2)),
 ch 9 (.call 34 [(.t 8)]),
 cp 10 (.bin .neq (.t 9) (z 0)),
 cp 11 (.mov (.t 10)),
 gh 12 11 false (.load true 3 (.t 3)),
 gh 13 11 false (.call 34 [(.t 12)]),
 gp 14 11 false (.bin .neq (.t 13) (z 0)),
 cp 15 (.pick (.t 11) (.c (.bool true)) (.t 14))]) (.cond (.t 15) (sg ([
 cp 16 (.build [(.int .u8 0), (.int .i64 0), (.int .i64 0)] []),
 cs 3 (.t 4) (.t 16),
 cp 5 (.mov (z 1))]) .ret) .skip)) (sg ([
 cp 18 (.fad 0 (.t 3)),
 ⟨some 19,none,.h (.load false 1 (.t 18)),true,[]⟩,
 cp 20 (.iadA 8 4 (.c (.ptr 0 0)) (.t 19)),
 ⟨some 21,none,.h (.load true 4 (.t 20)),true,[]⟩,
 cp 22 (.fad 1 (.t 2)),
 ⟨some 23,none,.h (.load false 1 (.t 22)),true,[]⟩,
 cp 24 (.fad 2 (.t 2)),
 ⟨some 25,none,.h (.load false 1 (.t 24)),true,[]⟩,
 ch 26 (.call 37 [(.t 21), (.t 23), (.t 25)]),
 cp 17 (.mov (.t 26)),
 cp 27 (.ext 0 (.t 17)),
 cp 28 (.ext 1 (.t 17)),
 cp 6 (.mov (.t 27)),
 cp 7 (.mov (.t 28))]) (sg ([
 cp 29 (.fad 0 (.t 2)),
 ⟨some 30,none,.h (.load false 1 (.t 29)),true,[]⟩,
 cp 31 (.iadA 8 4 (.c (.ptr 0 0)) (.t 30)),
 ⟨some 32,none,.h (.load true 4 (.t 31)),true,[]⟩,
 cp 33 (.fad 0 (.t 3)),
 ⟨some 34,none,.h (.load false 1 (.t 33)),true,[]⟩,
 cp 35 (.iadA 8 4 (.c (.ptr 0 0)) (.t 34)),
 ⟨some 36,none,.h (.load true 4 (.t 35)),true,[]⟩,
 ⟨some 37,none,.h (.call 41 [(.t 32), (.t 36)]),true,[]⟩,
 ⟨some 38,none,.h (.call 39 [(.t 37)]),true,[]⟩,
 cp 39 (.mov (.t 6)),
 cp 40 (.fad 1 (.t 3)),
 ⟨some 41,none,.h (.load false 1 (.t 40)),true,[]⟩,
 cp 42 (.bin .add (.t 39) (.t 41)),
 cp 43 (.mov (.t 7)),
 cp 44 (.fad 2 (.t 3)),
 ⟨some 45,none,.h (.load false 1 (.t 44)),true,[]⟩,
 cp 46 (.bin .add (.t 43) (.t 45)),
 cp 47 (.build [(.int .u8 0), (.int .i64 0), (.int .i64 0)] [(0, 1, (.t 38)), (1, 1, (.t 42)), (2, 1, (.t 46))]),
 ch 48 (.call 38 [(.t 47)]),
 cp 49 (.ext 0 (.t 48)),
 cp 50 (.ext 1 (.t 48)),
 cs 3 (.t 4) (.t 49),
 cp 5 (.mov (.t 50))]) .ret))))⟩
theorem k15_ok : cfn Tryd.prog gl Tryd.f15 = some k15 := by kernel_rfl
def k16 : CFn := ⟨33, [(.cell 2 true 3)], (sg ([
 ch 1 (.box (.t 0)),
 ch 2 (.alloc [(.int .u8 0), (.int .i64 0), (.int .i64 0)])]) (sq (sg ([
 cp 3 (.mov (.c (.int .u8 0)))]) (.block 0 (.loop (sq (sg ([
 cp 6 (.mov (.t 3)),
 cp 7 (.bin .lss (.t 6) (.c (.int .u8 8)))]) (.cond (.t 7) .skip (.exit 0))) (sq (.block 1 (sg ([
 cp 10 (.mov (.t 3)),
 cp 11 (.build [(.int .u8 0), (.int .i64 0), (.int .i64 0)] [(0, 1, (.t 10))]),
 cp 12 (.fad 1 (.t 1)),
 ch 13 (.load false 1 (.t 12)),
 cp 14 (.fad 2 (.t 1)),
 ch 15 (.load false 1 (.t 14)),
 cp 16 (.build [(.int .i64 0), (.int .i64 0)] [(0, 1, (.t 13)), (1, 1, (.t 15))]),
 ch 17 (.call 20 [(.t 11), (.t 16)]),
 ch 4 (.alloc [(.int .i64 0), (.int .i64 0)]),
 cs 2 (.t 4) (.t 17)]) (sg ([
 cp 18 (.mov (.t 3)),
 cp 19 (.fad 0 (.t 4)),
 ch 20 (.load false 1 (.t 19)),
 cp 21 (.neg (.t 20)),
 cp 22 (.fad 1 (.t 4)),
 ch 23 (.load false 1 (.t 22)),
 cp 24 (.neg (.t 23)),
 cp 25 (.build [(.int .u8 0), (.int .i64 0), (.int .i64 0)] [(0, 1, (.t 18)), (1, 1, (.t 21)), (2, 1, (.t 24))]),
 ch 5 (.alloc [(.int .u8 0), (.int .i64 0), (.int .i64 0)]),
 cs 3 (.t 5) (.t 25)]) (sg ([
 ch 26 (.load true 3 (.t 1)),
 ch 27 (.load true 3 (.t 5)),
 ch 28 (.call 24 [(.t 26), (.t 27)]),
 cp 29 (.build [(.int .u8 0), (.int .i64 0), (.int .i64 0)] []),
 cp 30 (.eqf false true [1, 1, 1] (.t 28) (.t 29))]) (.cond (.t 30) (sg ([
 ch 31 (.load true 3 (.t 5)),
 cs 3 (.t 2) (.t 31)]) .ret) .skip))))) (.region [
 cp 8 (.mov (.t 3)),
 cp 9 (.bin .add (.t 8) (.c (.int .u8 1))),
 cp 3 (.mov (.t 9))])))))) (sg ([
 cp 32 (.build [(.int .u8 0), (.int .i64 0), (.int .i64 0)] [(0, 1, (.c (.int .u8 8)))]),
 cs 3 (.t 2) (.t 32)]) .ret)))⟩
theorem k16_ok : cfn Tryd.prog gl Tryd.f16 = some k16 := by kernel_rfl
def k17 : CFn := ⟨2, [(.cell 0 true 3)], (sg ([
 ch 0 (.alloc [(.int .u8 0), (.int .i64 0), (.int .i64 0)])]) (sg ([
 cp 1 (.build [(.int .u8 0), (.int .i64 0), (.int .i64 0)] []),
 cs 3 (.t 0) (.t 1)]) .ret))⟩
theorem k17_ok : cfn Tryd.prog gl Tryd.f17 = some k17 := by kernel_rfl
def k18 : CFn := ⟨46, [(.cell 4 true 2), (.t 5)], (sg ([
 ch 2 (.box (.t 0)),
 ch 3 (.box (.t 1)),
 ch 4 (.alloc [(.int .i64 0), (.int .i64 0)]),
 cp 5 (.mov (z 0))]) (sq (sg ([
 ch 9 (.load true 3 (.t 2)),
 ch 10 (.call 34 [(.t 9)]),
 cp 11 (.bin .neq (.t 10) (z 0)),
 cp 12 (.mov (.t 11)),
 gh 13 12 false (.load true 2 (.t 3)),
 gh 14 12 false (.call 42 [(.t 13)]),
 gp 15 12 false (.bin .neq (.t 14) (z 0)),
 cp 16 (.pick (.t 12) (.c (.bool true)) (.t 15))]) (.cond (.t 16) (sg ([
 cp 17 (.build [(.int .i64 0), (.int .i64 0)] []),
 cs 2 (.t 4) (.t 17),
 cp 5 (.mov (z 1))]) .ret) .skip)) (sg ([
 cp 19 (.fad 0 (.t 2)),
 ⟨some 20,none,.h (.load false 1 (.t 19)),true,[]⟩,
 cp 21 (.iadA 8 4 (.c (.ptr 0 0)) (.t 20)),
 ⟨some 22,none,.h (.load true 4 (.t 21)),true,[]⟩,
 cp 23 (.fad 0 (.t 3)),
 ⟨some 24,none,.h (.load false 1 (.t 23)),true,[]⟩,
 cp 25 (.fad 1 (.t 3)),
 ⟨some 26,none,.h (.load false 1 (.t 25)),true,[]⟩,
 ch 27 (.call 37 [(.t 22), (.t 24), (.t 26)]),
 cp 18 (.mov (.t 27)),
 cp 28 (.ext 0 (.t 18)),
 cp 29 (.ext 1 (.t 18)),
 cp 6 (.mov (.t 28)),
 cp 7 (.mov (.t 29))]) (sg ([
 cp 30 (.mov (.t 6)),
 cp 31 (.fad 1 (.t 2)),
 ch 32 (.load false 1 (.t 31)),
 cp 33 (.bin .mul (z 2) (.t 32)),
 cp 34 (.bin .add (.t 30) (.t 33)),
 cp 35 (.mov (.t 7)),
 cp 36 (.fad 2 (.t 2)),
 ch 37 (.load false 1 (.t 36)),
 cp 38 (.bin .mul (z 2) (.t 37)),
 cp 39 (.bin .add (.t 35) (.t 38)),
 cp 40 (.build [(.int .i64 0), (.int .i64 0)] [(0, 1, (.t 34)), (1, 1, (.t 39))]),
 ch 8 (.alloc [(.int .i64 0), (.int .i64 0)]),
 cs 2 (.t 8) (.t 40)]) (sq (sg ([
 ch 41 (.load true 2 (.t 8)),
 ch 42 (.call 42 [(.t 41)]),
 cp 43 (.bin .neq (.t 42) (z 0))]) (.cond (.t 43) (sg ([
 cp 44 (.build [(.int .i64 0), (.int .i64 0)] []),
 cs 2 (.t 4) (.t 44),
 cp 5 (.mov (z 3))]) .ret) .skip)) (sg ([
 ch 45 (.load true 2 (.t 8)),
 cs 2 (.t 4) (.t 45),
 cp 5 (.mov (z 0))]) .ret))))))⟩
theorem k18_ok : cfn Tryd.prog gl Tryd.f18 = some k18 := by kernel_rfl
def k19 : CFn := ⟨21, [(.t 2)], (sg ([
 ch 1 (.box (.t 0)),
 cp 2 (.mov (z 0))]) (sq (sg ([
 cp 3 (.fad 0 (.t 1)),
 ch 4 (.load false 1 (.t 3)),
 cp 5 (.bin .geq (.t 4) (.c (.int .i64 (-65536)))),
 cp 6 (.mov (.t 5)),
 gp 7 6 true (.fad 0 (.t 1)),
 gh 8 6 true (.load false 1 (.t 7)),
 gp 9 6 true (.bin .leq (.t 8) (z 65536)),
 cp 10 (.pick (.t 6) (.t 9) (.c (.bool false))),
 cp 11 (.mov (.t 10)),
 gp 12 11 true (.fad 1 (.t 1)),
 gh 13 11 true (.load false 1 (.t 12)),
 gp 14 11 true (.bin .geq (.t 13) (.c (.int .i64 (-65536)))),
 cp 15 (.pick (.t 11) (.t 14) (.c (.bool false))),
 cp 16 (.mov (.t 15)),
 gp 17 16 true (.fad 1 (.t 1)),
 gh 18 16 true (.load false 1 (.t 17)),
 gp 19 16 true (.bin .leq (.t 18) (z 65536)),
 cp 20 (.pick (.t 16) (.t 19) (.c (.bool false)))]) (.cond (.t 20) (sg ([
 cp 2 (.mov (z 1))]) .ret) .skip)) (sg ([
 cp 2 (.mov (z 0))]) .ret)))⟩
theorem k19_ok : cfn Tryd.prog gl Tryd.f19 = some k19 := by kernel_rfl
def k20 : CFn := ⟨79, [(.cell 4 true 2)], (sg ([
 ch 2 (.box (.t 0)),
 ch 3 (.box (.t 1)),
 ch 4 (.alloc [(.int .i64 0), (.int .i64 0)])]) (sg ([
 cp 7 (.fad 0 (.t 3)),
 ⟨some 8,none,.h (.load false 1 (.t 7)),true,[]⟩,
 cp 9 (.fad 1 (.t 3)),
 ⟨some 10,none,.h (.load false 1 (.t 9)),true,[]⟩,
 cp 5 (.mov (.t 8)),
 cp 6 (.mov (.t 10))]) (sq (sg ([
 cp 11 (.fad 0 (.t 2)),
 ch 12 (.load false 1 (.t 11)),
 cp 13 (.bin .eql (.t 12) (.c (.int .u8 1)))]) (.cond (.t 13) (.region [
 cp 14 (.fad 1 (.t 3)),
 ⟨some 15,none,.h (.load false 1 (.t 14)),true,[]⟩,
 cp 16 (.neg (.t 15)),
 cp 17 (.fad 0 (.t 3)),
 ⟨some 18,none,.h (.load false 1 (.t 17)),true,[]⟩,
 cp 5 (.mov (.t 16)),
 cp 6 (.mov (.t 18))]) .skip)) (sq (sg ([
 cp 19 (.fad 0 (.t 2)),
 ch 20 (.load false 1 (.t 19)),
 cp 21 (.bin .eql (.t 20) (.c (.int .u8 2)))]) (.cond (.t 21) (.region [
 cp 22 (.fad 0 (.t 3)),
 ⟨some 23,none,.h (.load false 1 (.t 22)),true,[]⟩,
 cp 24 (.neg (.t 23)),
 cp 25 (.fad 1 (.t 3)),
 ⟨some 26,none,.h (.load false 1 (.t 25)),true,[]⟩,
 cp 27 (.neg (.t 26)),
 cp 5 (.mov (.t 24)),
 cp 6 (.mov (.t 27))]) .skip)) (sq (sg ([
 cp 28 (.fad 0 (.t 2)),
 ch 29 (.load false 1 (.t 28)),
 cp 30 (.bin .eql (.t 29) (.c (.int .u8 3)))]) (.cond (.t 30) (.region [
 cp 31 (.fad 1 (.t 3)),
 ⟨some 32,none,.h (.load false 1 (.t 31)),true,[]⟩,
 cp 33 (.fad 0 (.t 3)),
 ⟨some 34,none,.h (.load false 1 (.t 33)),true,[]⟩,
 cp 35 (.neg (.t 34)),
 cp 5 (.mov (.t 32)),
 cp 6 (.mov (.t 35))]) .skip)) (sq (sg ([
 cp 36 (.fad 0 (.t 2)),
 ch 37 (.load false 1 (.t 36)),
 cp 38 (.bin .eql (.t 37) (.c (.int .u8 4)))]) (.cond (.t 38) (.region [
 cp 39 (.fad 0 (.t 3)),
 ⟨some 40,none,.h (.load false 1 (.t 39)),true,[]⟩,
 cp 41 (.neg (.t 40)),
 cp 42 (.fad 1 (.t 3)),
 ⟨some 43,none,.h (.load false 1 (.t 42)),true,[]⟩,
 cp 5 (.mov (.t 41)),
 cp 6 (.mov (.t 43))]) .skip)) (sq (sg ([
 cp 44 (.fad 0 (.t 2)),
 ch 45 (.load false 1 (.t 44)),
 cp 46 (.bin .eql (.t 45) (.c (.int .u8 5)))]) (.cond (.t 46) (.region [
 cp 47 (.fad 1 (.t 3)),
 ⟨some 48,none,.h (.load false 1 (.t 47)),true,[]⟩,
 cp 49 (.neg (.t 48)),
 cp 50 (.fad 0 (.t 3)),
 ⟨some 51,none,.h (.load false 1 (.t 50)),true,[]⟩,
 cp 52 (.neg (.t 51)),
 cp 5 (.mov (.t 49)),
 cp 6 (.mov (.t 52))]) .skip)) (sq (sg ([
 cp 53 (.fad 0 (.t 2)),
 ch 54 (.load false 1 (.t 53)),
 cp 55 (.bin .eql (.t 54) (.c (.int .u8 6)))]) (.cond (.t 55) (.region [
 cp 56 (.fad 0 (.t 3)),
 ⟨some 57,none,.h (.load false 1 (.t 56)),true,[]⟩,
 cp 58 (.fad 1 (.t 3)),
 ⟨some 59,none,.h (.load false 1 (.t 58)),true,[]⟩,
 cp 60 (.neg (.t 59)),
 cp 5 (.mov (.t 57)),
 cp 6 (.mov (.t 60))]) .skip)) (sq (sg ([
 cp 61 (.fad 0 (.t 2)),
 ch 62 (.load false 1 (.t 61)),
 cp 63 (.bin .eql (.t 62) (.c (.int .u8 7)))]) (.cond (.t 63) (.region [
 cp 64 (.fad 1 (.t 3)),
 ⟨some 65,none,.h (.load false 1 (.t 64)),true,[]⟩,
 cp 66 (.fad 0 (.t 3)),
 ⟨some 67,none,.h (.load false 1 (.t 66)),true,[]⟩,
 cp 5 (.mov (.t 65)),
 cp 6 (.mov (.t 67))]) .skip)) (sg ([
 cp 68 (.mov (.t 5)),
 cp 69 (.fad 1 (.t 2)),
 ch 70 (.load false 1 (.t 69)),
 cp 71 (.bin .mul (z 2) (.t 70)),
 cp 72 (.bin .add (.t 68) (.t 71)),
 cp 73 (.mov (.t 6)),
 cp 74 (.fad 2 (.t 2)),
 ch 75 (.load false 1 (.t 74)),
 cp 76 (.bin .mul (z 2) (.t 75)),
 cp 77 (.bin .add (.t 73) (.t 76)),
 cp 78 (.build [(.int .i64 0), (.int .i64 0)] [(0, 1, (.t 72)), (1, 1, (.t 77))]),
 cs 2 (.t 4) (.t 78)]) .ret))))))))))⟩
theorem k20_ok : cfn Tryd.prog gl Tryd.f20 = some k20 := by kernel_rfl
def k21 : CFn := ⟨89, [(.cell 4 true 2), (.t 5)], (sg ([
 ch 2 (.box (.t 0)),
 ch 3 (.box (.t 1)),
 ch 4 (.alloc [(.int .u8 0), (.int .i64 0)]),
 cp 5 (.mov (z 0))]) (sq (sg ([
 ch 15 (.load true 3 (.t 2)),
 ch 16 (.call 34 [(.t 15)]),
 cp 17 (.bin .neq (.t 16) (z 0)),
 cp 18 (.mov (.t 17)),
 gh 19 18 false (.load true 2 (.t 3)),
 gh 20 18 false (.call 28 [(.t 19)]),
 gp 21 18 false (.bin .neq (.t 20) (z 0)),
 cp 22 (.pick (.t 18) (.c (.bool true)) (.t 21))]) (.cond (.t 22) (sg ([
 cp 23 (.build [(.int .u8 0), (.int .i64 0)] []),
 cs 2 (.t 4) (.t 23),
 cp 5 (.mov (z 1))]) .ret) .skip)) (sg ([
 cp 24 (.fad 0 (.t 2)),
 ch 25 (.load false 1 (.t 24)),
 cp 26 (.iadA 8 4 (.c (.ptr 0 0)) (.t 25)),
 ch 27 (.load true 4 (.t 26)),
 cp 28 (.mkfn (.func 37) [(.t 27)] []),
 cp 6 (.mov (.t 28))]) (sg ([
 cp 30 (.mov (.t 6)),
 cp 31 (.fad 0 (.t 3)),
 ch 32 (.load false 1 (.t 31)),
 ch 33 (.call 43 [(.t 32)]),
 cp 34 (.ext 0 (.t 33)),
 cp 35 (.ext 1 (.t 33)),
 ch 36 (.calld (.t 30) [(.t 34), (.t 35)]),
 cp 29 (.mov (.t 36)),
 cp 37 (.ext 0 (.t 29)),
 cp 38 (.ext 1 (.t 29)),
 cp 7 (.mov (.t 37)),
 cp 8 (.mov (.t 38))]) (sq (sg ([
 cp 9 (.mov (.c (.int .u8 1)))]) (.block 0 (.loop (sq (sg ([
 cp 39 (.mov (.t 9)),
 cp 40 (.bin .leq (.t 39) (.c (.int .u8 4)))]) (.cond (.t 40) .skip (.exit 0))) (sq (.block 1 (sg ([
 cp 44 (.mov (.t 9)),
 ch 45 (.call 43 [(.t 44)]),
 cp 43 (.mov (.t 45)),
 cp 46 (.ext 0 (.t 43)),
 cp 47 (.ext 1 (.t 43)),
 cp 10 (.mov (.t 46)),
 cp 11 (.mov (.t 47))]) (sg ([
 ch 48 (.bsl 1 2 [(.int .i64 0), (.int .i64 0)] [(0, 1, (z 1)), (1, 1, (.c (.int .i64 (-1))))]),
 cp 49 (.len (.t 48)),
 cp 50 (.mov (z 0))]) (.block 2 (.loop (sg ([
 cp 51 (.bin .lss (.t 50) (.t 49))]) (sq (.cond (.t 51) .skip (.exit 2)) (sq (.block 3 (sg ([
 cp 52 (.iadS 1 (.t 48) (.t 50)),
 ch 53 (.load false 1 (.t 52)),
 cp 13 (.mov (.t 53))]) (sg ([
 cp 54 (.mov (.t 7)),
 cp 55 (.mov (.t 13)),
 cp 56 (.mov (.t 10)),
 cp 57 (.bin .mul (.t 55) (.t 56)),
 cp 58 (.bin .eql (.t 54) (.t 57)),
 cp 59 (.mov (.t 58)),
 gp 60 59 true (.mov (.t 8)),
 gp 61 59 true (.mov (.t 13)),
 gp 62 59 true (.mov (.t 11)),
 gp 63 59 true (.bin .mul (.t 61) (.t 62)),
 gp 64 59 true (.bin .eql (.t 60) (.t 63)),
 cp 65 (.pick (.t 59) (.t 64) (.c (.bool false)))]) (.cond (.t 65) (sg ([
 cp 66 (.mov (.t 9)),
 cp 67 (.mov (.t 13)),
 cp 68 (.fad 1 (.t 3)),
 ch 69 (.load false 1 (.t 68)),
 cp 70 (.bin .mul (.t 67) (.t 69)),
 cp 71 (.mov (.t 10)),
 cp 72 (.fad 1 (.t 2)),
 ch 73 (.load false 1 (.t 72)),
 cp 74 (.bin .mul (.t 71) (.t 73)),
 cp 75 (.bin .add (.t 70) (.t 74)),
 cp 76 (.mov (.t 11)),
 cp 77 (.fad 2 (.t 2)),
 ch 78 (.load false 1 (.t 77)),
 cp 79 (.bin .mul (.t 76) (.t 78)),
 cp 80 (.bin .add (.t 75) (.t 79)),
 cp 81 (.build [(.int .u8 0), (.int .i64 0)] [(0, 1, (.t 66)), (1, 1, (.t 80))]),
 ch 14 (.alloc [(.int .u8 0), (.int .i64 0)]),
 cs 2 (.t 14) (.t 81)]) (sq (sg ([
 ch 82 (.load true 2 (.t 14)),
 ch 83 (.call 28 [(.t 82)]),
 cp 84 (.bin .neq (.t 83) (z 0))]) (.cond (.t 84) (sg ([
 cp 85 (.build [(.int .u8 0), (.int .i64 0)] []),
 cs 2 (.t 4) (.t 85),
 cp 5 (.mov (z 3))]) .ret) .skip)) (sg ([
 ch 86 (.load true 2 (.t 14)),
 cs 2 (.t 4) (.t 86),
 cp 5 (.mov (z 0))]) .ret))) .skip)))) (.region [
 cp 87 (.bin .add (.t 50) (z 1)),
 cp 50 (.mov (.t 87))]))))))))) (.region [
 cp 41 (.mov (.t 9)),
 cp 42 (.bin .add (.t 41) (.c (.int .u8 1))),
 cp 9 (.mov (.t 42))])))))) (sg ([
 cp 88 (.build [(.int .u8 0), (.int .i64 0)] []),
 cs 2 (.t 4) (.t 88),
 cp 5 (.mov (z 3))]) .ret))))))⟩
theorem k21_ok : cfn Tryd.prog gl Tryd.f21 = some k21 := by kernel_rfl
def k22 : CFn := ⟨21, [(.t 2)], (sg ([
 ch 1 (.box (.t 0)),
 cp 2 (.mov (z 0))]) (sq (sg ([
 cp 3 (.fad 0 (.t 1)),
 ch 4 (.load false 1 (.t 3)),
 cp 5 (.bin .geq (.t 4) (.c (.int .u8 1))),
 cp 6 (.mov (.t 5)),
 gp 7 6 true (.fad 0 (.t 1)),
 gh 8 6 true (.load false 1 (.t 7)),
 gp 9 6 true (.bin .leq (.t 8) (.c (.int .u8 4))),
 cp 10 (.pick (.t 6) (.t 9) (.c (.bool false))),
 cp 11 (.mov (.t 10)),
 gp 12 11 true (.fad 1 (.t 1)),
 gh 13 11 true (.load false 1 (.t 12)),
 gp 14 11 true (.bin .geq (.t 13) (.c (.int .i64 (-4096)))),
 cp 15 (.pick (.t 11) (.t 14) (.c (.bool false))),
 cp 16 (.mov (.t 15)),
 gp 17 16 true (.fad 1 (.t 1)),
 gh 18 16 true (.load false 1 (.t 17)),
 gp 19 16 true (.bin .leq (.t 18) (z 4096)),
 cp 20 (.pick (.t 16) (.t 19) (.c (.bool false)))]) (.cond (.t 20) (sg ([
 cp 2 (.mov (z 1))]) .ret) .skip)) (sg ([
 cp 2 (.mov (z 0))]) .ret)))⟩
theorem k22_ok : cfn Tryd.prog gl Tryd.f22 = some k22 := by kernel_rfl
def k23 : CFn := ⟨65, [(.cell 4 true 2)], (sg ([
 ch 2 (.box (.t 0)),
 ch 3 (.box (.t 1)),
 ch 4 (.alloc [(.int .u8 0), (.int .i64 0)])]) (sg ([
 ch 14 (.load true 2 (.t 3)),
 ch 15 (.call 44 [(.t 14)]),
 cp 13 (.mov (.t 15)),
 cp 16 (.ext 0 (.t 13)),
 cp 17 (.ext 1 (.t 13)),
 ch 5 (.alloc [(.int .i64 0), (.int .i64 0)]),
 ch 6 (.alloc [(.int .i64 0), (.int .i64 0)]),
 cs 2 (.t 5) (.t 16),
 cs 2 (.t 6) (.t 17)]) (sg ([
 ⟨some 18,none,.h (.load true 3 (.t 2)),true,[]⟩,
 ⟨some 19,none,.h (.load true 2 (.t 5)),true,[]⟩,
 ⟨some 20,none,.h (.call 20 [(.t 18), (.t 19)]),true,[]⟩,
 ⟨some 21,none,.h (.load true 3 (.t 2)),true,[]⟩,
 ⟨some 22,none,.h (.load true 2 (.t 6)),true,[]⟩,
 ⟨some 23,none,.h (.call 20 [(.t 21), (.t 22)]),true,[]⟩,
 ⟨some 7,none,.h (.alloc [(.int .i64 0), (.int .i64 0)]),true,[]⟩,
 ⟨some 8,none,.h (.alloc [(.int .i64 0), (.int .i64 0)]),true,[]⟩,
 cs 2 (.t 7) (.t 20),
 cs 2 (.t 8) (.t 23)]) (sg ([
 ch 9 (.alloc [(.int .u8 0), (.int .i64 0)])]) (sq (sg ([
 cp 10 (.mov (.c (.int .u8 1)))]) (.block 0 (.loop (sq (sg ([
 cp 24 (.mov (.t 10)),
 cp 25 (.bin .leq (.t 24) (.c (.int .u8 4)))]) (.cond (.t 25) .skip (.exit 0))) (sq (.block 1 (sg ([
 cp 29 (.mov (.t 10)),
 ch 30 (.call 45 [(.t 29)]),
 cp 28 (.mov (.t 30)),
 cp 31 (.ext 0 (.t 28)),
 cp 32 (.ext 1 (.t 28)),
 cp 11 (.mov (.t 31)),
 cp 12 (.mov (.t 32))]) (sg ([
 cp 33 (.mov (.t 11)),
 cp 34 (.fad 0 (.t 7)),
 ch 35 (.load false 1 (.t 34)),
 cp 36 (.bin .mul (.t 33) (.t 35)),
 cp 37 (.mov (.t 12)),
 cp 38 (.fad 1 (.t 7)),
 ch 39 (.load false 1 (.t 38)),
 cp 40 (.bin .mul (.t 37) (.t 39)),
 cp 41 (.bin .add (.t 36) (.t 40)),
 cp 42 (.mov (.t 11)),
 cp 43 (.fad 0 (.t 8)),
 ch 44 (.load false 1 (.t 43)),
 cp 45 (.bin .mul (.t 42) (.t 44)),
 cp 46 (.mov (.t 12)),
 cp 47 (.fad 1 (.t 8)),
 ch 48 (.load false 1 (.t 47)),
 cp 49 (.bin .mul (.t 46) (.t 48)),
 cp 50 (.bin .add (.t 45) (.t 49)),
 cp 51 (.bin .eql (.t 41) (.t 50))]) (.cond (.t 51) (.region [
 cp 52 (.mov (.t 10)),
 cp 53 (.mov (.t 11)),
 cp 54 (.fad 0 (.t 7)),
 ch 55 (.load false 1 (.t 54)),
 cp 56 (.bin .mul (.t 53) (.t 55)),
 cp 57 (.mov (.t 12)),
 cp 58 (.fad 1 (.t 7)),
 ch 59 (.load false 1 (.t 58)),
 cp 60 (.bin .mul (.t 57) (.t 59)),
 cp 61 (.bin .add (.t 56) (.t 60)),
 cp 62 (.bin .quo (.t 61) (z 2)),
 cp 63 (.build [(.int .u8 0), (.int .i64 0)] [(0, 1, (.t 52)), (1, 1, (.t 62))]),
 cs 2 (.t 9) (.t 63)]) .skip)))) (.region [
 cp 26 (.mov (.t 10)),
 cp 27 (.bin .add (.t 26) (.c (.int .u8 1))),
 cp 10 (.mov (.t 27))])))))) (sg ([
 ch 64 (.load true 2 (.t 9)),
 cs 2 (.t 4) (.t 64)]) .ret))))))⟩
theorem k23_ok : cfn Tryd.prog gl Tryd.f23 = some k23 := by kernel_rfl
def k24 : CFn := ⟨21, [(.cell 4 true 3)], (sg ([
 ch 2 (.box (.t 0)),
 ch 3 (.box (.t 1)),
 ch 4 (.alloc [(.int .u8 0), (.int .i64 0), (.int .i64 0)])]) (sg ([
 ⟨some 5,none,.h (.load true 3 (.t 3)),true,[]⟩,
 ⟨some 6,none,.h (.load true 3 (.t 2)),true,[]⟩,
 cp 7 (.build [(.int .i64 0), (.int .i64 0)] []),
 ⟨some 8,none,.h (.call 20 [(.t 6), (.t 7)]),true,[]⟩,
 ⟨some 9,none,.h (.call 20 [(.t 5), (.t 8)]),true,[]⟩,
 ⟨some 10,none,.h (.load true 3 (.t 3)),true,[]⟩,
 ⟨some 11,none,.h (.load true 3 (.t 2)),true,[]⟩,
 cp 12 (.build [(.int .i64 0), (.int .i64 0)] [(0, 1, (z 2))]),
 ⟨some 13,none,.h (.call 20 [(.t 11), (.t 12)]),true,[]⟩,
 ⟨some 14,none,.h (.call 20 [(.t 10), (.t 13)]),true,[]⟩,
 ⟨some 15,none,.h (.load true 3 (.t 3)),true,[]⟩,
 ⟨some 16,none,.h (.load true 3 (.t 2)),true,[]⟩,
 cp 17 (.build [(.int .i64 0), (.int .i64 0)] [(1, 1, (z 2))]),
 ⟨some 18,none,.h (.call 20 [(.t 16), (.t 17)]),true,[]⟩,
 ch 19 (.call 20 [(.t 15), (.t 18)]),
 ch 20 (.call 46 [(.t 9), (.t 14), (.t 19)]),
 cs 3 (.t 4) (.t 20)]) .ret))⟩
theorem k24_ok : cfn Tryd.prog gl Tryd.f24 = some k24 := by kernel_rfl
def k25 : CFn := ⟨13, [(.cell 2 true 3)], (sg ([
 ch 1 (.box (.t 0)),
 ch 2 (.alloc [(.int .u8 0), (.int .i64 0), (.int .i64 0)])]) (sg ([
 ⟨some 3,none,.h (.load true 2 (.t 1)),true,[]⟩,
 cp 4 (.build [(.int .i64 0), (.int .i64 0)] []),
 ⟨some 5,none,.h (.call 32 [(.t 3), (.t 4)]),true,[]⟩,
 ⟨some 6,none,.h (.load true 2 (.t 1)),true,[]⟩,
 cp 7 (.build [(.int .i64 0), (.int .i64 0)] [(0, 1, (z 2))]),
 ⟨some 8,none,.h (.call 32 [(.t 6), (.t 7)]),true,[]⟩,
 ⟨some 9,none,.h (.load true 2 (.t 1)),true,[]⟩,
 cp 10 (.build [(.int .i64 0), (.int .i64 0)] [(1, 1, (z 2))]),
 ch 11 (.call 32 [(.t 9), (.t 10)]),
 ch 12 (.call 46 [(.t 5), (.t 8), (.t 11)]),
 cs 3 (.t 2) (.t 12)]) .ret))⟩
theorem k25_ok : cfn Tryd.prog gl Tryd.f25 = some k25 := by kernel_rfl
def k26 : CFn := ⟨35, [(.cell 2 true 3), (.t 3)], (sg ([
 ch 1 (.box (.t 0)),
 ch 2 (.alloc [(.int .u8 0), (.int .i64 0), (.int .i64 0)]),
 cp 3 (.mov (z 0))]) (sq (sg ([
 ch 4 (.load true 2 (.t 1)),
 ch 5 (.call 28 [(.t 4)]),
 cp 6 (.bin .neq (.t 5) (z 0))]) (.cond (.t 6) (sg ([
 cp 7 (.build [(.int .u8 0), (.int .i64 0), (.int .i64 0)] []),
 cs 3 (.t 2) (.t 7),
 cp 3 (.mov (z 1))]) .ret) .skip)) (sq (sg ([
 cp 8 (.fad 0 (.t 1)),
 ch 9 (.load false 1 (.t 8))]) (.block 0 (sg ([
 cp 11 (.bin .eql (.t 9) (.c (.int .u8 1))),
 cp 10 (.mov (.t 11))]) (.cond (.t 10) (sg ([
 cp 12 (.fad 1 (.t 1)),
 ch 13 (.load false 1 (.t 12)),
 cp 14 (.bin .mul (z 2) (.t 13)),
 cp 15 (.build [(.int .u8 0), (.int .i64 0), (.int .i64 0)] [(0, 1, (.c (.int .u8 4))), (1, 1, (.t 14)), (2, 1, (z 0))]),
 cs 3 (.t 2) (.t 15),
 cp 3 (.mov (z 0))]) .ret) (sg ([
 cp 17 (.bin .eql (.t 9) (.c (.int .u8 2))),
 cp 16 (.mov (.t 17))]) (.cond (.t 16) (sg ([
 cp 18 (.fad 1 (.t 1)),
 ch 19 (.load false 1 (.t 18)),
 cp 20 (.bin .mul (z 2) (.t 19)),
 cp 21 (.build [(.int .u8 0), (.int .i64 0), (.int .i64 0)] [(0, 1, (.c (.int .u8 6))), (1, 1, (z 0)), (2, 1, (.t 20))]),
 cs 3 (.t 2) (.t 21),
 cp 3 (.mov (z 0))]) .ret) (sg ([
 cp 23 (.bin .eql (.t 9) (.c (.int .u8 3))),
 cp 22 (.mov (.t 23))]) (.cond (.t 22) (sg ([
 cp 24 (.fad 1 (.t 1)),
 ch 25 (.load false 1 (.t 24)),
 cp 26 (.fad 1 (.t 1)),
 ch 27 (.load false 1 (.t 26)),
 cp 28 (.build [(.int .u8 0), (.int .i64 0), (.int .i64 0)] [(0, 1, (.c (.int .u8 5))), (1, 1, (.t 25)), (2, 1, (.t 27))]),
 cs 3 (.t 2) (.t 28),
 cp 3 (.mov (z 0))]) .ret) .skip)))))))) (sg ([
 cp 29 (.fad 1 (.t 1)),
 ch 30 (.load false 1 (.t 29)),
 cp 31 (.neg (.t 30)),
 cp 32 (.fad 1 (.t 1)),
 ch 33 (.load false 1 (.t 32)),
 cp 34 (.build [(.int .u8 0), (.int .i64 0), (.int .i64 0)] [(0, 1, (.c (.int .u8 7))), (1, 1, (.t 31)), (2, 1, (.t 33))]),
 cs 3 (.t 2) (.t 34),
 cp 3 (.mov (z 0))]) .ret))))⟩
theorem k26_ok : cfn Tryd.prog gl Tryd.f26 = some k26 := by kernel_rfl
def k27 : CFn := ⟨26, [(.cell 2 true 3)], (sg ([
 ch 1 (.box (.t 0)),
 ch 2 (.alloc [(.int .u8 0), (.int .i64 0), (.int .i64 0)])]) (sg ([
 cp 4 (.fad 0 (.t 1)),
 ch 5 (.load false 1 (.t 4)),
 cp 6 (.bin .rem (.t 5) (.c (.int .u8 8))),
 cp 7 (.fad 1 (.t 1)),
 ch 8 (.load false 1 (.t 7)),
 cp 9 (.cvi .i64 (.t 8)),
 cp 10 (.fad 2 (.t 1)),
 ch 11 (.load false 1 (.t 10)),
 cp 12 (.cvi .i64 (.t 11)),
 cp 13 (.build [(.int .u8 0), (.int .i64 0), (.int .i64 0)] [(0, 1, (.t 6)), (1, 1, (.t 9)), (2, 1, (.t 12))]),
 ch 3 (.alloc [(.int .u8 0), (.int .i64 0), (.int .i64 0)]),
 cs 3 (.t 3) (.t 13)]) (sq (sg ([
 cp 14 (.fad 1 (.t 3)),
 ch 15 (.load false 1 (.t 14)),
 cp 16 (.fad 2 (.t 3)),
 ch 17 (.load false 1 (.t 16)),
 cp 18 (.bin .add (.t 15) (.t 17)),
 cp 19 (.bin .rem (.t 18) (z 2)),
 cp 20 (.bin .neq (.t 19) (z 0))]) (.cond (.t 20) (.region [
 cp 21 (.fad 2 (.t 3)),
 ch 22 (.load false 1 (.t 21)),
 cp 23 (.bin .add (.t 22) (z 1)),
 cp 24 (.fad 2 (.t 3)),
 cs 1 (.t 24) (.t 23)]) .skip)) (sg ([
 ch 25 (.load true 3 (.t 3)),
 cs 3 (.t 2) (.t 25)]) .ret))))⟩
theorem k27_ok : cfn Tryd.prog gl Tryd.f27 = some k27 := by kernel_rfl
def k28 : CFn := ⟨21, [(.t 2)], (sg ([
 ch 1 (.box (.t 0)),
 cp 2 (.mov (z 0))]) (sq (sg ([
 cp 3 (.fad 0 (.t 1)),
 ch 4 (.load false 1 (.t 3)),
 cp 5 (.bin .lss (.t 4) (.c (.int .u8 1))),
 cp 6 (.mov (.t 5)),
 gp 7 6 false (.fad 0 (.t 1)),
 gh 8 6 false (.load false 1 (.t 7)),
 gp 9 6 false (.bin .gtr (.t 8) (.c (.int .u8 4))),
 cp 10 (.pick (.t 6) (.c (.bool true)) (.t 9)),
 cp 11 (.mov (.t 10)),
 gp 12 11 false (.fad 1 (.t 1)),
 gh 13 11 false (.load false 1 (.t 12)),
 gp 14 11 false (.bin .lss (.t 13) (.c (.int .i64 (-4096)))),
 cp 15 (.pick (.t 11) (.c (.bool true)) (.t 14)),
 cp 16 (.mov (.t 15)),
 gp 17 16 false (.fad 1 (.t 1)),
 gh 18 16 false (.load false 1 (.t 17)),
 gp 19 16 false (.bin .gtr (.t 18) (z 4096)),
 cp 20 (.pick (.t 16) (.c (.bool true)) (.t 19))]) (.cond (.t 20) (sg ([
 cp 2 (.mov (z 1))]) .ret) .skip)) (sg ([
 cp 2 (.mov (z 0))]) .ret)))⟩
theorem k28_ok : cfn Tryd.prog gl Tryd.f28 = some k28 := by kernel_rfl
def k29 : CFn := ⟨17, [(.t 2)], (sg ([
 ch 1 (.box (.t 0)),
 cp 2 (.mov (.c (.str [])))]) (sg ([
 cp 3 (.fad 0 (.t 1)),
 ⟨some 4,none,.h (.load false 1 (.t 3)),true,[]⟩,
 cp 5 (.cvi .i64 (.t 4)),
 ⟨some 6,none,.h (.call 47 [(.t 5)]),true,[]⟩,
 cp 7 (.bin .add (.t 6) (.c (.str [32]))),
 cp 8 (.fad 1 (.t 1)),
 ⟨some 9,none,.h (.load false 1 (.t 8)),true,[]⟩,
 ⟨some 10,none,.h (.call 47 [(.t 9)]),true,[]⟩,
 cp 11 (.bin .add (.t 7) (.t 10)),
 cp 12 (.bin .add (.t 11) (.c (.str [32]))),
 cp 13 (.fad 2 (.t 1)),
 ⟨some 14,none,.h (.load false 1 (.t 13)),true,[]⟩,
 ch 15 (.call 47 [(.t 14)]),
 cp 16 (.bin .add (.t 12) (.t 15)),
 cp 2 (.mov (.t 16))]) .ret))⟩
theorem k29_ok : cfn Tryd.prog gl Tryd.f29 = some k29 := by kernel_rfl
def k30 : CFn := ⟨62, [(.cell 2 true 3), (.t 3)], (sg ([
 ch 2 (.alloc [(.int .u8 0), (.int .i64 0), (.int .i64 0)]),
 cp 3 (.mov (z 0))]) (sg ([
 cp 12 (.mov (.t 0)),
 ch 13 (.call 48 [(.t 12), (.c (.str [32]))]),
 cp 4 (.mov (.t 13))]) (sq (sg ([
 cp 14 (.mov (.t 4)),
 cp 15 (.len (.t 14)),
 cp 16 (.bin .neq (.t 15) (z 3))]) (.cond (.t 16) (sg ([
 cp 17 (.build [(.int .u8 0), (.int .i64 0), (.int .i64 0)] []),
 cs 3 (.t 2) (.t 17),
 cp 3 (.mov (z 4))]) .ret) .skip)) (sg ([
 cp 19 (.mov (.t 4)),
 cp 20 (.iadS 1 (.t 19) (z 0)),
 ch 21 (.load false 1 (.t 20)),
 ch 22 (.call 49 [(.t 21), (z 10), (z 8)]),
 cp 18 (.mov (.t 22)),
 cp 23 (.ext 0 (.t 18)),
 cp 24 (.ext 1 (.t 18)),
 cp 5 (.mov (.t 23)),
 cp 6 (.mov (.t 24))]) (sg ([
 cp 26 (.mov (.t 4)),
 cp 27 (.iadS 1 (.t 26) (z 1)),
 ch 28 (.load false 1 (.t 27)),
 ch 29 (.call 50 [(.t 28)]),
 cp 25 (.mov (.t 29)),
 cp 30 (.ext 0 (.t 25)),
 cp 31 (.ext 1 (.t 25)),
 cp 7 (.mov (.t 30)),
 cp 8 (.mov (.t 31))]) (sg ([
 cp 33 (.mov (.t 4)),
 cp 34 (.iadS 1 (.t 33) (z 2)),
 ch 35 (.load false 1 (.t 34)),
 ch 36 (.call 50 [(.t 35)]),
 cp 32 (.mov (.t 36)),
 cp 37 (.ext 0 (.t 32)),
 cp 38 (.ext 1 (.t 32)),
 cp 9 (.mov (.t 37)),
 cp 10 (.mov (.t 38))]) (sg ([
 cp 39 (.mov (.t 5)),
 cp 40 (.cvi .u8 (.t 39)),
 cp 41 (.mov (.t 7)),
 cp 42 (.mov (.t 9)),
 cp 43 (.build [(.int .u8 0), (.int .i64 0), (.int .i64 0)] [(0, 1, (.t 40)), (1, 1, (.t 41)), (2, 1, (.t 42))]),
 ch 11 (.alloc [(.int .u8 0), (.int .i64 0), (.int .i64 0)]),
 cs 3 (.t 11) (.t 43)]) (sq (sg ([
 cp 44 (.mov (.t 6)),
 cp 45 (.eqn true 0 (.t 44) (.c .nili)),
 cp 46 (.mov (.t 45)),
 gp 47 46 false (.mov (.t 8)),
 gp 48 46 false (.eqn true 0 (.t 47) (.c .nili)),
 cp 49 (.pick (.t 46) (.c (.bool true)) (.t 48)),
 cp 50 (.mov (.t 49)),
 gp 51 50 false (.mov (.t 10)),
 gp 52 50 false (.eqn true 0 (.t 51) (.c .nili)),
 cp 53 (.pick (.t 50) (.c (.bool true)) (.t 52)),
 cp 54 (.mov (.t 53)),
 gh 55 54 false (.load true 3 (.t 11)),
 gh 56 54 false (.call 31 [(.t 55)]),
 gp 57 54 false (.mov (.t 0)),
 gp 58 54 false (.bin .neq (.t 56) (.t 57)),
 cp 59 (.pick (.t 54) (.c (.bool true)) (.t 58))]) (.cond (.t 59) (sg ([
 cp 60 (.build [(.int .u8 0), (.int .i64 0), (.int .i64 0)] []),
 cs 3 (.t 2) (.t 60),
 cp 3 (.mov (z 4))]) .ret) .skip)) (sg ([
 ch 61 (.load true 3 (.t 11)),
 cs 3 (.t 2) (.t 61),
 cp 3 (.mov (z 0))]) .ret)))))))))⟩
theorem k30_ok : cfn Tryd.prog gl Tryd.f30 = some k30 := by kernel_rfl
def k31 : CFn := ⟨20, [(.t 2)], (sg ([
 ch 1 (.box (.t 0)),
 cp 2 (.mov (.c (.str [])))]) (sq (sg ([
 ch 3 (.load true 3 (.t 1)),
 ch 4 (.call 34 [(.t 3)]),
 cp 5 (.bin .neq (.t 4) (z 0))]) (.cond (.t 5) (sg ([
 cp 2 (.mov (.c (.str [])))]) .ret) .skip)) (sg ([
 cp 6 (.fad 0 (.t 1)),
 ⟨some 7,none,.h (.load false 1 (.t 6)),true,[]⟩,
 cp 8 (.cvi .i64 (.t 7)),
 ⟨some 9,none,.h (.call 51 [(.t 8)]),true,[]⟩,
 cp 10 (.bin .add (.t 9) (.c (.str [32]))),
 cp 11 (.fad 1 (.t 1)),
 ⟨some 12,none,.h (.load false 1 (.t 11)),true,[]⟩,
 ⟨some 13,none,.h (.call 51 [(.t 12)]),true,[]⟩,
 cp 14 (.bin .add (.t 10) (.t 13)),
 cp 15 (.bin .add (.t 14) (.c (.str [32]))),
 cp 16 (.fad 2 (.t 1)),
 ⟨some 17,none,.h (.load false 1 (.t 16)),true,[]⟩,
 ch 18 (.call 51 [(.t 17)]),
 cp 19 (.bin .add (.t 15) (.t 18)),
 cp 2 (.mov (.t 19))]) .ret)))⟩
theorem k31_ok : cfn Tryd.prog gl Tryd.f31 = some k31 := by kernel_rfl
def k32 : CFn := ⟨39, [(.cell 4 true 2)], (sg ([
 ch 2 (.box (.t 0)),
 ch 3 (.box (.t 1)),
 ch 4 (.alloc [(.int .i64 0), (.int .i64 0)])]) (sg ([
 cp 9 (.fad 0 (.t 2)),
 ch 10 (.load false 1 (.t 9)),
 ch 11 (.call 45 [(.t 10)]),
 cp 8 (.mov (.t 11)),
 cp 12 (.ext 0 (.t 8)),
 cp 13 (.ext 1 (.t 8)),
 cp 5 (.mov (.t 12)),
 cp 6 (.mov (.t 13))]) (sg ([
 ch 14 (.load true 2 (.t 2)),
 ch 15 (.load true 2 (.t 3)),
 ch 16 (.call 52 [(.t 14), (.t 15)]),
 cp 17 (.bin .mul (z 2) (.t 16)),
 cp 18 (.mov (.t 5)),
 cp 19 (.mov (.t 5)),
 cp 20 (.bin .mul (.t 18) (.t 19)),
 cp 21 (.mov (.t 6)),
 cp 22 (.mov (.t 6)),
 cp 23 (.bin .mul (.t 21) (.t 22)),
 cp 24 (.bin .add (.t 20) (.t 23)),
 cp 25 (.bin .quo (.t 17) (.t 24)),
 cp 7 (.mov (.t 25))]) (sg ([
 cp 26 (.fad 0 (.t 3)),
 ch 27 (.load false 1 (.t 26)),
 cp 28 (.mov (.t 7)),
 cp 29 (.mov (.t 5)),
 cp 30 (.bin .mul (.t 28) (.t 29)),
 cp 31 (.bin .sub (.t 27) (.t 30)),
 cp 32 (.fad 1 (.t 3)),
 ch 33 (.load false 1 (.t 32)),
 cp 34 (.mov (.t 7)),
 cp 35 (.mov (.t 6)),
 cp 36 (.bin .mul (.t 34) (.t 35)),
 cp 37 (.bin .sub (.t 33) (.t 36)),
 cp 38 (.build [(.int .i64 0), (.int .i64 0)] [(0, 1, (.t 31)), (1, 1, (.t 37))]),
 cs 2 (.t 4) (.t 38)]) .ret))))⟩
theorem k32_ok : cfn Tryd.prog gl Tryd.f32 = some k32 := by kernel_rfl
def k33 : CFn := ⟨11, [(.t 2)], (sg ([
 ch 1 (.box (.t 0)),
 cp 2 (.mov (.c (.bool false)))]) (sg ([
 ch 3 (.load true 3 (.t 1)),
 ch 4 (.call 34 [(.t 3)]),
 cp 5 (.bin .eql (.t 4) (z 0)),
 cp 6 (.mov (.t 5)),
 gp 7 6 true (.fad 0 (.t 1)),
 gh 8 6 true (.load false 1 (.t 7)),
 gp 9 6 true (.bin .geq (.t 8) (.c (.int .u8 4))),
 cp 10 (.pick (.t 6) (.t 9) (.c (.bool false))),
 cp 2 (.mov (.t 10))]) .ret))⟩
theorem k33_ok : cfn Tryd.prog gl Tryd.f33 = some k33 := by kernel_rfl
def k34 : CFn := ⟨26, [(.t 2)], (sg ([
 ch 1 (.box (.t 0)),
 cp 2 (.mov (z 0))]) (sq (sg ([
 cp 3 (.fad 0 (.t 1)),
 ch 4 (.load false 1 (.t 3)),
 cp 5 (.cvi .i64 (.t 4)),
 cp 6 (.bin .geq (.t 5) (z 8)),
 cp 7 (.mov (.t 6)),
 gp 8 7 false (.fad 1 (.t 1)),
 gh 9 7 false (.load false 1 (.t 8)),
 gh 10 7 false (.call 53 [(.t 9)]),
 cp 11 (.pick (.t 7) (.c (.bool true)) (.t 10)),
 cp 12 (.mov (.t 11)),
 gp 13 12 false (.fad 2 (.t 1)),
 gh 14 12 false (.load false 1 (.t 13)),
 gh 15 12 false (.call 53 [(.t 14)]),
 cp 16 (.pick (.t 12) (.c (.bool true)) (.t 15)),
 cp 17 (.mov (.t 16)),
 gp 18 17 false (.fad 1 (.t 1)),
 gh 19 17 false (.load false 1 (.t 18)),
 gp 20 17 false (.fad 2 (.t 1)),
 gh 21 17 false (.load false 1 (.t 20)),
 gp 22 17 false (.bin .add (.t 19) (.t 21)),
 gp 23 17 false (.bin .rem (.t 22) (z 2)),
 gp 24 17 false (.bin .neq (.t 23) (z 0)),
 cp 25 (.pick (.t 17) (.c (.bool true)) (.t 24))]) (.cond (.t 25) (sg ([
 cp 2 (.mov (z 1))]) .ret) .skip)) (sg ([
 cp 2 (.mov (z 0))]) .ret)))⟩
theorem k34_ok : cfn Tryd.prog gl Tryd.f34 = some k34 := by kernel_rfl
def k35 : CFn := ⟨11, [(.cell 2 true 2)], (sg ([
 ch 1 (.box (.t 0)),
 ch 2 (.alloc [(.int .u8 0), (.int .i64 0)])]) (sg ([
 cp 3 (.fad 0 (.t 1)),
 ch 4 (.load false 1 (.t 3)),
 cp 5 (.bin .rem (.t 4) (.c (.int .u8 4))),
 cp 6 (.bin .add (.c (.int .u8 1)) (.t 5)),
 cp 7 (.fad 1 (.t 1)),
 ch 8 (.load false 1 (.t 7)),
 cp 9 (.cvi .i64 (.t 8)),
 cp 10 (.build [(.int .u8 0), (.int .i64 0)] [(0, 1, (.t 6)), (1, 1, (.t 9))]),
 cs 2 (.t 2) (.t 10)]) .ret))⟩
theorem k35_ok : cfn Tryd.prog gl Tryd.f35 = some k35 := by kernel_rfl
def k36 : CFn := ⟨11, [(.cell 6 true 3)], (sg ([
 ch 6 (.alloc [(.int .u8 0), (.int .i64 0), (.int .i64 0)])]) (sg ([
 cp 7 (.mov (.t 0)),
 cp 8 (.mov (.t 1)),
 cp 9 (.mov (.t 2)),
 cp 10 (.build [(.int .u8 0), (.int .i64 0), (.int .i64 0)] [(0, 1, (.t 7)), (1, 1, (.t 8)), (2, 1, (.t 9))]),
 cs 3 (.t 6) (.t 10)]) .ret))⟩
theorem k36_ok : cfn Tryd.prog gl Tryd.f36 = some k36 := by kernel_rfl
def k37 : CFn := ⟨26, [(.t 6), (.t 7)], (sg ([
 ch 3 (.box (.t 0)),
 cp 6 (.mov (z 0)),
 cp 7 (.mov (z 0))]) (sg ([
 cp 8 (.fad 0 (.t 3)),
 ⟨some 9,none,.h (.load false 1 (.t 8)),true,[]⟩,
 cp 10 (.mov (.t 1)),
 cp 11 (.bin .mul (.t 9) (.t 10)),
 cp 12 (.fad 1 (.t 3)),
 ⟨some 13,none,.h (.load false 1 (.t 12)),true,[]⟩,
 cp 14 (.mov (.t 2)),
 cp 15 (.bin .mul (.t 13) (.t 14)),
 cp 16 (.bin .add (.t 11) (.t 15)),
 cp 17 (.fad 2 (.t 3)),
 ⟨some 18,none,.h (.load false 1 (.t 17)),true,[]⟩,
 cp 19 (.mov (.t 1)),
 cp 20 (.bin .mul (.t 18) (.t 19)),
 cp 21 (.fad 3 (.t 3)),
 ⟨some 22,none,.h (.load false 1 (.t 21)),true,[]⟩,
 cp 23 (.mov (.t 2)),
 cp 24 (.bin .mul (.t 22) (.t 23)),
 cp 25 (.bin .add (.t 20) (.t 24)),
 cp 6 (.mov (.t 16)),
 cp 7 (.mov (.t 25))]) .ret))⟩
theorem k37_ok : cfn Tryd.prog gl Tryd.f37 = some k37 := by kernel_rfl
def k38 : CFn := ⟨9, [(.cell 2 true 3), (.t 3)], (sg ([
 ch 1 (.box (.t 0)),
 ch 2 (.alloc [(.int .u8 0), (.int .i64 0), (.int .i64 0)]),
 cp 3 (.mov (z 0))]) (sq (sg ([
 ch 4 (.load true 3 (.t 1)),
 ch 5 (.call 34 [(.t 4)]),
 cp 6 (.bin .neq (.t 5) (z 0))]) (.cond (.t 6) (sg ([
 cp 7 (.build [(.int .u8 0), (.int .i64 0), (.int .i64 0)] []),
 cs 3 (.t 2) (.t 7),
 cp 3 (.mov (z 3))]) .ret) .skip)) (sg ([
 ch 8 (.load true 3 (.t 1)),
 cs 3 (.t 2) (.t 8),
 cp 3 (.mov (z 0))]) .ret)))⟩
theorem k38_ok : cfn Tryd.prog gl Tryd.f38 = some k38 := by kernel_rfl
def k39 : CFn := ⟨16, [(.t 2)], (sg ([
 ch 1 (.box (.t 0)),
 cp 2 (.mov (.c (.int .u8 0)))]) (sq (sg ([
 ch 5 (.load true 32 (.c (.ptr 0 0))),
 cp 6 (.mov (z 0))]) (.block 0 (.loop (sg ([
 cp 7 (.bin .lss (.t 6) (z 8))]) (sq (.cond (.t 7) .skip (.exit 0)) (sq (.block 1 (sg ([
 cp 8 (.mov (.t 6)),
 cp 9 (.idxA true 8 4 (.t 5) (.t 6)),
 ch 4 (.alloc [(.int .i64 0), (.int .i64 0), (.int .i64 0), (.int .i64 0)]),
 cp 3 (.mov (.t 8)),
 cs 4 (.t 4) (.t 9)]) (sg ([
 ch 10 (.load true 4 (.t 4)),
 ch 11 (.load true 4 (.t 1)),
 cp 12 (.eqf false true [1, 1, 1, 1] (.t 10) (.t 11))]) (.cond (.t 12) (sg ([
 cp 13 (.mov (.t 3)),
 cp 14 (.cvi .u8 (.t 13)),
 cp 2 (.mov (.t 14))]) .ret) .skip)))) (.region [
 cp 15 (.bin .add (.t 6) (z 1)),
 cp 6 (.mov (.t 15))]))))))) (sg ([
 cp 2 (.mov (.c (.int .u8 0)))]) .ret)))⟩
theorem k39_ok : cfn Tryd.prog gl Tryd.f39 = some k39 := by kernel_rfl
def k40 : CFn := ⟨15, [(.cell 4 true 3)], (sg ([
 ch 4 (.alloc [(.int .u8 0), (.int .i64 0), (.int .i64 0)])]) (sg ([
 cp 8 (.mov (.t 0)),
 cp 9 (.mov (.t 1)),
 cp 10 (.build [(.int .u8 0), (.int .i64 0)] [(0, 1, (.t 8)), (1, 1, (.t 9))]),
 ch 11 (.call 26 [(.t 10)]),
 cp 7 (.mov (.t 11)),
 cp 12 (.ext 0 (.t 7)),
 cp 13 (.ext 1 (.t 7)),
 ch 5 (.alloc [(.int .u8 0), (.int .i64 0), (.int .i64 0)]),
 cs 3 (.t 5) (.t 12),
 cp 6 (.mov (.t 13))]) (sg ([
 ch 14 (.load true 3 (.t 5)),
 cs 3 (.t 4) (.t 14)]) .ret)))⟩
theorem k40_ok : cfn Tryd.prog gl Tryd.f40 = some k40 := by kernel_rfl
def k41 : CFn := ⟨32, [(.cell 4 true 4)], (sg ([
 ch 2 (.box (.t 0)),
 ch 3 (.box (.t 1)),
 ch 4 (.alloc [(.int .i64 0), (.int .i64 0), (.int .i64 0), (.int .i64 0)])]) (sg ([
 ch 10 (.load true 4 (.t 3)),
 cp 11 (.fad 0 (.t 2)),
 ch 12 (.load false 1 (.t 11)),
 cp 13 (.fad 2 (.t 2)),
 ch 14 (.load false 1 (.t 13)),
 ch 15 (.call 37 [(.t 10), (.t 12), (.t 14)]),
 cp 9 (.mov (.t 15)),
 cp 16 (.ext 0 (.t 9)),
 cp 17 (.ext 1 (.t 9)),
 cp 5 (.mov (.t 16)),
 cp 6 (.mov (.t 17))]) (sg ([
 ch 19 (.load true 4 (.t 3)),
 cp 20 (.fad 1 (.t 2)),
 ch 21 (.load false 1 (.t 20)),
 cp 22 (.fad 3 (.t 2)),
 ch 23 (.load false 1 (.t 22)),
 ch 24 (.call 37 [(.t 19), (.t 21), (.t 23)]),
 cp 18 (.mov (.t 24)),
 cp 25 (.ext 0 (.t 18)),
 cp 26 (.ext 1 (.t 18)),
 cp 7 (.mov (.t 25)),
 cp 8 (.mov (.t 26))]) (sg ([
 cp 27 (.mov (.t 5)),
 cp 28 (.mov (.t 7)),
 cp 29 (.mov (.t 6)),
 cp 30 (.mov (.t 8)),
 cp 31 (.build [(.int .i64 0), (.int .i64 0), (.int .i64 0), (.int .i64 0)] [(0, 1, (.t 27)), (1, 1, (.t 28)), (2, 1, (.t 29)), (3, 1, (.t 30))]),
 cs 4 (.t 4) (.t 31)]) .ret))))⟩
theorem k41_ok : cfn Tryd.prog gl Tryd.f41 = some k41 := by kernel_rfl
def k42 : CFn := ⟨21, [(.t 2)], (sg ([
 ch 1 (.box (.t 0)),
 cp 2 (.mov (z 0))]) (sq (sg ([
 cp 3 (.fad 0 (.t 1)),
 ch 4 (.load false 1 (.t 3)),
 cp 5 (.bin .lss (.t 4) (.c (.int .i64 (-65536)))),
 cp 6 (.mov (.t 5)),
 gp 7 6 false (.fad 0 (.t 1)),
 gh 8 6 false (.load false 1 (.t 7)),
 gp 9 6 false (.bin .gtr (.t 8) (z 65536)),
 cp 10 (.pick (.t 6) (.c (.bool true)) (.t 9)),
 cp 11 (.mov (.t 10)),
 gp 12 11 false (.fad 1 (.t 1)),
 gh 13 11 false (.load false 1 (.t 12)),
 gp 14 11 false (.bin .lss (.t 13) (.c (.int .i64 (-65536)))),
 cp 15 (.pick (.t 11) (.c (.bool true)) (.t 14)),
 cp 16 (.mov (.t 15)),
 gp 17 16 false (.fad 1 (.t 1)),
 gh 18 16 false (.load false 1 (.t 17)),
 gp 19 16 false (.bin .gtr (.t 18) (z 65536)),
 cp 20 (.pick (.t 16) (.c (.bool true)) (.t 19))]) (.cond (.t 20) (sg ([
 cp 2 (.mov (z 1))]) .ret) .skip)) (sg ([
 cp 2 (.mov (z 0))]) .ret)))⟩
theorem k42_ok : cfn Tryd.prog gl Tryd.f42 = some k42 := by kernel_rfl
def k43 : CFn := ⟨16, [(.t 2), (.t 3)], (sg ([
 cp 2 (.mov (z 0)),
 cp 3 (.mov (z 0))]) (sg ([
 cp 5 (.build [(.int .i64 0), (.int .i64 0)] [(0, 1, (z 1)), (1, 1, (z 0))]),
 cp 6 (.build [(.int .i64 0), (.int .i64 0)] [(0, 1, (z 0)), (1, 1, (z 1))]),
 cp 7 (.build [(.int .i64 0), (.int .i64 0)] [(0, 1, (z 1)), (1, 1, (z 1))]),
 cp 8 (.build [(.int .i64 0), (.int .i64 0)] [(0, 1, (.c (.int .i64 (-1)))), (1, 1, (z 1))]),
 cp 9 (.build [(.int .i64 0), (.int .i64 0), (.int .i64 0), (.int .i64 0), (.int .i64 0), (.int .i64 0), (.int .i64 0), (.int .i64 0), (.int .i64 0), (.int .i64 0)] [(2, 2, (.t 5)), (4, 2, (.t 6)), (6, 2, (.t 7)), (8, 2, (.t 8))]),
 cp 10 (.mov (.t 0)),
 cp 11 (.idxA true 5 2 (.t 9) (.t 10)),
 ch 4 (.alloc [(.int .i64 0), (.int .i64 0)]),
 cs 2 (.t 4) (.t 11)]) (sg ([
 cp 12 (.iadA 2 1 (.t 4) (z 0)),
 ⟨some 13,none,.h (.load false 1 (.t 12)),true,[]⟩,
 cp 14 (.iadA 2 1 (.t 4) (z 1)),
 ⟨some 15,none,.h (.load false 1 (.t 14)),true,[]⟩,
 cp 2 (.mov (.t 13)),
 cp 3 (.mov (.t 15))]) .ret)))⟩
theorem k43_ok : cfn Tryd.prog gl Tryd.f43 = some k43 := by kernel_rfl
def k44 : CFn := ⟨53, [(.cell 2 true 2), (.cell 3 true 2)], (sg ([
 ch 1 (.box (.t 0)),
 ch 2 (.alloc [(.int .i64 0), (.int .i64 0)]),
 ch 3 (.alloc [(.int .i64 0), (.int .i64 0)])]) (sg ([
 cp 8 (.fad 0 (.t 1)),
 ch 9 (.load false 1 (.t 8)),
 ch 10 (.call 45 [(.t 9)]),
 cp 7 (.mov (.t 10)),
 cp 11 (.ext 0 (.t 7)),
 cp 12 (.ext 1 (.t 7)),
 cp 4 (.mov (.t 11)),
 cp 5 (.mov (.t 12))]) (sg ([
 cp 13 (.fad 1 (.t 1)),
 ch 14 (.load false 1 (.t 13)),
 cp 15 (.bin .mul (z 2) (.t 14)),
 cp 16 (.mov (.t 4)),
 cp 17 (.bin .mul (.t 15) (.t 16)),
 cp 18 (.fad 1 (.t 1)),
 ch 19 (.load false 1 (.t 18)),
 cp 20 (.bin .mul (z 2) (.t 19)),
 cp 21 (.mov (.t 5)),
 cp 22 (.bin .mul (.t 20) (.t 21)),
 cp 23 (.build [(.int .i64 0), (.int .i64 0)] [(0, 1, (.t 17)), (1, 1, (.t 22))]),
 ch 6 (.alloc [(.int .i64 0), (.int .i64 0)]),
 cs 2 (.t 6) (.t 23)]) (sq (sg ([
 cp 24 (.mov (.t 4)),
 cp 25 (.mov (.t 4)),
 cp 26 (.bin .mul (.t 24) (.t 25)),
 cp 27 (.mov (.t 5)),
 cp 28 (.mov (.t 5)),
 cp 29 (.bin .mul (.t 27) (.t 28)),
 cp 30 (.bin .add (.t 26) (.t 29)),
 cp 31 (.bin .eql (.t 30) (z 2))]) (.cond (.t 31) (.region [
 cp 32 (.fad 1 (.t 1)),
 ch 33 (.load false 1 (.t 32)),
 cp 34 (.mov (.t 4)),
 cp 35 (.bin .mul (.t 33) (.t 34)),
 cp 36 (.fad 1 (.t 1)),
 ch 37 (.load false 1 (.t 36)),
 cp 38 (.mov (.t 5)),
 cp 39 (.bin .mul (.t 37) (.t 38)),
 cp 40 (.build [(.int .i64 0), (.int .i64 0)] [(0, 1, (.t 35)), (1, 1, (.t 39))]),
 cs 2 (.t 6) (.t 40)]) .skip)) (sg ([
 ⟨some 41,none,.h (.load true 2 (.t 6)),true,[]⟩,
 cp 42 (.fad 0 (.t 6)),
 ⟨some 43,none,.h (.load false 1 (.t 42)),true,[]⟩,
 cp 44 (.mov (.t 5)),
 cp 45 (.bin .mul (z 2) (.t 44)),
 cp 46 (.bin .sub (.t 43) (.t 45)),
 cp 47 (.fad 1 (.t 6)),
 ⟨some 48,none,.h (.load false 1 (.t 47)),true,[]⟩,
 cp 49 (.mov (.t 4)),
 cp 50 (.bin .mul (z 2) (.t 49)),
 cp 51 (.bin .add (.t 48) (.t 50)),
 cp 52 (.build [(.int .i64 0), (.int .i64 0)] [(0, 1, (.t 46)), (1, 1, (.t 51))]),
 ⟨none,none,.h (.store 2 (.t 2) (.t 41)),false,[(.t 42), (.t 47)]⟩,
 cs 2 (.t 3) (.t 52)]) .ret)))))⟩
theorem k44_ok : cfn Tryd.prog gl Tryd.f44 = some k44 := by kernel_rfl
def k45 : CFn := ⟨10, [(.t 2), (.t 3)], (sg ([
 cp 2 (.mov (z 0)),
 cp 3 (.mov (z 0))]) (sq (sg ([
 cp 4 (.mov (.t 0)),
 cp 5 (.bin .eql (.t 4) (.c (.int .u8 1)))]) (.cond (.t 5) (sg ([
 cp 2 (.mov (z 1)),
 cp 3 (.mov (z 0))]) .ret) .skip)) (sq (sg ([
 cp 6 (.mov (.t 0)),
 cp 7 (.bin .eql (.t 6) (.c (.int .u8 2)))]) (.cond (.t 7) (sg ([
 cp 2 (.mov (z 0)),
 cp 3 (.mov (z 1))]) .ret) .skip)) (sq (sg ([
 cp 8 (.mov (.t 0)),
 cp 9 (.bin .eql (.t 8) (.c (.int .u8 3)))]) (.cond (.t 9) (sg ([
 cp 2 (.mov (z 1)),
 cp 3 (.mov (z 1))]) .ret) .skip)) (sg ([
 cp 2 (.mov (.c (.int .i64 (-1)))),
 cp 3 (.mov (z 1))]) .ret)))))⟩
theorem k45_ok : cfn Tryd.prog gl Tryd.f45 = some k45 := by kernel_rfl
def k46 : CFn := ⟨42, [(.cell 6 true 3)], (sg ([
 ch 3 (.box (.t 0)),
 ch 4 (.box (.t 1)),
 ch 5 (.box (.t 2)),
 ch 6 (.alloc [(.int .u8 0), (.int .i64 0), (.int .i64 0)])]) (sq (sg ([
 cp 7 (.mov (.c (.int .u8 0)))]) (.block 0 (.loop (sq (sg ([
 cp 9 (.mov (.t 7)),
 cp 10 (.bin .lss (.t 9) (.c (.int .u8 8)))]) (.cond (.t 10) .skip (.exit 0))) (sq (.block 1 (sg ([
 cp 13 (.mov (.t 7)),
 cp 14 (.fad 0 (.t 3)),
 ch 15 (.load false 1 (.t 14)),
 cp 16 (.bin .quo (.t 15) (z 2)),
 cp 17 (.fad 1 (.t 3)),
 ch 18 (.load false 1 (.t 17)),
 cp 19 (.bin .quo (.t 18) (z 2)),
 cp 20 (.build [(.int .u8 0), (.int .i64 0), (.int .i64 0)] [(0, 1, (.t 13)), (1, 1, (.t 16)), (2, 1, (.t 19))]),
 ch 8 (.alloc [(.int .u8 0), (.int .i64 0), (.int .i64 0)]),
 cs 3 (.t 8) (.t 20)]) (sg ([
 ⟨some 21,none,.h (.load true 3 (.t 8)),true,[]⟩,
 cp 22 (.build [(.int .i64 0), (.int .i64 0)] [(0, 1, (z 2))]),
 ⟨some 23,none,.h (.call 20 [(.t 21), (.t 22)]),true,[]⟩,
 ⟨some 24,none,.h (.load true 2 (.t 4)),true,[]⟩,
 cp 25 (.eqf false true [1, 1] (.t 23) (.t 24)),
 cp 26 (.mov (.t 25)),
 ⟨some 27,(some (26, true)),.h (.load true 3 (.t 8)),true,[]⟩,
 gp 28 26 true (.build [(.int .i64 0), (.int .i64 0)] [(1, 1, (z 2))]),
 ⟨some 29,(some (26, true)),.h (.call 20 [(.t 27), (.t 28)]),true,[]⟩,
 ⟨some 30,(some (26, true)),.h (.load true 2 (.t 5)),true,[]⟩,
 gp 31 26 true (.eqf false true [1, 1] (.t 29) (.t 30)),
 cp 32 (.pick (.t 26) (.t 31) (.c (.bool false))),
 cp 33 (.mov (.t 32)),
 ⟨some 34,(some (33, true)),.h (.load true 3 (.t 8)),true,[]⟩,
 gp 35 33 true (.build [(.int .i64 0), (.int .i64 0)] []),
 ⟨some 36,(some (33, true)),.h (.call 20 [(.t 34), (.t 35)]),true,[]⟩,
 ⟨some 37,(some (33, true)),.h (.load true 2 (.t 3)),true,[]⟩,
 gp 38 33 true (.eqf false true [1, 1] (.t 36) (.t 37)),
 cp 39 (.pick (.t 33) (.t 38) (.c (.bool false)))]) (.cond (.t 39) (sg ([
 ch 40 (.load true 3 (.t 8)),
 cs 3 (.t 6) (.t 40)]) .ret) .skip)))) (.region [
 cp 11 (.mov (.t 7)),
 cp 12 (.bin .add (.t 11) (.c (.int .u8 1))),
 cp 7 (.mov (.t 12))])))))) (sg ([
 cp 41 (.build [(.int .u8 0), (.int .i64 0), (.int .i64 0)] [(0, 1, (.c (.int .u8 8)))]),
 cs 3 (.t 6) (.t 41)]) .ret)))⟩
theorem k46_ok : cfn Tryd.prog gl Tryd.f46 = some k46 := by kernel_rfl
def k47 : CFn := ⟨26, [(.t 2)], (sg ([
 cp 2 (.mov (.c (.str [])))]) (sq (sg ([
 cp 3 (.mov (.t 0)),
 cp 4 (.bin .lss (.t 3) (z 0))]) (.cond (.t 4) (sg ([
 cp 5 (.mov (.t 0)),
 cp 6 (.neg (.t 5)),
 ch 7 (.call 47 [(.t 6)]),
 cp 8 (.bin .add (.c (.str [45])) (.t 7)),
 cp 2 (.mov (.t 8))]) .ret) .skip)) (sq (sg ([
 cp 9 (.mov (.t 0)),
 cp 10 (.bin .lss (.t 9) (z 10))]) (.cond (.t 10) (sg ([
 cp 11 (.mov (.t 0)),
 cp 12 (.bin .add (z 48) (.t 11)),
 cp 13 (.cvi .u8 (.t 12)),
 ch 14 (.bsl 1 1 [(.int .u8 0)] [(0, 1, (.t 13))]),
 ch 15 (.b2s (.t 14)),
 cp 2 (.mov (.t 15))]) .ret) .skip)) (sg ([
 cp 16 (.mov (.t 0)),
 cp 17 (.bin .quo (.t 16) (z 10)),
 ⟨some 18,none,.h (.call 47 [(.t 17)]),true,[]⟩,
 cp 19 (.mov (.t 0)),
 cp 20 (.bin .rem (.t 19) (z 10)),
 cp 21 (.bin .add (z 48) (.t 20)),
 cp 22 (.cvi .u8 (.t 21)),
 ⟨some 23,none,.h (.bsl 1 1 [(.int .u8 0)] [(0, 1, (.t 22))]),true,[]⟩,
 ⟨some 24,none,.h (.b2s (.t 23)),true,[]⟩,
 cp 25 (.bin .add (.t 18) (.t 24)),
 cp 2 (.mov (.t 25))]) .ret))))⟩
theorem k47_ok : cfn Tryd.prog gl Tryd.f47 = some k47 := by kernel_rfl
def k48 : CFn := ⟨8, [(.t 4)], (sg ([
 cp 4 (.mov (.c .nils))]) (sg ([
 cp 5 (.mov (.t 0)),
 cp 6 (.mov (.t 1)),
 ch 7 (.call 54 [(.t 5), (.t 6), (z 0), (.c (.int .i64 (-1)))]),
 cp 4 (.mov (.t 7))]) .ret))⟩
theorem k48_ok : cfn Tryd.prog gl Tryd.f48 = some k48 := by kernel_rfl
def k49 : CFn := ⟨26, [(.t 6), (.t 7)], (sg ([
 cp 6 (.mov (.c (.int .u64 0))),
 cp 7 (.mov (.c .nili))]) (sg ([
 cp 11 (.mov (.t 0)),
 cp 12 (.mov (.t 1)),
 cp 13 (.mov (.t 2)),
 ch 14 (.call 55 [(.t 11), (.t 12), (.t 13)]),
 cp 10 (.mov (.t 14)),
 cp 15 (.ext 0 (.t 10)),
 cp 16 (.ext 1 (.t 10)),
 cp 8 (.mov (.t 15)),
 cp 9 (.mov (.t 16))]) (sq (sg ([
 cp 17 (.mov (.t 9)),
 cp 18 (.eqn true 0 (.t 17) (.c .nili))]) (.cond (.t 18) (sg ([
 cp 19 (.mov (.t 8)),
 cp 20 (.mov (.t 0)),
 cp 21 (.mov (.t 1)),
 cp 22 (.mov (.t 2)),
 cp 23 (.mov (.t 9)),
 ch 24 (.call 56 [(.c (.str [80, 97, 114, 115, 101, 85, 105, 110, 116])), (.t 20), (.t 21), (.t 22), (.t 23)]),
 cp 6 (.mov (.t 19)),
 cp 7 (.mov (.t 24))]) .ret) .skip)) (sg ([
 cp 25 (.mov (.t 8)),
 cp 6 (.mov (.t 25)),
 cp 7 (.mov (.c .nili))]) .ret))))⟩
theorem k49_ok : cfn Tryd.prog gl Tryd.f49 = some k49 := by kernel_rfl
def k50 : CFn := ⟨18, [(.t 2), (.t 3)], (sg ([
 cp 2 (.mov (z 0)),
 cp 3 (.mov (.c .nili))]) (sg ([
 cp 7 (.mov (.t 0)),
 ch 8 (.call 57 [(.t 7)]),
 cp 6 (.mov (.t 8)),
 cp 9 (.ext 0 (.t 6)),
 cp 10 (.ext 1 (.t 6)),
 cp 4 (.mov (.t 9)),
 cp 5 (.mov (.t 10))]) (sq (sg ([
 cp 11 (.mov (.t 5)),
 cp 12 (.eqn true 0 (.t 11) (.c .nili))]) (.cond (.t 12) (sg ([
 cp 13 (.mov (.t 4)),
 cp 14 (.mov (.t 0)),
 cp 15 (.mov (.t 5)),
 ch 16 (.call 56 [(.c (.str [65, 116, 111, 105])), (.t 14), (z 0), (z 0), (.t 15)]),
 cp 2 (.mov (.t 13)),
 cp 3 (.mov (.t 16))]) .ret) .skip)) (sg ([
 cp 17 (.mov (.t 4)),
 cp 2 (.mov (.t 17)),
 cp 3 (.mov (.c .nili))]) .ret))))⟩
theorem k50_ok : cfn Tryd.prog gl Tryd.f50 = some k50 := by kernel_rfl
def k51 : CFn := ⟨5, [(.t 2)], (sg ([
 cp 2 (.mov (.c (.str [])))]) (sg ([
 cp 3 (.mov (.t 0)),
 ch 4 (.call 58 [(.t 3)]),
 cp 2 (.mov (.t 4))]) .ret))⟩
theorem k51_ok : cfn Tryd.prog gl Tryd.f51 = some k51 := by kernel_rfl
def k52 : CFn := ⟨26, [(.t 4)], (sg ([
 ch 2 (.box (.t 0)),
 ch 3 (.box (.t 1)),
 cp 4 (.mov (z 0))]) (sg ([
 cp 8 (.fad 0 (.t 2)),
 ch 9 (.load false 1 (.t 8)),
 ch 10 (.call 45 [(.t 9)]),
 cp 7 (.mov (.t 10)),
 cp 11 (.ext 0 (.t 7)),
 cp 12 (.ext 1 (.t 7)),
 cp 5 (.mov (.t 11)),
 cp 6 (.mov (.t 12))]) (sg ([
 cp 13 (.mov (.t 5)),
 cp 14 (.fad 0 (.t 3)),
 ch 15 (.load false 1 (.t 14)),
 cp 16 (.bin .mul (.t 13) (.t 15)),
 cp 17 (.mov (.t 6)),
 cp 18 (.fad 1 (.t 3)),
 ch 19 (.load false 1 (.t 18)),
 cp 20 (.bin .mul (.t 17) (.t 19)),
 cp 21 (.bin .add (.t 16) (.t 20)),
 cp 22 (.fad 1 (.t 2)),
 ch 23 (.load false 1 (.t 22)),
 cp 24 (.bin .mul (z 2) (.t 23)),
 cp 25 (.bin .sub (.t 21) (.t 24)),
 cp 4 (.mov (.t 25))]) .ret)))⟩
theorem k52_ok : cfn Tryd.prog gl Tryd.f52 = some k52 := by kernel_rfl
def k53 : CFn := ⟨9, [(.t 2)], (sg ([
 cp 2 (.mov (.c (.bool false)))]) (sg ([
 cp 3 (.mov (.t 0)),
 cp 4 (.bin .lss (.t 3) (.c (.int .i64 (-16384)))),
 cp 5 (.mov (.t 4)),
 gp 6 5 false (.mov (.t 0)),
 gp 7 5 false (.bin .gtr (.t 6) (z 16384)),
 cp 8 (.pick (.t 5) (.c (.bool true)) (.t 7)),
 cp 2 (.mov (.t 8))]) .ret))⟩
theorem k53_ok : cfn Tryd.prog gl Tryd.f53 = some k53 := by kernel_rfl
def k54 : CFn := ⟨66, [(.t 8)], (sg ([
 cp 8 (.mov (.c .nils))]) (sq (sg ([
 cp 12 (.mov (.t 3)),
 cp 13 (.bin .eql (.t 12) (z 0))]) (.cond (.t 13) (sg ([
 cp 8 (.mov (.c .nils))]) .ret) .skip)) (sq (sg ([
 cp 14 (.mov (.t 1)),
 cp 15 (.bin .eql (.t 14) (.c (.str [])))]) (.cond (.t 15) (sg ([
 cp 16 (.mov (.t 0)),
 cp 17 (.mov (.t 3)),
 ch 18 (.call 59 [(.t 16), (.t 17)]),
 cp 8 (.mov (.t 18))]) .ret) .skip)) (sq (sg ([
 cp 19 (.mov (.t 3)),
 cp 20 (.bin .lss (.t 19) (z 0))]) (.cond (.t 20) (.region [
 cp 21 (.mov (.t 0)),
 cp 22 (.mov (.t 1)),
 ch 23 (.call 60 [(.t 21), (.t 22)]),
 cp 24 (.bin .add (.t 23) (z 1)),
 cp 3 (.mov (.t 24))]) .skip)) (sg ([
 cp 25 (.mov (.t 3)),
 cp 26 (.mov (.t 0)),
 cp 27 (.lenS (.t 26)),
 cp 28 (.bin .add (.t 27) (z 1)),
 cp 29 (.mins (.t 25) [(.t 28)]),
 cp 3 (.mov (.t 29))]) (sg ([
 cp 30 (.mov (.t 3)),
 ch 31 (.mksl 1 16 [(.str [])] (.t 30) (.t 30)),
 cp 9 (.mov (.t 31))]) (sg ([
 cp 32 (.mov (.t 3)),
 cp 33 (.bin .sub (.t 32) (z 1)),
 cp 3 (.mov (.t 33))]) (sg ([
 cp 10 (.mov (z 0))]) (sq (.block 0 (.loop (sq (sg ([
 cp 34 (.mov (.t 10)),
 cp 35 (.mov (.t 3)),
 cp 36 (.bin .lss (.t 34) (.t 35))]) (.cond (.t 36) .skip (.exit 0))) (.block 1 (sg ([
 cp 37 (.mov (.t 0)),
 cp 38 (.mov (.t 1)),
 ch 39 (.call 61 [(.t 37), (.t 38)]),
 cp 11 (.mov (.t 39))]) (sq (sg ([
 cp 40 (.mov (.t 11)),
 cp 41 (.bin .lss (.t 40) (z 0))]) (.cond (.t 41) (.exit 0) .skip)) (sg ([
 cp 42 (.mov (.t 9)),
 cp 43 (.mov (.t 10)),
 cp 44 (.mov (.t 0)),
 cp 45 (.mov (.t 11)),
 cp 46 (.mov (.t 2)),
 cp 47 (.bin .add (.t 45) (.t 46)),
 cp 48 (.slT (.t 44) none (some (.t 47))),
 cp 49 (.iadS 1 (.t 42) (.t 43)),
 cs 1 (.t 49) (.t 48)]) (sg ([
 cp 50 (.mov (.t 0)),
 cp 51 (.mov (.t 11)),
 cp 52 (.mov (.t 1)),
 cp 53 (.lenS (.t 52)),
 cp 54 (.bin .add (.t 51) (.t 53)),
 cp 55 (.slT (.t 50) (some (.t 54)) none),
 cp 0 (.mov (.t 55))]) (.region [
 cp 56 (.mov (.t 10)),
 cp 57 (.bin .add (.t 56) (z 1)),
 cp 10 (.mov (.t 57))]))))))))) (sg ([
 cp 58 (.mov (.t 9)),
 cp 59 (.mov (.t 10)),
 cp 60 (.mov (.t 0)),
 cp 61 (.iadS 1 (.t 58) (.t 59)),
 cs 1 (.t 61) (.t 60)]) (sg ([
 cp 62 (.mov (.t 9)),
 cp 63 (.mov (.t 10)),
 cp 64 (.bin .add (.t 63) (z 1)),
 cp 65 (.slS 1 (.t 62) none (some (.t 64)) none),
 cp 8 (.mov (.t 65))]) .ret)))))))))))⟩
theorem k54_ok : cfn Tryd.prog gl Tryd.f54 = some k54 := by kernel_rfl
def k55 : CFn := ⟨172, [(.t 6), (.t 7)], (sg ([
 cp 6 (.mov (.c (.int .u64 0))),
 cp 7 (.mov (.c .nili))]) (sq (sg ([
 cp 18 (.mov (.t 0)),
 cp 19 (.bin .eql (.t 18) (.c (.str [])))]) (.cond (.t 19) (sg ([
 cp 20 (.mkif 105 (z 2)),
 cp 6 (.mov (.c (.int .u64 0))),
 cp 7 (.mov (.t 20))]) .ret) .skip)) (sg ([
 cp 21 (.mov (.t 1)),
 cp 22 (.bin .eql (.t 21) (z 0)),
 cp 8 (.mov (.t 22))]) (sg ([
 cp 23 (.mov (.t 0)),
 cp 9 (.mov (.t 23))]) (sq (.block 0 (sg ([
 cp 26 (.mov (.t 1)),
 cp 27 (.bin .leq (z 2) (.t 26)),
 cp 28 (.mov (.t 27)),
 gp 29 28 true (.mov (.t 1)),
 gp 30 28 true (.bin .leq (.t 29) (z 36)),
 cp 31 (.pick (.t 28) (.t 30) (.c (.bool false))),
 cp 25 (.mov (.t 31))]) (.cond (.t 25) .skip (sg ([
 cp 33 (.mov (.t 1)),
 cp 34 (.bin .eql (.t 33) (z 0)),
 cp 32 (.mov (.t 34))]) (.cond (.t 32) (sg ([
 cp 1 (.mov (z 10))]) (sg ([
 cp 35 (.mov (.t 0)),
 cp 36 (.idxS (.t 35) (z 0)),
 cp 37 (.bin .eql (.t 36) (.c (.int .u8 48)))]) (.cond (.t 37) (.block 1 (sg ([
 cp 41 (.mov (.t 0)),
 cp 42 (.lenS (.t 41)),
 cp 43 (.bin .geq (.t 42) (z 3)),
 cp 44 (.mov (.t 43)),
 gp 45 44 true (.mov (.t 0)),
 gp 46 44 true (.idxS (.t 45) (z 1)),
 gh 47 44 true (.call 62 [(.t 46)]),
 gp 48 44 true (.bin .eql (.t 47) (.c (.int .u8 98))),
 cp 49 (.pick (.t 44) (.t 48) (.c (.bool false))),
 cp 40 (.mov (.t 49))]) (.cond (.t 40) (sg ([
 cp 1 (.mov (z 2))]) (.region [
 cp 50 (.mov (.t 0)),
 cp 51 (.slT (.t 50) (some (z 2)) none),
 cp 0 (.mov (.t 51))])) (sg ([
 cp 53 (.mov (.t 0)),
 cp 54 (.lenS (.t 53)),
 cp 55 (.bin .geq (.t 54) (z 3)),
 cp 56 (.mov (.t 55)),
 gp 57 56 true (.mov (.t 0)),
 gp 58 56 true (.idxS (.t 57) (z 1)),
 gh 59 56 true (.call 62 [(.t 58)]),
 gp 60 56 true (.bin .eql (.t 59) (.c (.int .u8 111))),
 cp 61 (.pick (.t 56) (.t 60) (.c (.bool false))),
 cp 52 (.mov (.t 61))]) (.cond (.t 52) (sg ([
 cp 1 (.mov (z 8))]) (.region [
 cp 62 (.mov (.t 0)),
 cp 63 (.slT (.t 62) (some (z 2)) none),
 cp 0 (.mov (.t 63))])) (sg ([
 cp 65 (.mov (.t 0)),
 cp 66 (.lenS (.t 65)),
 cp 67 (.bin .geq (.t 66) (z 3)),
 cp 68 (.mov (.t 67)),
 gp 69 68 true (.mov (.t 0)),
 gp 70 68 true (.idxS (.t 69) (z 1)),
 gh 71 68 true (.call 62 [(.t 70)]),
 gp 72 68 true (.bin .eql (.t 71) (.c (.int .u8 120))),
 cp 73 (.pick (.t 68) (.t 72) (.c (.bool false))),
 cp 64 (.mov (.t 73))]) (.cond (.t 64) (sg ([
 cp 1 (.mov (z 16))]) (.region [
 cp 74 (.mov (.t 0)),
 cp 75 (.slT (.t 74) (some (z 2)) none),
 cp 0 (.mov (.t 75))])) (sg ([
 cp 1 (.mov (z 8))]) (.region [
 cp 38 (.mov (.t 0)),
 cp 39 (.slT (.t 38) (some (z 1)) none),
 cp 0 (.mov (.t 39))]))))))))) .skip))) (sg ([
 cp 24 (.mkif 105 (z 3)),
 cp 6 (.mov (.c (.int .u64 0))),
 cp 7 (.mov (.t 24))]) .ret)))))) (sq (sg ([
 cp 76 (.mov (.t 2)),
 cp 77 (.bin .eql (.t 76) (z 0))]) (.cond (.t 77) (.region [
 cp 2 (.mov (z 64))]) (sg ([
 cp 78 (.mov (.t 2)),
 cp 79 (.bin .lss (.t 78) (z 0)),
 cp 80 (.mov (.t 79)),
 gp 81 80 false (.mov (.t 2)),
 gp 82 80 false (.bin .gtr (.t 81) (z 64)),
 cp 83 (.pick (.t 80) (.c (.bool true)) (.t 82))]) (.cond (.t 83) (sg ([
 cp 84 (.mkif 105 (z 4)),
 cp 6 (.mov (.c (.int .u64 0))),
 cp 7 (.mov (.t 84))]) .ret) .skip)))) (sg ([
 cp 10 (.mov (.c (.int .u64 0)))]) (sq (sg ([
 cp 85 (.mov (.t 1))]) (.block 2 (sg ([
 cp 91 (.bin .eql (.t 85) (z 10)),
 cp 90 (.mov (.t 91))]) (.cond (.t 90) (.region [
 cp 10 (.mov (.c (.int .u64 1844674407370955162)))]) (sg ([
 cp 93 (.bin .eql (.t 85) (z 16)),
 cp 92 (.mov (.t 93))]) (.cond (.t 92) (.region [
 cp 10 (.mov (.c (.int .u64 1152921504606846976)))]) (.region [
 cp 86 (.mov (.t 1)),
 cp 87 (.cvi .u64 (.t 86)),
 cp 88 (.bin .quo (.c (.int .u64 18446744073709551615)) (.t 87)),
 cp 89 (.bin .add (.t 88) (.c (.int .u64 1))),
 cp 10 (.mov (.t 89))]))))))) (sg ([
 cp 94 (.mov (.t 2)),
 cp 95 (.cvi .u64 (.t 94)),
 cp 96 (.bin .shl (.c (.int .u64 1)) (.t 95)),
 cp 97 (.bin .sub (.t 96) (.c (.int .u64 1))),
 cp 11 (.mov (.t 97))]) (sg ([
 cp 12 (.mov (.c (.bool false)))]) (sg ([
 cp 13 (.mov (.c (.int .u64 0)))]) (sq (sg ([
 cp 98 (.mov (.t 0)),
 ch 99 (.s2b (.t 98)),
 cp 100 (.len (.t 99)),
 cp 101 (.mov (z 0))]) (.block 3 (.loop (sg ([
 cp 102 (.bin .lss (.t 101) (.t 100))]) (sq (.cond (.t 102) .skip (.exit 3)) (sq (.block 4 (sg ([
 cp 103 (.iadS 1 (.t 99) (.t 101)),
 ch 104 (.load false 1 (.t 103)),
 cp 15 (.mov (.t 104))]) (sg ([
 cp 16 (.mov (.c (.int .u8 0)))]) (sq (.block 5 (sg ([
 cp 107 (.mov (.t 15)),
 cp 108 (.bin .eql (.t 107) (.c (.int .u8 95))),
 cp 109 (.mov (.t 108)),
 gp 110 109 true (.mov (.t 8)),
 cp 111 (.pick (.t 109) (.t 110) (.c (.bool false))),
 cp 106 (.mov (.t 111))]) (.cond (.t 106) (sg ([
 cp 12 (.mov (.c (.bool true)))]) (.exit 4)) (sg ([
 cp 113 (.mov (.t 15)),
 cp 114 (.bin .leq (.c (.int .u8 48)) (.t 113)),
 cp 115 (.mov (.t 114)),
 gp 116 115 true (.mov (.t 15)),
 gp 117 115 true (.bin .leq (.t 116) (.c (.int .u8 57))),
 cp 118 (.pick (.t 115) (.t 117) (.c (.bool false))),
 cp 112 (.mov (.t 118))]) (.cond (.t 112) (.region [
 cp 119 (.mov (.t 15)),
 cp 120 (.bin .sub (.t 119) (.c (.int .u8 48))),
 cp 16 (.mov (.t 120))]) (sg ([
 cp 122 (.mov (.t 15)),
 ch 123 (.call 62 [(.t 122)]),
 cp 124 (.bin .leq (.c (.int .u8 97)) (.t 123)),
 cp 125 (.mov (.t 124)),
 gp 126 125 true (.mov (.t 15)),
 gh 127 125 true (.call 62 [(.t 126)]),
 gp 128 125 true (.bin .leq (.t 127) (.c (.int .u8 122))),
 cp 129 (.pick (.t 125) (.t 128) (.c (.bool false))),
 cp 121 (.mov (.t 129))]) (.cond (.t 121) (.region [
 cp 130 (.mov (.t 15)),
 ch 131 (.call 62 [(.t 130)]),
 cp 132 (.bin .sub (.t 131) (.c (.int .u8 97))),
 cp 133 (.bin .add (.t 132) (.c (.int .u8 10))),
 cp 16 (.mov (.t 133))]) (sg ([
 cp 105 (.mkif 105 (z 2)),
 cp 6 (.mov (.c (.int .u64 0))),
 cp 7 (.mov (.t 105))]) .ret)))))))) (sq (sg ([
 cp 134 (.mov (.t 16)),
 cp 135 (.mov (.t 1)),
 cp 136 (.cvi .u8 (.t 135)),
 cp 137 (.bin .geq (.t 134) (.t 136))]) (.cond (.t 137) (sg ([
 cp 138 (.mkif 105 (z 2)),
 cp 6 (.mov (.c (.int .u64 0))),
 cp 7 (.mov (.t 138))]) .ret) .skip)) (sq (sg ([
 cp 139 (.mov (.t 13)),
 cp 140 (.mov (.t 10)),
 cp 141 (.bin .geq (.t 139) (.t 140))]) (.cond (.t 141) (sg ([
 cp 142 (.mov (.t 11)),
 cp 143 (.mkif 105 (z 1)),
 cp 6 (.mov (.t 142)),
 cp 7 (.mov (.t 143))]) .ret) .skip)) (sg ([
 cp 144 (.mov (.t 13)),
 cp 145 (.mov (.t 1)),
 cp 146 (.cvi .u64 (.t 145)),
 cp 147 (.bin .mul (.t 144) (.t 146)),
 cp 13 (.mov (.t 147))]) (sg ([
 cp 148 (.mov (.t 13)),
 cp 149 (.mov (.t 16)),
 cp 150 (.cvi .u64 (.t 149)),
 cp 151 (.bin .add (.t 148) (.t 150)),
 cp 17 (.mov (.t 151))]) (sq (sg ([
 cp 152 (.mov (.t 17)),
 cp 153 (.mov (.t 13)),
 cp 154 (.bin .lss (.t 152) (.t 153)),
 cp 155 (.mov (.t 154)),
 gp 156 155 false (.mov (.t 17)),
 gp 157 155 false (.mov (.t 11)),
 gp 158 155 false (.bin .gtr (.t 156) (.t 157)),
 cp 159 (.pick (.t 155) (.c (.bool true)) (.t 158))]) (.cond (.t 159) (sg ([
 cp 160 (.mov (.t 11)),
 cp 161 (.mkif 105 (z 1)),
 cp 6 (.mov (.t 160)),
 cp 7 (.mov (.t 161))]) .ret) .skip)) (.region [
 cp 162 (.mov (.t 17)),
 cp 13 (.mov (.t 162))])))))))))) (.region [
 cp 163 (.bin .add (.t 101) (z 1)),
 cp 101 (.mov (.t 163))]))))))) (sq (sg ([
 cp 164 (.mov (.t 12)),
 cp 165 (.mov (.t 164)),
 gp 166 165 true (.mov (.t 9)),
 gh 167 165 true (.call 63 [(.t 166)]),
 gp 168 165 true (.not (.t 167)),
 cp 169 (.pick (.t 165) (.t 168) (.c (.bool false)))]) (.cond (.t 169) (sg ([
 cp 170 (.mkif 105 (z 2)),
 cp 6 (.mov (.c (.int .u64 0))),
 cp 7 (.mov (.t 170))]) .ret) .skip)) (sg ([
 cp 171 (.mov (.t 13)),
 cp 6 (.mov (.t 171)),
 cp 7 (.mov (.c .nili))]) .ret))))))))))))))⟩
theorem k55_ok : cfn Tryd.prog gl Tryd.f55 = some k55 := by kernel_rfl
def k56 : CFn := ⟨43, [(.t 10)], (sg ([
 cp 10 (.mov (.c .nili))]) (sq (sg ([
 cp 11 (.mov (.t 4))]) (.block 0 (sg ([
 cp 13 (.mkif 105 (z 2)),
 ⟨some 14, none, (.h .bad),false,[]⟩,
 cp 12 (.mov (.t 14))]) (.cond (.t 12) (sg ([
 cp 15 (.mov (.t 0)),
 cp 16 (.mov (.t 1)),
 ch 17 (.call 64 [(.t 15), (.t 16)]),
 cp 18 (.mkif 109 (.t 17)),
 cp 10 (.mov (.t 18))]) .ret) (sg ([
 cp 20 (.mkif 105 (z 1)),
 ⟨some 21, none, (.h .bad),false,[]⟩,
 cp 19 (.mov (.t 21))]) (.cond (.t 19) (sg ([
 cp 22 (.mov (.t 0)),
 cp 23 (.mov (.t 1)),
 ch 24 (.call 65 [(.t 22), (.t 23)]),
 cp 25 (.mkif 109 (.t 24)),
 cp 10 (.mov (.t 25))]) .ret) (sg ([
 cp 27 (.mkif 105 (z 3)),
 ⟨some 28, none, (.h .bad),false,[]⟩,
 cp 26 (.mov (.t 28))]) (.cond (.t 26) (sg ([
 cp 29 (.mov (.t 0)),
 cp 30 (.mov (.t 1)),
 cp 31 (.mov (.t 2)),
 ch 32 (.call 66 [(.t 29), (.t 30), (.t 31)]),
 cp 33 (.mkif 109 (.t 32)),
 cp 10 (.mov (.t 33))]) .ret) (sg ([
 cp 35 (.mkif 105 (z 4)),
 ⟨some 36, none, (.h .bad),false,[]⟩,
 cp 34 (.mov (.t 36))]) (.cond (.t 34) (sg ([
 cp 37 (.mov (.t 0)),
 cp 38 (.mov (.t 1)),
 cp 39 (.mov (.t 3)),
 ch 40 (.call 67 [(.t 37), (.t 38), (.t 39)]),
 cp 41 (.mkif 109 (.t 40)),
 cp 10 (.mov (.t 41))]) .ret) .skip)))))))))) (sg ([
 cp 42 (.mov (.t 4)),
 cp 10 (.mov (.t 42))]) .ret)))⟩
theorem k56_ok : cfn Tryd.prog gl Tryd.f56 = some k56 := by kernel_rfl
def k57 : CFn := ⟨77, [(.t 2), (.t 3)], (sg ([
 cp 2 (.mov (z 0)),
 cp 3 (.mov (.c .nili))]) (sg ([
 cp 11 (.mov (.t 0)),
 cp 12 (.lenS (.t 11)),
 cp 4 (.mov (.t 12))]) (sq (sg ([
 cp 13 (.mov (.c (.bool false))),
 gp 14 13 true (.mov (.t 4)),
 gp 15 13 true (.bin .lss (z 0) (.t 14)),
 gp 16 13 true (.mov (.t 15)),
 gp 17 16 true (.mov (.t 4)),
 gp 18 16 true (.bin .lss (.t 17) (z 10)),
 gp 19 13 true (.pick (.t 16) (.t 18) (.c (.bool false))),
 cp 20 (.pick (.t 13) (.t 19) (.c (.bool false))),
 cp 21 (.mov (.t 20)),
 gp 22 21 false (.mov (.c (.bool true))),
 gp 23 22 true (.mov (.t 4)),
 gp 24 22 true (.bin .lss (z 0) (.t 23)),
 gp 25 22 true (.mov (.t 24)),
 gp 26 25 true (.mov (.t 4)),
 gp 27 25 true (.bin .lss (.t 26) (z 19)),
 gp 28 22 true (.pick (.t 25) (.t 27) (.c (.bool false))),
 gp 29 21 false (.pick (.t 22) (.t 28) (.c (.bool false))),
 cp 30 (.pick (.t 21) (.c (.bool true)) (.t 29))]) (.cond (.t 30) (sg ([
 cp 31 (.mov (.t 0)),
 cp 5 (.mov (.t 31))]) (sq (sg ([
 cp 32 (.mov (.t 0)),
 cp 33 (.idxS (.t 32) (z 0)),
 cp 34 (.bin .eql (.t 33) (.c (.int .u8 45))),
 cp 35 (.mov (.t 34)),
 gp 36 35 false (.mov (.t 0)),
 gp 37 35 false (.idxS (.t 36) (z 0)),
 gp 38 35 false (.bin .eql (.t 37) (.c (.int .u8 43))),
 cp 39 (.pick (.t 35) (.c (.bool true)) (.t 38))]) (.cond (.t 39) (sg ([
 cp 40 (.mov (.t 0)),
 cp 41 (.slT (.t 40) (some (z 1)) none),
 cp 0 (.mov (.t 41))]) (sg ([
 cp 42 (.mov (.t 0)),
 cp 43 (.lenS (.t 42)),
 cp 44 (.bin .lss (.t 43) (z 1))]) (.cond (.t 44) (sg ([
 cp 45 (.mkif 105 (z 2)),
 cp 2 (.mov (z 0)),
 cp 3 (.mov (.t 45))]) .ret) .skip))) .skip)) (sg ([
 cp 6 (.mov (z 0))]) (sq (sg ([
 cp 46 (.mov (.t 0)),
 ch 47 (.s2b (.t 46)),
 cp 48 (.len (.t 47)),
 cp 49 (.mov (z 0))]) (.block 0 (.loop (sg ([
 cp 50 (.bin .lss (.t 49) (.t 48))]) (sq (.cond (.t 50) .skip (.exit 0)) (sq (.block 1 (sg ([
 cp 51 (.iadS 1 (.t 47) (.t 49)),
 ch 52 (.load false 1 (.t 51)),
 cp 8 (.mov (.t 52))]) (sg ([
 cp 53 (.mov (.t 8)),
 cp 54 (.bin .sub (.t 53) (.c (.int .u8 48))),
 cp 8 (.mov (.t 54))]) (sq (sg ([
 cp 55 (.mov (.t 8)),
 cp 56 (.bin .gtr (.t 55) (.c (.int .u8 9)))]) (.cond (.t 56) (sg ([
 cp 57 (.mkif 105 (z 2)),
 cp 2 (.mov (z 0)),
 cp 3 (.mov (.t 57))]) .ret) .skip)) (.region [
 cp 58 (.mov (.t 6)),
 cp 59 (.bin .mul (.t 58) (z 10)),
 cp 60 (.mov (.t 8)),
 cp 61 (.cvi .i64 (.t 60)),
 cp 62 (.bin .add (.t 59) (.t 61)),
 cp 6 (.mov (.t 62))]))))) (.region [
 cp 63 (.bin .add (.t 49) (z 1)),
 cp 49 (.mov (.t 63))]))))))) (sq (sg ([
 cp 64 (.mov (.t 5)),
 cp 65 (.idxS (.t 64) (z 0)),
 cp 66 (.bin .eql (.t 65) (.c (.int .u8 45)))]) (.cond (.t 66) (.region [
 cp 67 (.mov (.t 6)),
 cp 68 (.neg (.t 67)),
 cp 6 (.mov (.t 68))]) .skip)) (sg ([
 cp 69 (.mov (.t 6)),
 cp 2 (.mov (.t 69)),
 cp 3 (.mov (.c .nili))]) .ret)))))) .skip)) (sg ([
 cp 71 (.mov (.t 0)),
 ch 72 (.call 68 [(.t 71), (z 10), (z 0)]),
 cp 70 (.mov (.t 72)),
 cp 73 (.ext 0 (.t 70)),
 cp 74 (.ext 1 (.t 70)),
 cp 9 (.mov (.t 73)),
 cp 10 (.mov (.t 74))]) (sg ([
 cp 75 (.mov (.t 9)),
 cp 76 (.mov (.t 10)),
 cp 2 (.mov (.t 75)),
 cp 3 (.mov (.t 76))]) .ret)))))⟩
theorem k57_ok : cfn Tryd.prog gl Tryd.f57 = some k57 := by kernel_rfl
def k58 : CFn := ⟨5, [(.t 2)], (sg ([
 cp 2 (.mov (.c (.str [])))]) (sg ([
 cp 3 (.mov (.t 0)),
 ch 4 (.call 69 [(.t 3), (z 10)]),
 cp 2 (.mov (.t 4))]) .ret))⟩
theorem k58_ok : cfn Tryd.prog gl Tryd.f58 = some k58 := by kernel_rfl
def k59 : CFn := ⟨50, [(.t 4)], (sg ([
 cp 4 (.mov (.c .nils))]) (sg ([
 cp 10 (.mov (.t 0)),
 ch 11 (.call 70 [(.t 10)]),
 cp 5 (.mov (.t 11))]) (sq (sg ([
 cp 12 (.mov (.t 1)),
 cp 13 (.bin .lss (.t 12) (z 0)),
 cp 14 (.mov (.t 13)),
 gp 15 14 false (.mov (.t 1)),
 gp 16 14 false (.mov (.t 5)),
 gp 17 14 false (.bin .gtr (.t 15) (.t 16)),
 cp 18 (.pick (.t 14) (.c (.bool true)) (.t 17))]) (.cond (.t 18) (.region [
 cp 19 (.mov (.t 5)),
 cp 1 (.mov (.t 19))]) .skip)) (sg ([
 cp 20 (.mov (.t 1)),
 ch 21 (.mksl 1 16 [(.str [])] (.t 20) (.t 20)),
 cp 6 (.mov (.t 21))]) (sq (sg ([
 cp 7 (.mov (z 0))]) (.block 0 (.loop (sq (sg ([
 cp 22 (.mov (.t 7)),
 cp 23 (.mov (.t 1)),
 cp 24 (.bin .sub (.t 23) (z 1)),
 cp 25 (.bin .lss (.t 22) (.t 24))]) (.cond (.t 25) .skip (.exit 0))) (sq (.block 1 (sg ([
 cp 29 (.mov (.t 0)),
 ch 30 (.call 71 [(.t 29)]),
 cp 28 (.mov (.t 30)),
 cp 31 (.ext 0 (.t 28)),
 cp 32 (.ext 1 (.t 28)),
 cp 8 (.mov (.t 31)),
 cp 9 (.mov (.t 32))]) (sg ([
 cp 33 (.mov (.t 6)),
 cp 34 (.mov (.t 7)),
 cp 35 (.mov (.t 0)),
 cp 36 (.mov (.t 9)),
 cp 37 (.slT (.t 35) none (some (.t 36))),
 cp 38 (.iadS 1 (.t 33) (.t 34)),
 cs 1 (.t 38) (.t 37)]) (.region [
 cp 39 (.mov (.t 0)),
 cp 40 (.mov (.t 9)),
 cp 41 (.slT (.t 39) (some (.t 40)) none),
 cp 0 (.mov (.t 41))])))) (.region [
 cp 26 (.mov (.t 7)),
 cp 27 (.bin .add (.t 26) (z 1)),
 cp 7 (.mov (.t 27))])))))) (sq (sg ([
 cp 42 (.mov (.t 1)),
 cp 43 (.bin .gtr (.t 42) (z 0))]) (.cond (.t 43) (.region [
 cp 44 (.mov (.t 6)),
 cp 45 (.mov (.t 1)),
 cp 46 (.bin .sub (.t 45) (z 1)),
 cp 47 (.mov (.t 0)),
 cp 48 (.iadS 1 (.t 44) (.t 46)),
 cs 1 (.t 48) (.t 47)]) .skip)) (sg ([
 cp 49 (.mov (.t 6)),
 cp 4 (.mov (.t 49))]) .ret)))))))⟩
theorem k59_ok : cfn Tryd.prog gl Tryd.f59 = some k59 := by kernel_rfl
def k60 : CFn := ⟨34, [(.t 4)], (sg ([
 cp 4 (.mov (z 0))]) (sq (sg ([
 cp 7 (.mov (.t 1)),
 cp 8 (.lenS (.t 7)),
 cp 9 (.bin .eql (.t 8) (z 0))]) (.cond (.t 9) (sg ([
 cp 10 (.mov (.t 0)),
 ch 11 (.call 70 [(.t 10)]),
 cp 12 (.bin .add (.t 11) (z 1)),
 cp 4 (.mov (.t 12))]) .ret) .skip)) (sq (sg ([
 cp 13 (.mov (.t 1)),
 cp 14 (.lenS (.t 13)),
 cp 15 (.bin .eql (.t 14) (z 1))]) (.cond (.t 15) (sg ([
 cp 16 (.mov (.t 0)),
 cp 17 (.mov (.t 1)),
 cp 18 (.idxS (.t 17) (z 0)),
 ch 19 (.xrow 1 [(.t 16), (.t 18)]),
 cp 4 (.mov (.t 19))]) .ret) .skip)) (sg ([
 cp 5 (.mov (z 0))]) (.block 0 (.loop (.block 1 (sg ([
 cp 20 (.mov (.t 0)),
 cp 21 (.mov (.t 1)),
 ch 22 (.call 61 [(.t 20), (.t 21)]),
 cp 6 (.mov (.t 22))]) (sq (sg ([
 cp 23 (.mov (.t 6)),
 cp 24 (.bin .eql (.t 23) (.c (.int .i64 (-1))))]) (.cond (.t 24) (sg ([
 cp 25 (.mov (.t 5)),
 cp 4 (.mov (.t 25))]) .ret) .skip)) (sg ([
 cp 26 (.mov (.t 5)),
 cp 27 (.bin .add (.t 26) (z 1)),
 cp 5 (.mov (.t 27))]) (.region [
 cp 28 (.mov (.t 0)),
 cp 29 (.mov (.t 6)),
 cp 30 (.mov (.t 1)),
 cp 31 (.lenS (.t 30)),
 cp 32 (.bin .add (.t 29) (.t 31)),
 cp 33 (.slT (.t 28) (some (.t 32)) none),
 cp 0 (.mov (.t 33))])))))))))))⟩
theorem k60_ok : cfn Tryd.prog gl Tryd.f60 = some k60 := by kernel_rfl
def k61 : CFn := ⟨8, [(.t 4)], (sg ([
 cp 4 (.mov (z 0))]) (sg ([
 cp 5 (.mov (.t 0)),
 cp 6 (.mov (.t 1)),
 ch 7 (.call 73 [(.t 5), (.t 6)]),
 cp 4 (.mov (.t 7))]) .ret))⟩
theorem k61_ok : cfn Tryd.prog gl Tryd.f61 = some k61 := by kernel_rfl
def k62 : CFn := ⟨5, [(.t 2)], (sg ([
 cp 2 (.mov (.c (.int .u8 0)))]) (sg ([
 cp 3 (.mov (.t 0)),
 cp 4 (.bin .or (.t 3) (.c (.int .u8 32))),
 cp 2 (.mov (.t 4))]) .ret))⟩
theorem k62_ok : cfn Tryd.prog gl Tryd.f62 = some k62 := by kernel_rfl
def k63 : CFn := ⟨94, [(.t 2)], (sg ([
 cp 2 (.mov (.c (.bool false)))]) (sg ([
 cp 3 (.mov (.c (.int .i32 94)))]) (sg ([
 cp 4 (.mov (z 0))]) (sq (sg ([
 cp 6 (.mov (.t 0)),
 cp 7 (.lenS (.t 6)),
 cp 8 (.bin .geq (.t 7) (z 1)),
 cp 9 (.mov (.t 8)),
 gp 10 9 true (.mov (.t 0)),
 gp 11 9 true (.idxS (.t 10) (z 0)),
 gp 12 9 true (.bin .eql (.t 11) (.c (.int .u8 45))),
 gp 13 9 true (.mov (.t 12)),
 gp 14 13 false (.mov (.t 0)),
 gp 15 13 false (.idxS (.t 14) (z 0)),
 gp 16 13 false (.bin .eql (.t 15) (.c (.int .u8 43))),
 gp 17 9 true (.pick (.t 13) (.c (.bool true)) (.t 16)),
 cp 18 (.pick (.t 9) (.t 17) (.c (.bool false)))]) (.cond (.t 18) (.region [
 cp 19 (.mov (.t 0)),
 cp 20 (.slT (.t 19) (some (z 1)) none),
 cp 0 (.mov (.t 20))]) .skip)) (sg ([
 cp 5 (.mov (.c (.bool false)))]) (sq (sg ([
 cp 21 (.mov (.t 0)),
 cp 22 (.lenS (.t 21)),
 cp 23 (.bin .geq (.t 22) (z 2)),
 cp 24 (.mov (.t 23)),
 gp 25 24 true (.mov (.t 0)),
 gp 26 24 true (.idxS (.t 25) (z 0)),
 gp 27 24 true (.bin .eql (.t 26) (.c (.int .u8 48))),
 cp 28 (.pick (.t 24) (.t 27) (.c (.bool false))),
 cp 29 (.mov (.t 28)),
 gp 30 29 true (.mov (.t 0)),
 gp 31 29 true (.idxS (.t 30) (z 1)),
 gh 32 29 true (.call 62 [(.t 31)]),
 gp 33 29 true (.bin .eql (.t 32) (.c (.int .u8 98))),
 gp 34 29 true (.mov (.t 33)),
 gp 35 34 false (.mov (.t 0)),
 gp 36 34 false (.idxS (.t 35) (z 1)),
 gh 37 34 false (.call 62 [(.t 36)]),
 gp 38 34 false (.bin .eql (.t 37) (.c (.int .u8 111))),
 gp 39 29 true (.pick (.t 34) (.c (.bool true)) (.t 38)),
 gp 40 29 true (.mov (.t 39)),
 gp 41 40 false (.mov (.t 0)),
 gp 42 40 false (.idxS (.t 41) (z 1)),
 gh 43 40 false (.call 62 [(.t 42)]),
 gp 44 40 false (.bin .eql (.t 43) (.c (.int .u8 120))),
 gp 45 29 true (.pick (.t 40) (.c (.bool true)) (.t 44)),
 cp 46 (.pick (.t 29) (.t 45) (.c (.bool false)))]) (.cond (.t 46) (sg ([
 cp 4 (.mov (z 2))]) (sg ([
 cp 3 (.mov (.c (.int .i32 48)))]) (.region [
 cp 47 (.mov (.t 0)),
 cp 48 (.idxS (.t 47) (z 1)),
 ch 49 (.call 62 [(.t 48)]),
 cp 50 (.bin .eql (.t 49) (.c (.int .u8 120))),
 cp 5 (.mov (.t 50))]))) .skip)) (sq (.block 0 (.loop (sq (sg ([
 cp 51 (.mov (.t 4)),
 cp 52 (.mov (.t 0)),
 cp 53 (.lenS (.t 52)),
 cp 54 (.bin .lss (.t 51) (.t 53))]) (.cond (.t 54) .skip (.exit 0))) (sq (.block 1 (sq (sg ([
 cp 57 (.mov (.t 0)),
 cp 58 (.mov (.t 4)),
 cp 59 (.idxS (.t 57) (.t 58)),
 cp 60 (.bin .leq (.c (.int .u8 48)) (.t 59)),
 cp 61 (.mov (.t 60)),
 gp 62 61 true (.mov (.t 0)),
 gp 63 61 true (.mov (.t 4)),
 gp 64 61 true (.idxS (.t 62) (.t 63)),
 gp 65 61 true (.bin .leq (.t 64) (.c (.int .u8 57))),
 cp 66 (.pick (.t 61) (.t 65) (.c (.bool false))),
 cp 67 (.mov (.t 66)),
 gp 68 67 false (.mov (.t 5)),
 gp 69 67 false (.mov (.t 68)),
 gp 70 69 true (.mov (.t 0)),
 gp 71 69 true (.mov (.t 4)),
 gp 72 69 true (.idxS (.t 70) (.t 71)),
 gh 73 69 true (.call 62 [(.t 72)]),
 gp 74 69 true (.bin .leq (.c (.int .u8 97)) (.t 73)),
 gp 75 67 false (.pick (.t 69) (.t 74) (.c (.bool false))),
 gp 76 67 false (.mov (.t 75)),
 gp 77 76 true (.mov (.t 0)),
 gp 78 76 true (.mov (.t 4)),
 gp 79 76 true (.idxS (.t 77) (.t 78)),
 gh 80 76 true (.call 62 [(.t 79)]),
 gp 81 76 true (.bin .leq (.t 80) (.c (.int .u8 102))),
 gp 82 67 false (.pick (.t 76) (.t 81) (.c (.bool false))),
 cp 83 (.pick (.t 67) (.c (.bool true)) (.t 82))]) (.cond (.t 83) (sg ([
 cp 3 (.mov (.c (.int .i32 48)))]) (.exit 1)) .skip)) (sq (sg ([
 cp 84 (.mov (.t 0)),
 cp 85 (.mov (.t 4)),
 cp 86 (.idxS (.t 84) (.t 85)),
 cp 87 (.bin .eql (.t 86) (.c (.int .u8 95)))]) (.cond (.t 87) (sq (sg ([
 cp 88 (.mov (.t 3)),
 cp 89 (.bin .neq (.t 88) (.c (.int .i32 48)))]) (.cond (.t 89) (sg ([
 cp 2 (.mov (.c (.bool false)))]) .ret) .skip)) (sg ([
 cp 3 (.mov (.c (.int .i32 95)))]) (.exit 1))) .skip)) (sq (sg ([
 cp 90 (.mov (.t 3)),
 cp 91 (.bin .eql (.t 90) (.c (.int .i32 95)))]) (.cond (.t 91) (sg ([
 cp 2 (.mov (.c (.bool false)))]) .ret) .skip)) (.region [
 cp 3 (.mov (.c (.int .i32 33)))]))))) (.region [
 cp 55 (.mov (.t 4)),
 cp 56 (.bin .add (.t 55) (z 1)),
 cp 4 (.mov (.t 56))]))))) (sg ([
 cp 92 (.mov (.t 3)),
 cp 93 (.bin .neq (.t 92) (.c (.int .i32 95))),
 cp 2 (.mov (.t 93))]) .ret))))))))⟩
theorem k63_ok : cfn Tryd.prog gl Tryd.f63 = some k63 := by kernel_rfl
def k64 : CFn := ⟨11, [(.t 4)], (sg ([
 cp 4 (.mov (.c .nilp))]) (sg ([
 cp 5 (.mov (.t 0)),
 cp 6 (.mov (.t 1)),
 ⟨some 7,none,.h (.call 74 [(.t 6)]),true,[]⟩,
 ⟨some 8,none,.h (.load false 1 (.c (.ptr 1 0))),true,[]⟩,
 cp 9 (.build [(.str []), (.str []), .nili] [(0, 1, (.t 5)), (1, 1, (.t 7)), (2, 1, (.t 8))]),
 ch 10 (.box (.t 9)),
 cp 4 (.mov (.t 10))]) .ret))⟩
theorem k64_ok : cfn Tryd.prog gl Tryd.f64 = some k64 := by kernel_rfl
def k65 : CFn := ⟨11, [(.t 4)], (sg ([
 cp 4 (.mov (.c .nilp))]) (sg ([
 cp 5 (.mov (.t 0)),
 cp 6 (.mov (.t 1)),
 ⟨some 7,none,.h (.call 74 [(.t 6)]),true,[]⟩,
 ⟨some 8,none,.h (.load false 1 (.c (.ptr 2 0))),true,[]⟩,
 cp 9 (.build [(.str []), (.str []), .nili] [(0, 1, (.t 5)), (1, 1, (.t 7)), (2, 1, (.t 8))]),
 ch 10 (.box (.t 9)),
 cp 4 (.mov (.t 10))]) .ret))⟩
theorem k65_ok : cfn Tryd.prog gl Tryd.f65 = some k65 := by kernel_rfl
def k66 : CFn := ⟨16, [(.t 6)], (sg ([
 cp 6 (.mov (.c .nilp))]) (sg ([
 cp 7 (.mov (.t 0)),
 cp 8 (.mov (.t 1)),
 ch 9 (.call 74 [(.t 8)]),
 cp 10 (.mov (.t 2)),
 ch 11 (.call 51 [(.t 10)]),
 cp 12 (.bin .add (.c (.str [105, 110, 118, 97, 108, 105, 100, 32, 98, 97, 115, 101, 32])) (.t 11)),
 ch 13 (.call 75 [(.t 12)]),
 cp 14 (.build [(.str []), (.str []), .nili] [(0, 1, (.t 7)), (1, 1, (.t 9)), (2, 1, (.t 13))]),
 ch 15 (.box (.t 14)),
 cp 6 (.mov (.t 15))]) .ret))⟩
theorem k66_ok : cfn Tryd.prog gl Tryd.f66 = some k66 := by kernel_rfl
def k67 : CFn := ⟨16, [(.t 6)], (sg ([
 cp 6 (.mov (.c .nilp))]) (sg ([
 cp 7 (.mov (.t 0)),
 cp 8 (.mov (.t 1)),
 ch 9 (.call 74 [(.t 8)]),
 cp 10 (.mov (.t 2)),
 ch 11 (.call 51 [(.t 10)]),
 cp 12 (.bin .add (.c (.str [105, 110, 118, 97, 108, 105, 100, 32, 98, 105, 116, 32, 115, 105, 122, 101, 32])) (.t 11)),
 ch 13 (.call 75 [(.t 12)]),
 cp 14 (.build [(.str []), (.str []), .nili] [(0, 1, (.t 7)), (1, 1, (.t 9)), (2, 1, (.t 13))]),
 ch 15 (.box (.t 14)),
 cp 6 (.mov (.t 15))]) .ret))⟩
theorem k67_ok : cfn Tryd.prog gl Tryd.f67 = some k67 := by kernel_rfl
def k68 : CFn := ⟨73, [(.t 6), (.t 7)], (sg ([
 cp 6 (.mov (z 0)),
 cp 7 (.mov (.c .nili))]) (sq (sg ([
 cp 12 (.mov (.t 0)),
 cp 13 (.bin .eql (.t 12) (.c (.str [])))]) (.cond (.t 13) (sg ([
 cp 14 (.mkif 105 (z 2)),
 cp 6 (.mov (z 0)),
 cp 7 (.mov (.t 14))]) .ret) .skip)) (sg ([
 cp 8 (.mov (.c (.bool false)))]) (sq (sg ([
 cp 15 (.mov (.t 0)),
 cp 16 (.idxS (.t 15) (z 0))]) (.block 0 (sg ([
 cp 18 (.bin .eql (.t 16) (.c (.int .u8 43))),
 cp 17 (.mov (.t 18))]) (.cond (.t 17) (.region [
 cp 19 (.mov (.t 0)),
 cp 20 (.slT (.t 19) (some (z 1)) none),
 cp 0 (.mov (.t 20))]) (sg ([
 cp 22 (.bin .eql (.t 16) (.c (.int .u8 45))),
 cp 21 (.mov (.t 22))]) (.cond (.t 21) (sg ([
 cp 23 (.mov (.t 0)),
 cp 24 (.slT (.t 23) (some (z 1)) none),
 cp 0 (.mov (.t 24))]) (.region [
 cp 8 (.mov (.c (.bool true)))])) .skip)))))) (sg ([
 cp 9 (.mov (.c (.int .u64 0)))]) (sg ([
 cp 26 (.mov (.t 0)),
 cp 27 (.mov (.t 1)),
 cp 28 (.mov (.t 2)),
 ch 29 (.call 55 [(.t 26), (.t 27), (.t 28)]),
 cp 25 (.mov (.t 29)),
 cp 30 (.ext 0 (.t 25)),
 cp 31 (.ext 1 (.t 25)),
 cp 9 (.mov (.t 30)),
 cp 7 (.mov (.t 31))]) (sq (sg ([
 cp 32 (.mov (.t 7)),
 cp 33 (.eqn true 0 (.t 32) (.c .nili)),
 cp 34 (.mov (.t 33)),
 gp 35 34 true (.mov (.t 7)),
 gp 36 34 true (.mkif 105 (z 1)),
 ⟨some 37, (some (34, true)), (.h .bad),false,[]⟩,
 cp 38 (.pick (.t 34) (.t 37) (.c (.bool false)))]) (.cond (.t 38) (sg ([
 cp 39 (.mov (.t 7)),
 cp 6 (.mov (z 0)),
 cp 7 (.mov (.t 39))]) .ret) .skip)) (sq (sg ([
 cp 40 (.mov (.t 2)),
 cp 41 (.bin .eql (.t 40) (z 0))]) (.cond (.t 41) (.region [
 cp 2 (.mov (z 64))]) .skip)) (sg ([
 cp 42 (.mov (.t 2)),
 cp 43 (.bin .sub (.t 42) (z 1)),
 cp 44 (.cvi .u64 (.t 43)),
 cp 45 (.bin .shl (.c (.int .u64 1)) (.t 44)),
 cp 10 (.mov (.t 45))]) (sq (sg ([
 cp 46 (.mov (.t 8)),
 cp 47 (.not (.t 46)),
 cp 48 (.mov (.t 47)),
 gp 49 48 true (.mov (.t 9)),
 gp 50 48 true (.mov (.t 10)),
 gp 51 48 true (.bin .geq (.t 49) (.t 50)),
 cp 52 (.pick (.t 48) (.t 51) (.c (.bool false)))]) (.cond (.t 52) (sg ([
 cp 53 (.mov (.t 10)),
 cp 54 (.bin .sub (.t 53) (.c (.int .u64 1))),
 cp 55 (.cvi .i64 (.t 54)),
 cp 56 (.mkif 105 (z 1)),
 cp 6 (.mov (.t 55)),
 cp 7 (.mov (.t 56))]) .ret) .skip)) (sq (sg ([
 cp 57 (.mov (.t 8)),
 cp 58 (.mov (.t 57)),
 gp 59 58 true (.mov (.t 9)),
 gp 60 58 true (.mov (.t 10)),
 gp 61 58 true (.bin .gtr (.t 59) (.t 60)),
 cp 62 (.pick (.t 58) (.t 61) (.c (.bool false)))]) (.cond (.t 62) (sg ([
 cp 63 (.mov (.t 10)),
 cp 64 (.cvi .i64 (.t 63)),
 cp 65 (.neg (.t 64)),
 cp 66 (.mkif 105 (z 1)),
 cp 6 (.mov (.t 65)),
 cp 7 (.mov (.t 66))]) .ret) .skip)) (sg ([
 cp 67 (.mov (.t 9)),
 cp 68 (.cvi .i64 (.t 67)),
 cp 11 (.mov (.t 68))]) (sq (sg ([
 cp 69 (.mov (.t 8))]) (.cond (.t 69) (.region [
 cp 70 (.mov (.t 11)),
 cp 71 (.neg (.t 70)),
 cp 11 (.mov (.t 71))]) .skip)) (sg ([
 cp 72 (.mov (.t 11)),
 cp 6 (.mov (.t 72)),
 cp 7 (.mov (.c .nili))]) .ret))))))))))))))⟩
theorem k68_ok : cfn Tryd.prog gl Tryd.f68 = some k68 := by kernel_rfl
def k69 : CFn := ⟨54, [(.t 4)], (sg ([
 cp 4 (.mov (.c (.str [])))]) (sq (sg ([
 cp 10 (.mov (.t 1)),
 cp 11 (.bin .eql (.t 10) (z 10))]) (.cond (.t 11) (sq (sg ([
 cp 12 (.mov (.t 0)),
 cp 13 (.bin .leq (z 0) (.t 12)),
 cp 14 (.mov (.t 13)),
 gp 15 14 true (.mov (.t 0)),
 gp 16 14 true (.bin .lss (.t 15) (z 100)),
 cp 17 (.pick (.t 14) (.t 16) (.c (.bool false)))]) (.cond (.t 17) (sg ([
 cp 18 (.mov (.t 0)),
 ch 19 (.call 76 [(.t 18)]),
 cp 4 (.mov (.t 19))]) .ret) .skip)) (sg ([
 ch 5 (.alloc [(.int .u8 0), (.int .u8 0), (.int .u8 0), (.int .u8 0), (.int .u8 0), (.int .u8 0), (.int .u8 0), (.int .u8 0), (.int .u8 0), (.int .u8 0), (.int .u8 0), (.int .u8 0), (.int .u8 0), (.int .u8 0), (.int .u8 0), (.int .u8 0), (.int .u8 0), (.int .u8 0), (.int .u8 0), (.int .u8 0), (.int .u8 0), (.int .u8 0), (.int .u8 0), (.int .u8 0)])]) (sg ([
 cp 20 (.mov (.t 0)),
 cp 21 (.cvi .u64 (.t 20)),
 cp 6 (.mov (.t 21))]) (sq (sg ([
 cp 22 (.mov (.t 0)),
 cp 23 (.bin .lss (.t 22) (z 0))]) (.cond (.t 23) (.region [
 cp 24 (.mov (.t 6)),
 cp 25 (.neg (.t 24)),
 cp 6 (.mov (.t 25))]) .skip)) (sg ([
 cp 26 (.mov (.t 6)),
 ch 27 (.call 77 [(.t 26)]),
 cp 7 (.mov (.t 27))]) (sg ([
 cp 28 (.mov (.t 7)),
 cp 29 (.bin .add (z 1) (.t 28)),
 ch 30 (.slA 24 1 (.t 5) (some (z 1)) (some (.t 29)) none),
 cp 31 (.mov (.t 6)),
 ch 32 (.call 78 [(.t 30), (.t 31)])]) (sq (sg ([
 cp 33 (.mov (.t 0)),
 cp 34 (.bin .lss (.t 33) (z 0))]) (.cond (.t 34) (sg ([
 cp 35 (.iadA 24 1 (.t 5) (z 0)),
 cs 1 (.t 35) (.c (.int .u8 45))]) (sg ([
 cp 36 (.mov (.t 7)),
 cp 37 (.bin .add (z 1) (.t 36)),
 ch 38 (.slA 24 1 (.t 5) none (some (.t 37)) none),
 ch 39 (.b2s (.t 38)),
 cp 4 (.mov (.t 39))]) .ret)) .skip)) (sg ([
 cp 40 (.mov (.t 7)),
 cp 41 (.bin .add (z 1) (.t 40)),
 ch 42 (.slA 24 1 (.t 5) (some (z 1)) (some (.t 41)) none),
 ch 43 (.b2s (.t 42)),
 cp 4 (.mov (.t 43))]) .ret)))))))) .skip)) (sg ([
 cp 45 (.mov (.t 0)),
 cp 46 (.cvi .u64 (.t 45)),
 cp 47 (.mov (.t 1)),
 cp 48 (.mov (.t 0)),
 cp 49 (.bin .lss (.t 48) (z 0)),
 ch 50 (.call 79 [(.c .nils), (.t 46), (.t 47), (.t 49), (.c (.bool false))]),
 cp 44 (.mov (.t 50)),
 cp 51 (.ext 0 (.t 44)),
 cp 52 (.ext 1 (.t 44)),
 cp 8 (.mov (.t 51)),
 cp 9 (.mov (.t 52))]) (sg ([
 cp 53 (.mov (.t 9)),
 cp 4 (.mov (.t 53))]) .ret))))⟩
theorem k69_ok : cfn Tryd.prog gl Tryd.f69 = some k69 := by kernel_rfl
def k70 : CFn := ⟨10, [(.t 2)], (sg ([
 cp 2 (.mov (z 0))]) (sq (sg ([
 cp 3 (.mov (.t 0)),
 ch 4 (.range (.t 3))]) (.block 0 (.loop (sg ([
 ch 5 (.next (.t 4)),
 cp 6 (.ext 0 (.t 5))]) (sq (.cond (.t 6) .skip (.exit 0)) (.block 1 (.region [
 cp 7 (.mov (.t 2)),
 cp 8 (.bin .add (.t 7) (z 1)),
 cp 2 (.mov (.t 8))]))))))) (sg ([
 cp 9 (.mov (.t 2)),
 cp 2 (.mov (.t 9))]) .ret)))⟩
theorem k70_ok : cfn Tryd.prog gl Tryd.f70 = some k70 := by kernel_rfl
def k71 : CFn := ⟨19, [(.t 2), (.t 3)], (sg ([
 cp 2 (.mov (.c (.int .i32 0))),
 cp 3 (.mov (z 0))]) (sq (sg ([
 cp 4 (.mov (.t 0)),
 cp 5 (.bin .neq (.t 4) (.c (.str []))),
 cp 6 (.mov (.t 5)),
 gp 7 6 true (.mov (.t 0)),
 gp 8 6 true (.idxS (.t 7) (z 0)),
 gp 9 6 true (.bin .lss (.t 8) (.c (.int .u8 128))),
 cp 10 (.pick (.t 6) (.t 9) (.c (.bool false)))]) (.cond (.t 10) (sg ([
 cp 11 (.mov (.t 0)),
 cp 12 (.idxS (.t 11) (z 0)),
 cp 13 (.cvi .i32 (.t 12)),
 cp 2 (.mov (.t 13)),
 cp 3 (.mov (z 1))]) .ret) (.region [
 cp 15 (.mov (.t 0)),
 ch 16 (.call 80 [(.t 15)]),
 cp 14 (.mov (.t 16)),
 cp 17 (.ext 0 (.t 14)),
 cp 18 (.ext 1 (.t 14)),
 cp 2 (.mov (.t 17)),
 cp 3 (.mov (.t 18))]))) .ret))⟩
theorem k71_ok : cfn Tryd.prog gl Tryd.f71 = some k71 := by kernel_rfl
def k73 : CFn := ⟨143, [(.t 4)], (sg ([
 cp 4 (.mov (z 0))]) (sg ([
 cp 14 (.mov (.t 1)),
 cp 15 (.lenS (.t 14)),
 cp 5 (.mov (.t 15))]) (sq (.block 0 (sg ([
 cp 17 (.mov (.t 5)),
 cp 18 (.bin .eql (.t 17) (z 0)),
 cp 19 (.mov (.t 18)),
 gp 20 19 false (.mov (.t 1)),
 gp 21 19 false (.mov (.t 0)),
 gp 22 19 false (.bin .eql (.t 20) (.t 21)),
 cp 23 (.pick (.t 19) (.c (.bool true)) (.t 22)),
 cp 16 (.mov (.t 23))]) (.cond (.t 16) (sg ([
 cp 4 (.mov (z 0))]) .ret) (sg ([
 cp 25 (.mov (.t 5)),
 cp 26 (.bin .eql (.t 25) (z 1)),
 cp 24 (.mov (.t 26))]) (.cond (.t 24) (sg ([
 cp 27 (.mov (.t 0)),
 cp 28 (.mov (.t 1)),
 cp 29 (.idxS (.t 28) (z 0)),
 ch 30 (.call 81 [(.t 27), (.t 29)]),
 cp 4 (.mov (.t 30))]) .ret) (sg ([
 cp 32 (.mov (.t 5)),
 cp 33 (.mov (.t 0)),
 cp 34 (.lenS (.t 33)),
 cp 35 (.bin .geq (.t 32) (.t 34)),
 cp 31 (.mov (.t 35))]) (.cond (.t 31) (sg ([
 cp 4 (.mov (.c (.int .i64 (-1))))]) .ret) (sg ([
 cp 37 (.mov (.t 5)),
 ch 38 (.load false 1 (.c (.ptr 3 0))),
 cp 39 (.bin .leq (.t 37) (.t 38)),
 cp 40 (.mov (.t 39)),
 gp 41 40 true (.mov (.t 0)),
 gp 42 40 true (.lenS (.t 41)),
 gp 43 40 true (.bin .leq (.t 42) (z 64)),
 cp 44 (.pick (.t 40) (.t 43) (.c (.bool false))),
 cp 36 (.mov (.t 44))]) (.cond (.t 36) (sg ([
 cp 45 (.mov (.t 0)),
 cp 46 (.mov (.t 1)),
 ⟨some 47, none, (.h .bad),false,[]⟩,
 cp 4 (.mov (.t 47))]) .ret) .skip))))))))) (sg ([
 cp 48 (.mov (.t 1)),
 cp 49 (.idxS (.t 48) (z 0)),
 cp 6 (.mov (.t 49))]) (sg ([
 cp 50 (.mov (.t 1)),
 cp 51 (.idxS (.t 50) (z 1)),
 cp 7 (.mov (.t 51))]) (sg ([
 cp 8 (.mov (z 0))]) (sg ([
 cp 52 (.mov (.t 0)),
 cp 53 (.lenS (.t 52)),
 cp 54 (.mov (.t 5)),
 cp 55 (.bin .sub (.t 53) (.t 54)),
 cp 56 (.bin .add (.t 55) (z 1)),
 cp 9 (.mov (.t 56))]) (sg ([
 cp 10 (.mov (z 0))]) (sq (.block 1 (.loop (sq (sg ([
 cp 57 (.mov (.t 8)),
 cp 58 (.mov (.t 9)),
 cp 59 (.bin .lss (.t 57) (.t 58))]) (.cond (.t 59) .skip (.exit 1))) (.block 2 (sq (sg ([
 cp 60 (.mov (.t 0)),
 cp 61 (.mov (.t 8)),
 cp 62 (.idxS (.t 60) (.t 61)),
 cp 63 (.mov (.t 6)),
 cp 64 (.bin .neq (.t 62) (.t 63))]) (.cond (.t 64) (sg ([
 cp 65 (.mov (.t 0)),
 cp 66 (.mov (.t 8)),
 cp 67 (.bin .add (.t 66) (z 1)),
 cp 68 (.mov (.t 9)),
 cp 69 (.slT (.t 65) (some (.t 67)) (some (.t 68))),
 cp 70 (.mov (.t 6)),
 ch 71 (.call 81 [(.t 69), (.t 70)]),
 cp 11 (.mov (.t 71))]) (sq (sg ([
 cp 72 (.mov (.t 11)),
 cp 73 (.bin .lss (.t 72) (z 0))]) (.cond (.t 73) (sg ([
 cp 4 (.mov (.c (.int .i64 (-1))))]) .ret) .skip)) (.region [
 cp 74 (.mov (.t 8)),
 cp 75 (.mov (.t 11)),
 cp 76 (.bin .add (.t 75) (z 1)),
 cp 77 (.bin .add (.t 74) (.t 76)),
 cp 8 (.mov (.t 77))]))) .skip)) (sq (sg ([
 cp 78 (.mov (.t 0)),
 cp 79 (.mov (.t 8)),
 cp 80 (.bin .add (.t 79) (z 1)),
 cp 81 (.idxS (.t 78) (.t 80)),
 cp 82 (.mov (.t 7)),
 cp 83 (.bin .eql (.t 81) (.t 82)),
 cp 84 (.mov (.t 83)),
 gp 85 84 true (.mov (.t 0)),
 gp 86 84 true (.mov (.t 8)),
 gp 87 84 true (.mov (.t 8)),
 gp 88 84 true (.mov (.t 5)),
 gp 89 84 true (.bin .add (.t 87) (.t 88)),
 gp 90 84 true (.slT (.t 85) (some (.t 86)) (some (.t 89))),
 gp 91 84 true (.mov (.t 1)),
 gp 92 84 true (.bin .eql (.t 90) (.t 91)),
 cp 93 (.pick (.t 84) (.t 92) (.c (.bool false)))]) (.cond (.t 93) (sg ([
 cp 94 (.mov (.t 8)),
 cp 4 (.mov (.t 94))]) .ret) .skip)) (sg ([
 cp 95 (.mov (.t 8)),
 cp 96 (.bin .add (.t 95) (z 1)),
 cp 8 (.mov (.t 96))]) (sg ([
 cp 97 (.mov (.t 10)),
 cp 98 (.bin .add (.t 97) (z 1)),
 cp 10 (.mov (.t 98))]) (sg ([
 cp 99 (.mov (.t 5)),
 ch 100 (.load false 1 (.c (.ptr 3 0))),
 cp 101 (.bin .leq (.t 99) (.t 100)),
 cp 102 (.mov (.t 101)),
 gp 103 102 true (.mov (.t 10)),
 gp 104 102 true (.mov (.t 8)),
 gh 105 102 true (.call 83 [(.t 104)]),
 gp 106 102 true (.bin .gtr (.t 103) (.t 105)),
 cp 107 (.pick (.t 102) (.t 106) (.c (.bool false)))]) (.cond (.t 107) (sg ([
 cp 108 (.mov (.t 0)),
 cp 109 (.mov (.t 8)),
 cp 110 (.slT (.t 108) (some (.t 109)) none),
 cp 111 (.mov (.t 1)),
 ⟨some 112, none, (.h .bad),false,[]⟩,
 cp 12 (.mov (.t 112))]) (sq (sg ([
 cp 113 (.mov (.t 12)),
 cp 114 (.bin .geq (.t 113) (z 0))]) (.cond (.t 114) (sg ([
 cp 115 (.mov (.t 12)),
 cp 116 (.mov (.t 8)),
 cp 117 (.bin .add (.t 115) (.t 116)),
 cp 4 (.mov (.t 117))]) .ret) .skip)) (sg ([
 cp 4 (.mov (.c (.int .i64 (-1))))]) .ret))) (sg ([
 cp 118 (.mov (.t 5)),
 ch 119 (.load false 1 (.c (.ptr 3 0))),
 cp 120 (.bin .gtr (.t 118) (.t 119)),
 cp 121 (.mov (.t 120)),
 gp 122 121 true (.mov (.t 10)),
 gp 123 121 true (.mov (.t 8)),
 gp 124 121 true (.bin .shr (.t 123) (.c (.int .u64 4))),
 gp 125 121 true (.bin .add (z 4) (.t 124)),
 gp 126 121 true (.bin .geq (.t 122) (.t 125)),
 cp 127 (.pick (.t 121) (.t 126) (.c (.bool false))),
 cp 128 (.mov (.t 127)),
 gp 129 128 true (.mov (.t 8)),
 gp 130 128 true (.mov (.t 9)),
 gp 131 128 true (.bin .lss (.t 129) (.t 130)),
 cp 132 (.pick (.t 128) (.t 131) (.c (.bool false)))]) (.cond (.t 132) (sg ([
 cp 133 (.mov (.t 0)),
 cp 134 (.mov (.t 8)),
 cp 135 (.slT (.t 133) (some (.t 134)) none),
 cp 136 (.mov (.t 1)),
 ch 137 (.call 84 [(.t 135), (.t 136)]),
 cp 13 (.mov (.t 137))]) (sq (sg ([
 cp 138 (.mov (.t 13)),
 cp 139 (.bin .lss (.t 138) (z 0))]) (.cond (.t 139) (sg ([
 cp 4 (.mov (.c (.int .i64 (-1))))]) .ret) .skip)) (sg ([
 cp 140 (.mov (.t 8)),
 cp 141 (.mov (.t 13)),
 cp 142 (.bin .add (.t 140) (.t 141)),
 cp 4 (.mov (.t 142))]) .ret))) .skip)))))))))))) (sg ([
 cp 4 (.mov (.c (.int .i64 (-1))))]) .ret))))))))))⟩
theorem k73_ok : cfn Tryd.prog gl Tryd.f73 = some k73 := by kernel_rfl
def k74 : CFn := ⟨18, [(.t 2)], (sg ([
 cp 2 (.mov (.c (.str [])))]) (sq (sg ([
 cp 4 (.mov (.t 0)),
 cp 5 (.lenS (.t 4)),
 cp 6 (.bin .eql (.t 5) (z 0))]) (.cond (.t 6) (sg ([
 cp 2 (.mov (.c (.str [])))]) .ret) .skip)) (sg ([
 cp 7 (.mov (.t 0)),
 cp 8 (.lenS (.t 7)),
 ch 9 (.mksl 1 1 [(.int .u8 0)] (.t 8) (.t 8)),
 cp 3 (.mov (.t 9))]) (sg ([
 cp 10 (.mov (.t 3)),
 cp 11 (.mov (.t 0)),
 ch 12 (.copy 1 (.t 10) (.t 11))]) (sg ([
 cp 13 (.mov (.t 3)),
 cp 14 (.iadS 1 (.t 13) (z 0)),
 cp 15 (.mov (.t 3)),
 cp 16 (.len (.t 15)),
 ⟨some 17, none, (.h .bad),false,[]⟩,
 cp 2 (.mov (.t 17))]) .ret)))))⟩
theorem k74_ok : cfn Tryd.prog gl Tryd.f74 = some k74 := by kernel_rfl
def k75 : CFn := ⟨7, [(.t 2)], (sg ([
 cp 2 (.mov (.c .nili))]) (sg ([
 cp 3 (.mov (.t 0)),
 cp 4 (.build [(.str [])] [(0, 1, (.t 3))]),
 ch 5 (.box (.t 4)),
 cp 6 (.mkif 130 (.t 5)),
 cp 2 (.mov (.t 6))]) .ret))⟩
theorem k75_ok : cfn Tryd.prog gl Tryd.f75 = some k75 := by kernel_rfl
def k76 : CFn := ⟨15, [(.t 2)], (sg ([
 cp 2 (.mov (.c (.str [])))]) (sq (sg ([
 cp 3 (.mov (.t 0)),
 cp 4 (.bin .lss (.t 3) (z 10))]) (.cond (.t 4) (sg ([
 cp 5 (.mov (.t 0)),
 cp 6 (.mov (.t 0)),
 cp 7 (.bin .add (.t 6) (z 1)),
 cp 8 (.slT (.c (.str [48, 49, 50, 51, 52, 53, 54, 55, 56, 57, 97, 98, 99, 100, 101, 102, 103, 104, 105, 106, 107, 108, 109, 110, 111, 112, 113, 114, 115, 116, 117, 118, 119, 120, 121, 122])) (some (.t 5)) (some (.t 7))),
 cp 2 (.mov (.t 8))]) .ret) .skip)) (sg ([
 cp 9 (.mov (.t 0)),
 cp 10 (.bin .mul (.t 9) (z 2)),
 cp 11 (.mov (.t 0)),
 cp 12 (.bin .mul (.t 11) (z 2)),
 cp 13 (.bin .add (.t 12) (z 2)),
 cp 14 (.slT (.c (.str [48, 48, 48, 49, 48, 50, 48, 51, 48, 52, 48, 53, 48, 54, 48, 55, 48, 56, 48, 57, 49, 48, 49, 49, 49, 50, 49, 51, 49, 52, 49, 53, 49, 54, 49, 55, 49, 56, 49, 57, 50, 48, 50, 49, 50, 50, 50, 51, 50, 52, 50, 53, 50, 54, 50, 55, 50, 56, 50, 57, 51, 48, 51, 49, 51, 50, 51, 51, 51, 52, 51, 53, 51, 54, 51, 55, 51, 56, 51, 57, 52, 48, 52, 49, 52, 50, 52, 51, 52, 52, 52, 53, 52, 54, 52, 55, 52, 56, 52, 57, 53, 48, 53, 49, 53, 50, 53, 51, 53, 52, 53, 53, 53, 54, 53, 55, 53, 56, 53, 57, 54, 48, 54, 49, 54, 50, 54, 51, 54, 52, 54, 53, 54, 54, 54, 55, 54, 56, 54, 57, 55, 48, 55, 49, 55, 50, 55, 51, 55, 52, 55, 53, 55, 54, 55, 55, 55, 56, 55, 57, 56, 48, 56, 49, 56, 50, 56, 51, 56, 52, 56, 53, 56, 54, 56, 55, 56, 56, 56, 57, 57, 48, 57, 49, 57, 50, 57, 51, 57, 52, 57, 53, 57, 54, 57, 55, 57, 56, 57, 57])) (some (.t 10)) (some (.t 13))),
 cp 2 (.mov (.t 14))]) .ret)))⟩
theorem k76_ok : cfn Tryd.prog gl Tryd.f76 = some k76 := by kernel_rfl
def k77 : CFn := ⟨15, [(.t 2)], (sg ([
 cp 2 (.mov (z 0))]) (sg ([
 cp 4 (.mov (.t 0)),
 ch 5 (.call 86 [(.t 4)]),
 ch 6 (.call 85 [(.t 5)]),
 cp 3 (.mov (.t 6))]) (sg ([
 cp 7 (.mov (.t 3)),
 cp 8 (.mov (.t 0)),
 cp 9 (.mov (.t 3)),
 cp 10 (.iadA 20 1 (.c (.ptr 4 0)) (.t 9)),
 ch 11 (.load false 1 (.t 10)),
 cp 12 (.bin .geq (.t 8) (.t 11)),
 ch 13 (.call 87 [(.t 12)]),
 cp 14 (.bin .add (.t 7) (.t 13)),
 cp 2 (.mov (.t 14))]) .ret)))⟩
theorem k77_ok : cfn Tryd.prog gl Tryd.f77 = some k77 := by kernel_rfl

end
end Vm
end Go.Proofs.YtgncjbodicabnaaDoor

