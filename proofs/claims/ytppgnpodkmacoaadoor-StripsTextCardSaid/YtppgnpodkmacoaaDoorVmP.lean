/-
  The program's text for the machine. (Printed by a program.)
-/
import Derived.Test.YtppgnpodkmacoaaDoorVmK1
import Derived.KernelRfl
set_option linter.unusedSimpArgs false
set_option linter.unusedVariables false

namespace Go.Proofs.YtppgnpodkmacoaaDoor
namespace Vm
open Go Go.Vm Go.Vm.W
noncomputable section
set_option maxRecDepth 100000
def prog : Tr CFn := (.n (.n (.n (.n (.n (.n (.n .e (some k63) .e) (some k31) .e) none .e) none (.n .e (some k23) .e)) (some k3) (.n (.n .e none (.n (.n .e (some k83) .e) none .e)) (some k11) (.n .e none (.n .e (some k59) .e)))) none (.n (.n (.n (.n (.n .e (some k65) .e) none (.n .e (some k97) .e)) (some k17) (.n (.n .e (some k81) .e) (some k49) .e)) (some k9) (.n .e (some k25) .e)) none (.n (.n (.n .e (some k37) .e) none .e) (some k13) .e))) none (.n (.n (.n (.n (.n (.n .e (some k64) .e) none (.n .e (some k96) .e)) none (.n .e (some k48) .e)) (some k8) (.n .e (some k24) .e)) none (.n (.n (.n .e (some k36) .e) none .e) (some k12) (.n .e (some k28) .e))) none (.n (.n (.n .e (some k18) (.n (.n .e (some k82) .e) (some k50) .e)) (some k10) (.n .e (some k26) (.n .e (some k58) .e))) none (.n .e (some k14) (.n .e (some k30) (.n .e (some k62) .e))))))
def kl : List (Nat × CFn) := [(3, k3), (8, k8), (9, k9), (10, k10), (11, k11), (12, k12), (13, k13), (14, k14), (17, k17), (18, k18), (23, k23), (24, k24), (25, k25), (26, k26), (28, k28), (30, k30), (31, k31), (36, k36), (37, k37), (48, k48), (49, k49), (50, k50), (58, k58), (59, k59), (62, k62), (63, k63), (64, k64), (65, k65), (81, k81), (82, k82), (83, k83), (96, k96), (97, k97)]
theorem kl_ok : AllK Tryd.prog gl kl := ⟨⟨Tryd.f3, Tryd.func3, k3_ok⟩, ⟨Tryd.f8, Tryd.func8, k8_ok⟩, ⟨Tryd.f9, Tryd.func9, k9_ok⟩, ⟨Tryd.f10, Tryd.func10, k10_ok⟩, ⟨Tryd.f11, Tryd.func11, k11_ok⟩, ⟨Tryd.f12, Tryd.func12, k12_ok⟩, ⟨Tryd.f13, Tryd.func13, k13_ok⟩, ⟨Tryd.f14, Tryd.func14, k14_ok⟩, ⟨Tryd.f17, Tryd.func17, k17_ok⟩, ⟨Tryd.f18, Tryd.func18, k18_ok⟩, ⟨Tryd.f23, Tryd.func23, k23_ok⟩, ⟨Tryd.f24, Tryd.func24, k24_ok⟩, ⟨Tryd.f25, Tryd.func25, k25_ok⟩, ⟨Tryd.f26, Tryd.func26, k26_ok⟩, ⟨Tryd.f28, Tryd.func28, k28_ok⟩, ⟨Tryd.f30, Tryd.func30, k30_ok⟩, ⟨Tryd.f31, Tryd.func31, k31_ok⟩, ⟨Tryd.f36, Tryd.func36, k36_ok⟩, ⟨Tryd.f37, Tryd.func37, k37_ok⟩, ⟨Tryd.f48, Tryd.func48, k48_ok⟩, ⟨Tryd.f49, Tryd.func49, k49_ok⟩, ⟨Tryd.f50, Tryd.func50, k50_ok⟩, ⟨Tryd.f58, Tryd.func58, k58_ok⟩, ⟨Tryd.f59, Tryd.func59, k59_ok⟩, ⟨Tryd.f62, Tryd.func62, k62_ok⟩, ⟨Tryd.f63, Tryd.func63, k63_ok⟩, ⟨Tryd.f64, Tryd.func64, k64_ok⟩, ⟨Tryd.f65, Tryd.func65, k65_ok⟩, ⟨Tryd.f81, Tryd.func81, k81_ok⟩, ⟨Tryd.f82, Tryd.func82, k82_ok⟩, ⟨Tryd.f83, Tryd.func83, k83_ok⟩, ⟨Tryd.f96, Tryd.func96, k96_ok⟩, ⟨Tryd.f97, Tryd.func97, k97_ok⟩, trivial⟩
-- [(3, crimp/crimplaw16.StripsText), (8, crimp/crimplaw16.lives), (9, (crimp/crimplaw16.T).Of), (10, strconv.Itoa), (11, crimp/strips.Parse), (12, crimp/strips.Text), (13, crimp/crimplaw16.same), (14, crimp/strips.Check), (17, crimp/strips.Pattern), (18, crimp/strips.Turn), (23, crimp/crimplaw16.example), (24, crimp/crimplaw16.list), (25, crimp/strips.Over), (26, internal/strconv.Itoa), (28, slices.Index[[]string,string]), (30, slices.Clip[[]int,int]), (31, slices.Clip[[]crimp/api.Kind,crimp/api.Kind]), (36, crimp/strips.turned[int]), (37, crimp/strips.turned[crimp/api.Kind]), (48, slices.Clone[[]int,int]), (49, slices.Clone[[]crimp/api.Kind,crimp/api.Kind]), (50, internal/strconv.FormatInt), (58, slices.Reverse[[]int,int]), (59, slices.Reverse[[]crimp/api.Kind,crimp/api.Kind]), (62, internal/strconv.small), (63, internal/strconv.numDigits), (64, internal/strconv.formatBase10), (65, internal/strconv.formatBits), (81, internal/strconv.bool2[int]), (82, internal/strconv.isPowerOfTwo), (83, math/bits.TrailingZeros), (96, math/bits.TrailingZeros32), (97, math/bits.TrailingZeros64)]
-- globals [crimp/strips.letters, internal/strconv.uint64pow10, strconv.ErrSyntax, strconv.ErrRange, crimp/cells.quarters, internal/bytealg.MaxLen, math/bits.deBruijn32tab, math/bits.deBruijn64tab, unicode/utf8.first, unicode/utf8.acceptRanges]
theorem prog_eq : prog = ofK kl := by kernel_rfl
theorem prog_ok : ProgOK Tryd.prog gl prog := prog_eq ▸ progOK_of kl_ok
end
end Vm
end Go.Proofs.YtppgnpodkmacoaaDoor
