/-
  The program's text for the machine. (Printed by a program.)
-/
import Derived.Test.YtldgdgacdcenkaaDoorVmK1
import Derived.KernelRfl
set_option linter.unusedSimpArgs false
set_option linter.unusedVariables false
set_option linter.unusedSectionVars false
set_option linter.unnecessarySimpa false
namespace Go.Proofs.YtldgdgacdcenkaaDoor
namespace Vm
open Go Go.Vm Go.Vm.W
noncomputable section
set_option maxRecDepth 100000
def prog:Tr CFn:=(.n (.n (.n (.n (.n (.n .e (some k31) (.n .e (some k95) .e)) (some k15) .e) (some k7) (.n (.n (.n .e (some k71) .e) none .e) (some k23) (.n (.n .e (some k87) .e) none .e))) none (.n (.n (.n .e (some k35) .e) (some k19) .e) (some k11) (.n (.n .e (some k43) .e) (some k27) .e))) none (.n (.n (.n (.n .e (some k33) .e) (some k17) (.n .e (some k49) .e)) (some k9) (.n (.n (.n .e (some k73) .e) (some k41) .e) (some k25) (.n .e none (.n .e (some k121) .e)))) (some k5) (.n (.n .e (some k21) (.n (.n .e (some k85) .e) none .e)) (some k13) (.n (.n .e (some k45) .e) none .e)))) none (.n (.n (.n (.n (.n .e (some k32) (.n .e (some k96) .e)) (some k16) .e) (some k8) (.n (.n (.n .e (some k72) .e) none .e) (some k24) (.n .e none (.n .e (some k120) .e)))) (some k4) (.n (.n (.n .e (some k36) .e) (some k20) .e) (some k12) (.n (.n .e (some k44) .e) (some k28) .e))) none (.n (.n (.n (.n .e (some k34) .e) (some k18) .e) (some k10) (.n .e (some k26) (.n .e (some k58) (.n .e (some k122) .e)))) (some k6) (.n (.n (.n (.n .e (some k70) .e) (some k38) .e) (some k22) (.n (.n .e (some k86) .e) none .e)) (some k14) (.n .e (some k30) .e)))))
def kl:List (Nat×CFn):=[(4,k4),(5,k5),(6,k6),(7,k7),(8,k8),(9,k9),(10,k10),(11,k11),(12,k12),(13,k13),(14,k14),(15,k15),(16,k16),(17,k17),(18,k18),(19,k19),(20,k20),(21,k21),(22,k22),(23,k23),(24,k24),(25,k25),(26,k26),(27,k27),(28,k28),(30,k30),(31,k31),(32,k32),(33,k33),(34,k34),(35,k35),(36,k36),(38,k38),(41,k41),(43,k43),(44,k44),(45,k45),(49,k49),(58,k58),(70,k70),(71,k71),(72,k72),(73,k73),(85,k85),(86,k86),(87,k87),(95,k95),(96,k96),(120,k120),(121,k121),(122,k122)]
theorem kl_ok:AllK Tryd.prog gl its kl:=⟨⟨Tryd.f4,Tryd.func4,.inl k4_ok⟩,⟨Tryd.f5,Tryd.func5,.inl k5_ok⟩,⟨Tryd.f6,Tryd.func6,.inl k6_ok⟩,⟨Tryd.f7,Tryd.func7,.inl k7_ok⟩,⟨Tryd.f8,Tryd.func8,.inl k8_ok⟩,⟨Tryd.f9,Tryd.func9,.inl k9_ok⟩,⟨Tryd.f10,Tryd.func10,.inl k10_ok⟩,⟨Tryd.f11,Tryd.func11,.inl k11_ok⟩,⟨Tryd.f12,Tryd.func12,.inl k12_ok⟩,⟨Tryd.f13,Tryd.func13,.inl k13_ok⟩,⟨Tryd.f14,Tryd.func14,.inl k14_ok⟩,⟨Tryd.f15,Tryd.func15,.inl k15_ok⟩,⟨Tryd.f16,Tryd.func16,.inl k16_ok⟩,⟨Tryd.f17,Tryd.func17,.inl k17_ok⟩,⟨Tryd.f18,Tryd.func18,.inl k18_ok⟩,⟨Tryd.f19,Tryd.func19,.inl k19_ok⟩,⟨Tryd.f20,Tryd.func20,.inl k20_ok⟩,⟨Tryd.f21,Tryd.func21,.inl k21_ok⟩,⟨Tryd.f22,Tryd.func22,.inl k22_ok⟩,⟨Tryd.f23,Tryd.func23,.inl k23_ok⟩,⟨Tryd.f24,Tryd.func24,.inl k24_ok⟩,⟨Tryd.f25,Tryd.func25,.inl k25_ok⟩,⟨Tryd.f26,Tryd.func26,.inl k26_ok⟩,⟨Tryd.f27,Tryd.func27,.inl k27_ok⟩,⟨Tryd.f28,Tryd.func28,.inl k28_ok⟩,⟨Tryd.f30,Tryd.func30,.inl k30_ok⟩,⟨Tryd.f31,Tryd.func31,.inl k31_ok⟩,⟨Tryd.f32,Tryd.func32,.inl k32_ok⟩,⟨Tryd.f33,Tryd.func33,.inl k33_ok⟩,⟨Tryd.f34,Tryd.func34,.inl k34_ok⟩,⟨Tryd.f35,Tryd.func35,.inl k35_ok⟩,⟨Tryd.f36,Tryd.func36,.inl k36_ok⟩,⟨Tryd.f38,Tryd.func38,.inl k38_ok⟩,⟨Tryd.f41,Tryd.func41,.inl k41_ok⟩,⟨Tryd.f43,Tryd.func43,.inl k43_ok⟩,⟨Tryd.f44,Tryd.func44,.inl k44_ok⟩,⟨Tryd.f45,Tryd.func45,.inl k45_ok⟩,⟨Tryd.f49,Tryd.func49,.inl k49_ok⟩,⟨Tryd.f58,Tryd.func58,.inl k58_ok⟩,⟨Tryd.f70,Tryd.func70,.inl k70_ok⟩,⟨Tryd.f71,Tryd.func71,.inl k71_ok⟩,⟨Tryd.f72,Tryd.func72,.inl k72_ok⟩,⟨Tryd.f73,Tryd.func73,.inl k73_ok⟩,⟨Tryd.f85,Tryd.func85,.inl k85_ok⟩,⟨Tryd.f86,Tryd.func86,.inl k86_ok⟩,⟨Tryd.f87,Tryd.func87,.inl k87_ok⟩,⟨Tryd.f95,Tryd.func95,.inl k95_ok⟩,⟨Tryd.f96,Tryd.func96,.inl k96_ok⟩,⟨Tryd.f120,Tryd.func120,.inl k120_ok⟩,⟨Tryd.f121,Tryd.func121,.inl k121_ok⟩,⟨Tryd.f122,Tryd.func122,.inl k122_ok⟩,trivial⟩
theorem prog_eq:prog=ofK kl:=by kernel_rfl
theorem prog_ok:ProgOK Tryd.prog gl prog:=prog_eq▸progOK_of its_ok kl_ok
end
end Vm
end Go.Proofs.YtldgdgacdcenkaaDoor
