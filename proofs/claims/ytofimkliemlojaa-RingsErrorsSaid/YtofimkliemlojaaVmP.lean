/-
  The program's text for the machine. (Printed by a program.)
-/
import Derived.Test.YtofimkliemlojaaVmK1
import Derived.KernelRfl
set_option linter.unusedSimpArgs false
set_option linter.unusedVariables false
set_option linter.unusedSectionVars false
set_option linter.unnecessarySimpa false
namespace Go.Proofs.Ytofimkliemlojaa
namespace Vm
open Go Go.Vm Go.Vm.W
noncomputable section
set_option maxRecDepth 100000
def prog:Tr CFn:=(.n (.n (.n (.n (.n (.n (.n .e (some k63) .e) (some k31) .e) none (.n (.n .e (some k79) .e) (some k47) .e)) (some k7) (.n (.n .e (some k39) .e) none (.n .e (some k55) .e))) none (.n (.n (.n .e (some k35) .e) (some k19) .e) (some k11) (.n (.n .e (some k43) .e) (some k27) .e))) none (.n (.n (.n (.n .e (some k33) .e) (some k17) .e) none (.n (.n .e (some k41) .e) (some k25) (.n .e (some k57) .e))) none (.n (.n (.n .e (some k37) .e) (some k21) (.n .e (some k53) .e)) (some k13) (.n .e none (.n .e (some k61) .e))))) none (.n (.n (.n (.n (.n (.n .e (some k64) .e) (some k32) .e) (some k16) (.n (.n .e (some k80) .e) (some k48) .e)) none (.n (.n .e (some k40) .e) none (.n .e (some k56) .e))) none (.n (.n (.n .e (some k36) .e) (some k20) .e) (some k12) (.n (.n (.n .e (some k76) .e) (some k44) .e) none .e))) none (.n (.n (.n (.n .e (some k34) .e) (some k18) .e) none (.n (.n .e (some k42) .e) (some k26) (.n .e (some k58) .e))) none (.n (.n (.n (.n .e (some k70) .e) (some k38) .e) (some k22) (.n .e (some k54) .e)) (some k14) (.n (.n .e (some k46) .e) (some k30) (.n (.n .e (some k94) .e) (some k62) .e))))))
def kl:List (Nat×CFn):=[(7,k7),(11,k11),(12,k12),(13,k13),(14,k14),(16,k16),(17,k17),(18,k18),(19,k19),(20,k20),(21,k21),(22,k22),(25,k25),(26,k26),(27,k27),(30,k30),(31,k31),(32,k32),(33,k33),(34,k34),(35,k35),(36,k36),(37,k37),(38,k38),(39,k39),(40,k40),(41,k41),(42,k42),(43,k43),(44,k44),(46,k46),(47,k47),(48,k48),(53,k53),(54,k54),(55,k55),(56,k56),(57,k57),(58,k58),(61,k61),(62,k62),(63,k63),(64,k64),(70,k70),(76,k76),(79,k79),(80,k80),(94,k94)]
theorem kl_ok:AllK Try.prog gl its kl:=⟨⟨Try.f7,Try.func7,.inl k7_ok⟩,⟨Try.f11,Try.func11,.inl k11_ok⟩,⟨Try.f12,Try.func12,.inl k12_ok⟩,⟨Try.f13,Try.func13,.inl k13_ok⟩,⟨Try.f14,Try.func14,.inl k14_ok⟩,⟨Try.f16,Try.func16,.inl k16_ok⟩,⟨Try.f17,Try.func17,.inl k17_ok⟩,⟨Try.f18,Try.func18,.inl k18_ok⟩,⟨Try.f19,Try.func19,.inl k19_ok⟩,⟨Try.f20,Try.func20,.inl k20_ok⟩,⟨Try.f21,Try.func21,.inl k21_ok⟩,⟨Try.f22,Try.func22,.inl k22_ok⟩,⟨Try.f25,Try.func25,.inl k25_ok⟩,⟨Try.f26,Try.func26,.inl k26_ok⟩,⟨Try.f27,Try.func27,.inl k27_ok⟩,⟨Try.f30,Try.func30,.inl k30_ok⟩,⟨Try.f31,Try.func31,.inl k31_ok⟩,⟨Try.f32,Try.func32,.inl k32_ok⟩,⟨Try.f33,Try.func33,.inr (.inl k33_ok)⟩,⟨Try.f34,Try.func34,.inl k34_ok⟩,⟨Try.f35,Try.func35,.inl k35_ok⟩,⟨Try.f36,Try.func36,.inl k36_ok⟩,⟨Try.f37,Try.func37,.inl k37_ok⟩,⟨Try.f38,Try.func38,.inl k38_ok⟩,⟨Try.f39,Try.func39,.inl k39_ok⟩,⟨Try.f40,Try.func40,.inl k40_ok⟩,⟨Try.f41,Try.func41,.inl k41_ok⟩,⟨Try.f42,Try.func42,.inl k42_ok⟩,⟨Try.f43,Try.func43,.inl k43_ok⟩,⟨Try.f44,Try.func44,.inl k44_ok⟩,⟨Try.f46,Try.func46,.inl k46_ok⟩,⟨Try.f47,Try.func47,.inl k47_ok⟩,⟨Try.f48,Try.func48,.inl k48_ok⟩,⟨Try.f53,Try.func53,.inl k53_ok⟩,⟨Try.f54,Try.func54,.inl k54_ok⟩,⟨Try.f55,Try.func55,.inl k55_ok⟩,⟨Try.f56,Try.func56,.inl k56_ok⟩,⟨Try.f57,Try.func57,.inl k57_ok⟩,⟨Try.f58,Try.func58,.inl k58_ok⟩,⟨Try.f61,Try.func61,.inl k61_ok⟩,⟨Try.f62,Try.func62,.inl k62_ok⟩,⟨Try.f63,Try.func63,.inl k63_ok⟩,⟨Try.f64,Try.func64,.inl k64_ok⟩,⟨Try.f70,Try.func70,.inl k70_ok⟩,⟨Try.f76,Try.func76,.inl k76_ok⟩,⟨Try.f79,Try.func79,.inl k79_ok⟩,⟨Try.f80,Try.func80,.inl k80_ok⟩,⟨Try.f94,Try.func94,.inl k94_ok⟩,trivial⟩
theorem prog_eq:prog=ofK kl:=by kernel_rfl
theorem prog_ok:ProgOK Try.prog gl prog:=prog_eq▸progOK_of its_ok kl_ok
end
end Vm
end Go.Proofs.Ytofimkliemlojaa
