/-
  The program's text for the machine. (Printed by a program.)
  The program's text for the machine. (Printed by a program.)
  The program's text for the machine. (Printed by a program.)
-/
import Derived.Test.YtahplmacekfjgaaRows
import Derived.Test.YtahplmacekfjgaaVmWG
set_option linter.unusedSimpArgs false
set_option linter.unusedVariables false
set_option linter.unusedSectionVars false
set_option linter.unnecessarySimpa false
namespace Go.Proofs.Ytahplmacekfjgaa
namespace Vm
open Go Go.Vm Go.Vm.W
noncomputable section
set_option maxRecDepth 100000
def gl:List Nat:=[]
def nx0:Nat:=0
def ex:List (Nat×List AV):=[]
def es:List (Nat×List AV):=[]
def H0:Tr Blk:=.e
abbrev its:Its:=[]
theorem its_ok:ItsOK Try.prog gl its:=noIts_ok
theorem H0_eq (_:Int):ofEnts (ex++es)=H0:=by kernel_rfl
def BB (_:Int):Base:=⟨H0,nx0⟩
theorem mixed:Try.prog.follows .mixedOrders=true:=by kernel_rfl
end
end Vm
end Go.Proofs.Ytahplmacekfjgaa
namespace Go.Proofs.Ytahplmacekfjgaa
namespace Vm
open Go Go.Vm Go.Vm.W
noncomputable section
set_option maxRecDepth 100000
noncomputable def k4:CFn:=gk (cfn Try.prog gl Try.f4)
theorem k4_ok:cfn Try.prog gl Try.f4=some k4:=gk_ok (by kernel_rfl)
noncomputable def k7:CFn:=gk (cfn Try.prog gl Try.f7)
theorem k7_ok:cfn Try.prog gl Try.f7=some k7:=gk_ok (by kernel_rfl)
noncomputable def k8:CFn:=gk (cfn Try.prog gl Try.f8)
theorem k8_ok:cfn Try.prog gl Try.f8=some k8:=gk_ok (by kernel_rfl)
noncomputable def k9:CFn:=gk (cfn Try.prog gl Try.f9)
theorem k9_ok:cfn Try.prog gl Try.f9=some k9:=gk_ok (by kernel_rfl)
noncomputable def k11:CFn:=gk (cfn Try.prog gl Try.f11)
theorem k11_ok:cfn Try.prog gl Try.f11=some k11:=gk_ok (by kernel_rfl)
noncomputable def k13:CFn:=gk (cfn Try.prog gl Try.f13)
theorem k13_ok:cfn Try.prog gl Try.f13=some k13:=gk_ok (by kernel_rfl)
noncomputable def k14:CFn:=gk (cfn Try.prog gl Try.f14)
theorem k14_ok:cfn Try.prog gl Try.f14=some k14:=gk_ok (by kernel_rfl)
noncomputable def k15:CFn:=gk (cfn Try.prog gl Try.f15)
theorem k15_ok:cfn Try.prog gl Try.f15=some k15:=gk_ok (by kernel_rfl)
noncomputable def k16:CFn:=gk (cfn Try.prog gl Try.f16)
theorem k16_ok:cfn Try.prog gl Try.f16=some k16:=gk_ok (by kernel_rfl)
noncomputable def k17:CFn:=gk (cfn Try.prog gl Try.f17)
theorem k17_ok:cfn Try.prog gl Try.f17=some k17:=gk_ok (by kernel_rfl)
noncomputable def k18:CFn:=gk (cfn Try.prog gl Try.f18)
theorem k18_ok:cfn Try.prog gl Try.f18=some k18:=gk_ok (by kernel_rfl)
noncomputable def k19:CFn:=gk (cfn Try.prog gl Try.f19)
theorem k19_ok:cfn Try.prog gl Try.f19=some k19:=gk_ok (by kernel_rfl)
noncomputable def k20:CFn:=gk (cfn Try.prog gl Try.f20)
theorem k20_ok:cfn Try.prog gl Try.f20=some k20:=gk_ok (by kernel_rfl)
noncomputable def k21:CFn:=gk (cfn Try.prog gl Try.f21)
theorem k21_ok:cfn Try.prog gl Try.f21=some k21:=gk_ok (by kernel_rfl)
noncomputable def k22:CFn:=gk (cfn Try.prog gl Try.f22)
theorem k22_ok:cfn Try.prog gl Try.f22=some k22:=gk_ok (by kernel_rfl)
noncomputable def k23:CFn:=gk (cfn Try.prog gl Try.f23)
theorem k23_ok:cfn Try.prog gl Try.f23=some k23:=gk_ok (by kernel_rfl)
noncomputable def k28:CFn:=gk (cfn Try.prog gl Try.f28)
theorem k28_ok:cfn Try.prog gl Try.f28=some k28:=gk_ok (by kernel_rfl)
noncomputable def k29:CFn:=gk (cfn Try.prog gl Try.f29)
theorem k29_ok:cfn Try.prog gl Try.f29=some k29:=gk_ok (by kernel_rfl)
noncomputable def k30:CFn:=gk (cfn Try.prog gl Try.f30)
theorem k30_ok:cfn Try.prog gl Try.f30=some k30:=gk_ok (by kernel_rfl)
noncomputable def k31:CFn:=gk (cfn Try.prog gl Try.f31)
theorem k31_ok:cfn Try.prog gl Try.f31=some k31:=gk_ok (by kernel_rfl)
noncomputable def k32:CFn:=gk (cfn Try.prog gl Try.f32)
theorem k32_ok:cfn Try.prog gl Try.f32=some k32:=gk_ok (by kernel_rfl)
noncomputable def k33:CFn:=gk (cfn Try.prog gl Try.f33)
theorem k33_ok:cfn Try.prog gl Try.f33=some k33:=gk_ok (by kernel_rfl)
noncomputable def k34:CFn:=gk (cfn Try.prog gl Try.f34)
theorem k34_ok:cfn Try.prog gl Try.f34=some k34:=gk_ok (by kernel_rfl)
noncomputable def k35:CFn:=gk (cfn Try.prog gl Try.f35)
theorem k35_ok:cfn Try.prog gl Try.f35=some k35:=gk_ok (by kernel_rfl)
noncomputable def k36:CFn:=gk (cfn Try.prog gl Try.f36)
theorem k36_ok:cfn Try.prog gl Try.f36=some k36:=gk_ok (by kernel_rfl)
noncomputable def k37:CFn:=gk (cfn Try.prog gl Try.f37)
theorem k37_ok:cfn Try.prog gl Try.f37=some k37:=gk_ok (by kernel_rfl)
noncomputable def k38:CFn:=gk (cfn Try.prog gl Try.f38)
theorem k38_ok:cfn Try.prog gl Try.f38=some k38:=gk_ok (by kernel_rfl)
noncomputable def k39:CFn:=gk (cfn Try.prog gl Try.f39)
theorem k39_ok:cfn Try.prog gl Try.f39=some k39:=gk_ok (by kernel_rfl)
noncomputable def k40:CFn:=gk (cfn Try.prog gl Try.f40)
theorem k40_ok:cfn Try.prog gl Try.f40=some k40:=gk_ok (by kernel_rfl)
noncomputable def k42:CFn:=gk (cfn Try.prog gl Try.f42)
theorem k42_ok:cfn Try.prog gl Try.f42=some k42:=gk_ok (by kernel_rfl)
noncomputable def k43:CFn:=gk (cfn Try.prog gl Try.f43)
theorem k43_ok:cfn Try.prog gl Try.f43=some k43:=gk_ok (by kernel_rfl)
noncomputable def k44:CFn:=gk (cfn Try.prog gl Try.f44)
theorem k44_ok:cfn Try.prog gl Try.f44=some k44:=gk_ok (by kernel_rfl)
noncomputable def k45:CFn:=gk (cfn Try.prog gl Try.f45)
theorem k45_ok:cfn Try.prog gl Try.f45=some k45:=gk_ok (by kernel_rfl)
noncomputable def k46:CFn:=gk (cfn Try.prog gl Try.f46)
theorem k46_ok:cfn Try.prog gl Try.f46=some k46:=gk_ok (by kernel_rfl)
noncomputable def k47:CFn:=gk (cfn Try.prog gl Try.f47)
theorem k47_ok:cfn Try.prog gl Try.f47=some k47:=gk_ok (by kernel_rfl)
noncomputable def k48:CFn:=gk (cfn Try.prog gl Try.f48)
theorem k48_ok:cfn Try.prog gl Try.f48=some k48:=gk_ok (by kernel_rfl)
noncomputable def k49:CFn:=gk (cfn Try.prog gl Try.f49)
theorem k49_ok:cfn Try.prog gl Try.f49=some k49:=gk_ok (by kernel_rfl)
noncomputable def k52:CFn:=gk (cfn Try.prog gl Try.f52)
theorem k52_ok:cfn Try.prog gl Try.f52=some k52:=gk_ok (by kernel_rfl)
noncomputable def k53:CFn:=gk (cfn Try.prog gl Try.f53)
theorem k53_ok:cfn Try.prog gl Try.f53=some k53:=gk_ok (by kernel_rfl)
noncomputable def k54:CFn:=gk (cfn Try.prog gl Try.f54)
theorem k54_ok:cfn Try.prog gl Try.f54=some k54:=gk_ok (by kernel_rfl)
noncomputable def k55:CFn:=gk (cfn Try.prog gl Try.f55)
theorem k55_ok:cfn Try.prog gl Try.f55=some k55:=gk_ok (by kernel_rfl)
noncomputable def k58:CFn:=gk (cfn Try.prog gl Try.f58)
theorem k58_ok:cfn Try.prog gl Try.f58=some k58:=gk_ok (by kernel_rfl)
noncomputable def k59:CFn:=gk (cfn Try.prog gl Try.f59)
theorem k59_ok:cfn Try.prog gl Try.f59=some k59:=gk_ok (by kernel_rfl)
noncomputable def k60:CFn:=gk (cfn Try.prog gl Try.f60)
theorem k60_ok:cfn Try.prog gl Try.f60=some k60:=gk_ok (by kernel_rfl)
noncomputable def k61:CFn:=gk (cfn Try.prog gl Try.f61)
theorem k61_ok:cfn Try.prog gl Try.f61=some k61:=gk_ok (by kernel_rfl)
noncomputable def k62:CFn:=gk (cfn Try.prog gl Try.f62)
theorem k62_ok:cfn Try.prog gl Try.f62=some k62:=gk_ok (by kernel_rfl)
noncomputable def k63:CFn:=gk (cfn Try.prog gl Try.f63)
theorem k63_ok:cfn Try.prog gl Try.f63=some k63:=gk_ok (by kernel_rfl)
noncomputable def k64:CFn:=gk (cfn Try.prog gl Try.f64)
theorem k64_ok:cfn Try.prog gl Try.f64=some k64:=gk_ok (by kernel_rfl)
noncomputable def k65:CFn:=gk (cfn Try.prog gl Try.f65)
theorem k65_ok:cfn Try.prog gl Try.f65=some k65:=gk_ok (by kernel_rfl)
noncomputable def k66:CFn:=gk (cfn Try.prog gl Try.f66)
theorem k66_ok:cfn Try.prog gl Try.f66=some k66:=gk_ok (by kernel_rfl)
noncomputable def k67:CFn:=gk (cfn Try.prog gl Try.f67)
theorem k67_ok:cfn Try.prog gl Try.f67=some k67:=gk_ok (by kernel_rfl)
noncomputable def k71:CFn:=gk (cfn Try.prog gl Try.f71)
theorem k71_ok:cfn Try.prog gl Try.f71=some k71:=gk_ok (by kernel_rfl)
noncomputable def k72:CFn:=gk (cfn Try.prog gl Try.f72)
theorem k72_ok:cfn Try.prog gl Try.f72=some k72:=gk_ok (by kernel_rfl)
end
end Vm
end Go.Proofs.Ytahplmacekfjgaa
namespace Go.Proofs.Ytahplmacekfjgaa
namespace Vm
open Go Go.Vm Go.Vm.W
noncomputable section
set_option maxRecDepth 100000
attribute [local irreducible] k4 k7 k8 k9 k11 k13 k14 k15 k16 k17 k18 k19 k20 k21 k22 k23 k28 k29 k30 k31 k32 k33 k34 k35 k36 k37 k38 k39 k40 k42 k43 k44 k45 k46 k47 k48 k49 k52 k53 k54 k55 k58 k59 k60 k61 k62 k63 k64 k65 k66 k67 k71 k72
def prog:Tr CFn:=(.n (.n (.n (.n (.n (.n (.n .e (some k63) .e) (some k31) .e) (some k15) (.n .e (some k47) .e)) (some k7) (.n (.n (.n .e (some k71) .e) (some k39) .e) (some k23) (.n .e (some k55) .e))) none (.n (.n (.n (.n .e (some k67) .e) (some k35) .e) (some k19) .e) (some k11) (.n (.n .e (some k43) .e) none (.n .e (some k59) .e)))) none (.n (.n (.n (.n (.n .e (some k65) .e) (some k33) .e) (some k17) (.n .e (some k49) .e)) (some k9) .e) none (.n (.n (.n .e (some k37) .e) (some k21) (.n .e (some k53) .e)) (some k13) (.n (.n .e (some k45) .e) (some k29) (.n .e (some k61) .e))))) none (.n (.n (.n (.n (.n (.n .e (some k64) .e) (some k32) .e) (some k16) (.n .e (some k48) .e)) (some k8) (.n (.n (.n .e (some k72) .e) (some k40) .e) none .e)) (some k4) (.n (.n (.n .e (some k36) .e) (some k20) (.n .e (some k52) .e)) none (.n (.n .e (some k44) .e) (some k28) (.n .e (some k60) .e)))) none (.n (.n (.n (.n (.n .e (some k66) .e) (some k34) .e) (some k18) .e) none (.n (.n .e (some k42) .e) none (.n .e (some k58) .e))) none (.n (.n (.n .e (some k38) .e) (some k22) (.n .e (some k54) .e)) (some k14) (.n (.n .e (some k46) .e) (some k30) (.n .e (some k62) .e))))))
def kl:List (Nat×CFn):=[(4,k4),(7,k7),(8,k8),(9,k9),(11,k11),(13,k13),(14,k14),(15,k15),(16,k16),(17,k17),(18,k18),(19,k19),(20,k20),(21,k21),(22,k22),(23,k23),(28,k28),(29,k29),(30,k30),(31,k31),(32,k32),(33,k33),(34,k34),(35,k35),(36,k36),(37,k37),(38,k38),(39,k39),(40,k40),(42,k42),(43,k43),(44,k44),(45,k45),(46,k46),(47,k47),(48,k48),(49,k49),(52,k52),(53,k53),(54,k54),(55,k55),(58,k58),(59,k59),(60,k60),(61,k61),(62,k62),(63,k63),(64,k64),(65,k65),(66,k66),(67,k67),(71,k71),(72,k72)]
theorem kl_ok:AllK Try.prog gl its kl:=⟨⟨Try.f4,Try.func4,.inl k4_ok⟩,⟨Try.f7,Try.func7,.inl k7_ok⟩,⟨Try.f8,Try.func8,.inl k8_ok⟩,⟨Try.f9,Try.func9,.inl k9_ok⟩,⟨Try.f11,Try.func11,.inl k11_ok⟩,⟨Try.f13,Try.func13,.inl k13_ok⟩,⟨Try.f14,Try.func14,.inl k14_ok⟩,⟨Try.f15,Try.func15,.inl k15_ok⟩,⟨Try.f16,Try.func16,.inl k16_ok⟩,⟨Try.f17,Try.func17,.inl k17_ok⟩,⟨Try.f18,Try.func18,.inl k18_ok⟩,⟨Try.f19,Try.func19,.inl k19_ok⟩,⟨Try.f20,Try.func20,.inl k20_ok⟩,⟨Try.f21,Try.func21,.inl k21_ok⟩,⟨Try.f22,Try.func22,.inl k22_ok⟩,⟨Try.f23,Try.func23,.inl k23_ok⟩,⟨Try.f28,Try.func28,.inl k28_ok⟩,⟨Try.f29,Try.func29,.inl k29_ok⟩,⟨Try.f30,Try.func30,.inl k30_ok⟩,⟨Try.f31,Try.func31,.inl k31_ok⟩,⟨Try.f32,Try.func32,.inl k32_ok⟩,⟨Try.f33,Try.func33,.inl k33_ok⟩,⟨Try.f34,Try.func34,.inl k34_ok⟩,⟨Try.f35,Try.func35,.inl k35_ok⟩,⟨Try.f36,Try.func36,.inl k36_ok⟩,⟨Try.f37,Try.func37,.inl k37_ok⟩,⟨Try.f38,Try.func38,.inl k38_ok⟩,⟨Try.f39,Try.func39,.inl k39_ok⟩,⟨Try.f40,Try.func40,.inl k40_ok⟩,⟨Try.f42,Try.func42,.inl k42_ok⟩,⟨Try.f43,Try.func43,.inl k43_ok⟩,⟨Try.f44,Try.func44,.inl k44_ok⟩,⟨Try.f45,Try.func45,.inl k45_ok⟩,⟨Try.f46,Try.func46,.inl k46_ok⟩,⟨Try.f47,Try.func47,.inl k47_ok⟩,⟨Try.f48,Try.func48,.inl k48_ok⟩,⟨Try.f49,Try.func49,.inl k49_ok⟩,⟨Try.f52,Try.func52,.inl k52_ok⟩,⟨Try.f53,Try.func53,.inl k53_ok⟩,⟨Try.f54,Try.func54,.inl k54_ok⟩,⟨Try.f55,Try.func55,.inl k55_ok⟩,⟨Try.f58,Try.func58,.inl k58_ok⟩,⟨Try.f59,Try.func59,.inl k59_ok⟩,⟨Try.f60,Try.func60,.inl k60_ok⟩,⟨Try.f61,Try.func61,.inl k61_ok⟩,⟨Try.f62,Try.func62,.inl k62_ok⟩,⟨Try.f63,Try.func63,.inl k63_ok⟩,⟨Try.f64,Try.func64,.inl k64_ok⟩,⟨Try.f65,Try.func65,.inl k65_ok⟩,⟨Try.f66,Try.func66,.inl k66_ok⟩,⟨Try.f67,Try.func67,.inl k67_ok⟩,⟨Try.f71,Try.func71,.inl k71_ok⟩,⟨Try.f72,Try.func72,.inl k72_ok⟩,trivial⟩
theorem prog_eq:prog=ofK kl:=by kernel_rfl
theorem prog_ok:ProgOK Try.prog gl prog:=prog_eq▸progOK_of its_ok kl_ok
end
end Vm
end Go.Proofs.Ytahplmacekfjgaa
