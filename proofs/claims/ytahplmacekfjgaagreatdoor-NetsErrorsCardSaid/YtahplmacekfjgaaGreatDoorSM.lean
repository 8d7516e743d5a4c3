/-
  Nets: the jn7 functions of the chapter.
-/
import Derived.Test.YtahplmacekfjgaaGreatDoorVmP
import Derived.Test.YtahplmacekfjgaaGreatDoorVmWU
import Derived.Test.YtahplmacekfjgaaGreatDoorTt
import Derived.Test.YtahplmacekfjgaaGreatDoorTy
import Derived.Shelf.SlSortCmp.NoneTotal
set_option linter.unusedSimpArgs false
set_option linter.unusedVariables false
set_option linter.unusedSectionVars false
set_option linter.unnecessarySimpa false
namespace Go.Proofs.YtahplmacekfjgaaGreatDoor
namespace Vm
open Go Go.Vm Go.Vm.W Go.Vm.X
set_option maxRecDepth 100000
attribute [local irreducible] W WO SpecQ jq8
theorem jro {m1 m2:jm7} {f:FuncId} {az:List AV} {g:Tr Blk→Nat→Nat→Out} (h:m1 f az=some g):jkn m1 m2 f az=some g:=by unfold jkn;rw[h]
theorem jj7 {m1 m2:jm7} {f:FuncId} {az:List AV} {g:Tr Blk→Nat→Nat→Out} (h1:m1 f az=none) (h:m2 f az=some g):jkn m1 m2 f az=some g:=by unfold jkn;rw[h1];exact h
theorem keg {B:Base}:jiw Tryz.prog gl B (kbc 123):=kba ⟨Tryz.f123,Tryz.func123,by kernel_rfl,by kernel_rfl⟩ fun x w h0 h1=>Tryz.bits_Len64 x w h0 h1
theorem kef {B:Base}:jiw Tryz.prog gl B (ka9 133):=ka7 ⟨Tryz.f133,Tryz.func133,by kernel_rfl,by kernel_rfl⟩ fun x h w=>Tryz.internal_strconv_log10Pow2 x h w
def mm0:jm7:=jkn (kbc 123) (ka9 133)
theorem j58 {B:Base}:jiw Tryz.prog gl B mm0:=jjp keg kef
noncomputable abbrev R0 (mx:Int) (n:Nat):=jq8 (BB mx) mm0 prog n
noncomputable def jn7 (mx:Int):jm7:=jkn (tOf (R0 mx 7) 6 24 28) (jkn (j3h (R0 mx 7) 8 16 21) (jkn (joi 2 (svK tSQ cfS okS) 72 31) (jkn (joi 4 (svK tHG cfH okH) 73 35) (jkn (kbc 123) (ka9 133)))))
theorem ke7 (p:Option Addr) (c:Nat) (w:World):Calls Tryz.prog 72 #[.slice p 0 c,.func (.func 31) #[] #[]] w fun e w'=>e=.returned (.tuple #[])∧w'=w:=AnyF.slices_SortFunc_none (ρ:=Tryz.sortS_ren) { Tryz.sortS with } p c _ w
theorem ke6 (p:Option Addr) (c:Nat) (w:World):Calls Tryz.prog 73 #[.slice p 0 c,.func (.func 35) #[] #[]] w fun e w'=>e=.returned (.tuple #[])∧w'=w:=AnyF.slices_SortFunc_none (ρ:=Tryz.sortH_ren) { Tryz.sortH with } p c _ w
theorem kj8:Go.Vm.W.RowK Tryz.prog 2 (svK tSQ cfS okS) 72 31:=j5f (ρ:=Tryz.sortS_ren) Tryz.sortS (t:=tSQ) rfl Tryz.isAgg35 Tryz.sizeOf35 kj7 eqS (enters_of Tryz.func31 (by kernel_rfl) rfl) fun x y w=>N38.cmpS_walk x.1 x.2 y.1 y.2 w
theorem kj9:Go.Vm.W.RowK Tryz.prog 4 (svK tHG cfH okH) 73 35:=j5f (ρ:=Tryz.sortH_ren) Tryz.sortH (t:=tHG) rfl Tryz.isAgg39 Tryz.sizeOf39 kit eqH (enters_of Tryz.func35 (by kernel_rfl) rfl) fun x y w=>N38.cmpH_walk x.1.1 x.1.2 x.2.1 x.2.2 y.1.1 y.1.2 y.2.1 y.2.2 w
theorem kiq (it:Int→ByteArray) (S:List SqT) (H:List HgT):N38.txH it S H H.length=tlT it S H:=by unfold N38.txH;rw[List.take_length];rfl
theorem ka6 (mx:Int):jiw Tryz.prog gl (BB mx) (jn7 mx):=
 jjp (kee (xt:=25) (tN:=29) (tH:=39) (jsk j58 mixed jvs 7).1 (jsk j58 mixed jvs 7).2 ⟨Tryz.f6,Tryz.func6,by kernel_rfl,by kernel_rfl⟩ fun xv c bb S H R w h1 h2 h3 h4 h5 h6=>N38.of_walk w h1 h2 h3 h4 h5 h6)
 (jjp (j8b (jsk j58 mixed jvs 7).1 ⟨Tryz.f8,Tryz.func8,by kernel_rfl,by kernel_rfl⟩
   (fun it S H sb so sc hb ho hc ao w h1 h2 h3 h4 h5 h6 h7 h8=>(N38.text_walk w h1 h2 h3 h4 h5 h6 h7 h8).mono fun e w' ⟨q1,q2⟩=>⟨by rw[q1,kiq],q2⟩)
   fun sv hv c w hc h=>N38.text_walk0 sv hv c w hc h)
 (jjp (jxh ⟨Tryz.f72,Tryz.func72,by kernel_rfl,by kernel_rfl⟩ ke7 kj8)
   (jjp (jxh ⟨Tryz.f73,Tryz.func73,by kernel_rfl,by kernel_rfl⟩ ke6 kj9)
     (jjp keg kef))))
end Vm
end Go.Proofs.YtahplmacekfjgaaGreatDoor
